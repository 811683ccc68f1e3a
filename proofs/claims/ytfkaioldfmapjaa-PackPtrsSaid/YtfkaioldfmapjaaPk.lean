import Derived.Test.YtfkaioldfmapjaaPj
namespace Go.Proofs.Ytfkaioldfmapjaa
open Go.RowKit Go.HL

theorem docEncode_calls {w : World} {ao : Option Addr} {c : Nat} {l : List Item} (hr : RSl (· < w.heap.size) w eit ao c l) (hl : l.length ≤ 9223372036854775807) (hwf : ∀ i ∈ l, RIt i) :
    Calls Try.prog 15 [.slice ao l.length c].toArray w (Ret fun v w' => v = .tuple #[.string ⟨(if checkE l = 0 then encAll l else []).toArray⟩, vi (checkE l)] ∧ Chg Nob w w') := by
  have hw := Chg.refl Nob w
  refine Calls.of_WC Try.func15 rfl Try.ntmps15 (by simp) ?_
  refine WC.seq (WC.region (WL.assign rfl rfl (WL.assign rfl rfl (WL.nil (WX.then_normal (WC.seq (WC.region (?_))))))))
  refine WL.move rfl rfl (?_)
  refine WL.call eg_33 rfl rfl (rcheck_calls hr hl) ?_
  rintro v w1 ⟨rfl, k⟩
  have zs_k := k.size
  replace hr := hr.pure k
  replace hw := hw.pure k
  refine WL.assign rfl rfl (WL.nil (WX.then_normal (WC.seq (WC.seq (WC.region (WL.move rfl rfl (?_)))))))
  refine WL.neq? rfl rfl rfl (fun h8 => ?_) (fun h8 => ?_)
  ·
    refine WL.nil (WX.then_normal (WC.cond_true rfl (WC.seq (WC.region (WL.move rfl rfl (WL.assign rfl rfl (WL.assign rfl rfl (?_))))))))
    refine WL.nil (WX.then_normal (WC.ret (WX.then_ret (?_))))
    refine WX.ret2 (.inl rfl) Try.results15 rfl rfl ?_
    refine ⟨_, rfl, ?_, hw⟩
    first
      | (rw [if_neg h8])
      | (rw [if_pos h8, h8])
  ·
    refine WL.nil (WX.then_normal (WC.cond_false rfl (WC.skip (WX.then_normal (WC.seq (WC.region (WL.move rfl rfl (?_))))))))
    obtain ⟨hlen, hall⟩ := checkE_ok h8
    have hr1 := hr.old
    refine WL.call eg_34 rfl rfl (rencode_calls hr1 hlen hall hwf) ?_
    rintro v w1 ⟨rfl, k⟩
    have zs_k := k.size
    replace hr := hr.pure k
    replace hw := hw.pure k
    refine WL.assign rfl rfl (WL.assign rfl rfl (WL.nil (WX.then_normal (WC.ret (?_)))))
    refine WX.ret2 (.inl rfl) Try.results15 rfl rfl ?_
    refine ⟨_, rfl, ?_, hw⟩
    first
      | (rw [if_neg h8])
      | (rw [if_pos h8, h8])
def decL (b : List UInt8) : List Item := (dec 0 b).getD []
def decE (b : List UInt8) : Int := if (dec 0 b).isSome then 0 else 2
theorem decode_calls' {w : World} {ao : Option Addr} {c : Nat} {b : List UInt8} (hr : RSl (· < w.heap.size) w eb ao c b) (hl : b.length ≤ 140737488351232) :
    Calls Try.prog 17 [.slice ao b.length c].toArray w (Ret fun v w' => (∃ (ao' : Option Addr) (c' : Nat), v = .tuple #[.slice ao' (decL b).length c', vi (decE b)] ∧ Row (w.heap.size ≤ ·) w' 37 eit ao' c' (decL b)) ∧ Chg Nob w w') := by
  refine (decode_calls hr hl).mono ?_
  rintro e w' ⟨v, rfl, (⟨l, ao', c', rfl, h, hq⟩ | ⟨rfl, h⟩), k⟩
  · refine ⟨_, rfl, ⟨ao', c', ?_, ?_⟩, k⟩
    · simp [decL, decE, h]
    · simpa [decL, h] using hq
  · refine ⟨_, rfl, ⟨none, 0, ?_, ?_⟩, k⟩
    · simp [decL, decE, h]
    · simpa [decL, h] using Row.nil _ _ _ _
theorem ba_drop (s : ByteArray) (n : Nat) : (s.extract n s.size).data.toList = s.data.toList.drop n := by
  simp
  rw [List.take_of_length_le (by simp)]
theorem ba_take (s : ByteArray) (n : Nat) : s.extract 0 n = ⟨(s.data.toList.take n).toArray⟩ := by
  apply ByteArray.ext
  apply Array.ext'
  simp
theorem ba_nil {s : ByteArray} : s = ⟨#[]⟩ ↔ s.data.toList = [] := by
  constructor
  · rintro rfl; rfl
  · intro h
    apply ByteArray.ext
    apply Array.ext'
    simpa using h
set_option maxHeartbeats 1000000 in
theorem rdecode_calls {w : World} {s0 : ByteArray} (hl : s0.size ≤ 140737488351232) :
    Calls Try.prog 16 [.string s0].toArray w (Ret fun v w' => (∃ (ao' : Option Addr) (c' : Nat), v = .tuple #[.slice ao' (decL s0.data.toList).length c', vi (decE s0.data.toList)] ∧ Row (w.heap.size ≤ ·) w' 37 eit ao' c' (decL s0.data.toList)) ∧ Chg Nob w w') := by
  refine Calls.of_WC Try.func16 rfl Try.ntmps16 (by simp) ?_
  refine WC.seq (WC.region (WL.assign rfl rfl (WL.assign rfl rfl (WL.nil (WX.then_normal (WC.seq (WC.region (?_))))))))
  refine WL.assign rfl rfl (WL.nil (WX.then_normal (WC.seq (WC.block (?_)))))
  refine WC.loop (σ := (List Item × Option Addr × Nat) × ByteArray) (fun q => [(4, .slice q.1.2.1 q.1.1.length q.1.2.2), (0, .string q.2)])
    (fun q w' => q.1.1.length ≤ 2000 ∧ q.2.size ≤ s0.size ∧ decI s0.data.toList q.1.1 q.2.data.toList ∧ Row (w.heap.size ≤ ·) w' 37 eit q.1.2.1 q.1.2.2 q.1.1 ∧ Chg Nob w w') (fun q => q.2.size) (([], none, 0), s0) ⟨rfl, rfl, trivial⟩ ⟨by simp, Nat.le_refl _, decI_start _, Row.nil _ _ _ _, Chg.refl _ _⟩ ?_
  rintro ⟨⟨out, a1, c1⟩, s⟩ w1 ⟨ho, hbl, hi, hq, kk⟩
  dsimp only at ho hbl hi hq kk ⊢
  have zk := kk.size
  refine WC.seq (WC.seq (WC.region (WL.move rfl rfl (?_))))
  refine WL.sneq? rfl rfl rfl (fun h11 => ?_) (fun h11 => ?_)
  ·
    refine WL.nil (WX.then_normal (WC.cond_true rfl (WC.skip (WX.then_normal (WC.block (WC.seq (WC.region (?_))))))))
    refine WL.move rfl rfl (?_)
    obtain ⟨x, bs', hs⟩ : ∃ x bs', s.data.toList = x :: bs' := by
      cases hs : s.data.toList with
      | nil => exact absurd (ba_nil.2 hs) h11
      | cons x r => exact ⟨x, r, rfl⟩
    have hx : s.data.toList[0]? = some x := by rw [hs]; rfl
    have hxl := x.toNat_lt
    have hsz : s.size = bs'.length + 1 := by rw [show s.size = s.data.toList.length from by simp, hs]; rfl
    rw [hs] at hi
    refine WL.sindex Try.underlying9 rfl rfl _ rfl _ hx rfl ?_
    refine WL.assign rfl rfl (WL.nil (WX.then_normal (WC.seq (WC.region (WL.move rfl rfl (?_))))))
    refine WL.sslice (l := 1) (h := s.size) (j := .i64) Try.underlying9 rfl (.inl rfl) (.inr ⟨rfl, rfl⟩) (by constructor <;> omega) rfl ?_
    have e1 : (s.extract 1 s.size).data.toList = bs' := by rw [ba_drop, hs]; rfl
    refine WL.call eg_35 rfl rfl (number_calls (by simp; omega)) ?_
    rw [e1]
    rintro v w2 ⟨(⟨u, r, rfl, hc⟩ | ⟨rfl, hc⟩), k2⟩
    ·
      have zs_k2 := k2.size
      replace kk := kk.pure k2
      replace hq := hq.pure k2
      have hrb := (ctd_bound bs' 0 (by omega) hc).2.2
      have erz : r.data.toList.length = r.size := by simp
      have e64 : ((B64 (r.size : Int)).toNat : Int) = r.size := by rw [B64_nat (by omega)]
      have e2 : (u / 2).toNat = u.toNat / 2 := by simp
      have hul : u.toNat / 2 ≤ 9223372036854775807 := by have := u.toNat_lt; omega
      have e3 : (u % 2).toNat = u.toNat % 2 := by simp
      refine WL.move rfl rfl (WL.extract rfl rfl rfl (WL.extract rfl rfl rfl (WL.extract rfl rfl rfl (WL.assign rfl rfl (WL.assign rfl rfl (WL.assign rfl rfl (WL.nil (?_))))))))
      refine WX.then_normal (WC.seq (WC.seq (WC.region (WL.move rfl rfl (WL.not rfl rfl (WL.move rfl rfl (WL.want rfl rfl rfl (?_))))))))
      refine WL.move rfl rfl (WL.want rfl rfl rfl (?_))
      refine WL.neq? rfl rfl rfl (fun h25 => ?_) (fun h25 => ?_)
      ·
        refine WL.want rfl rfl rfl (WL.move rfl rfl (WL.want rfl rfl rfl (WL.move rfl rfl (WL.want rfl rfl rfl (?_)))))
        refine WL.neq? rfl rfl rfl (fun h28 => ?_) (fun h28 => ?_)
        ·
          refine WL.want rfl rfl rfl (WL.pickT rfl rfl rfl (WL.pickF rfl rfl rfl (WL.move rfl rfl (WL.pass rfl rfl rfl rfl (WL.pass rfl rfl rfl rfl (WL.pass rfl rfl rfl rfl (WL.pickT rfl rfl rfl (?_))))))))
          refine WL.nil (WX.then_normal (WC.cond_true rfl (WC.seq (WC.region (WL.assign rfl rfl (WL.assign rfl rfl (WL.nil (?_))))))))
          refine WX.then_normal (WC.ret (WX.then_ret (WX.block_ret (WX.then_ret (WX.block_ret (WX.then_ret (?_)))))))
          refine WX.ret2 (.inl rfl) Try.results16 rfl rfl ?_
          first
            | (refine ⟨_, rfl, ⟨a1, c1, ?_, ?_⟩, kk⟩ <;> (
                 have hnil : s.data.toList = [] := ba_nil.1 h11
                 rw [hnil] at hi
                 have he := decI_end hi
                 simp only [decL, decE, he])
               ·
                 rfl
               ·
                 exact hq)
            | (have he : dec 0 s0.data.toList = none := by
                 refine decI_bad hi ?_
                 first
                   | exact dec_none hc
                   | (rw [dec_some hc]
                      by_cases hn : out.length = 2000
                      ·
                        rw [if_pos hn]
                      ·
                        rw [if_neg hn]
                        first
                          | (exfalso; omega)
                          | (have h1 : ¬ x.toNat = 1 := by omega
                             have h2 : ¬ (x.toNat = 2 ∧ u.toNat ≤ 4000 ∧ u.toNat ≤ r.data.toList.length) := by omega
                             rw [if_neg h1, if_neg h2]))
               refine ⟨_, rfl, ⟨none, 0, ?_, ?_⟩, kk⟩ <;> simp only [decL, decE, he]
               ·
                 rfl
               ·
                 exact Row.nil _ _ _ _)
        ·
          refine WL.want rfl rfl rfl (WL.pickT rfl rfl rfl (WL.pickF rfl rfl rfl (WL.move rfl rfl (WL.want rfl rfl rfl (WL.move rfl rfl (WL.want rfl rfl rfl (WL.len Try.underlying22 rfl rfl (?_))))))))
          refine WL.want rfl rfl rfl (?_)
          refine WL.eql? rfl rfl rfl (fun h34 => ?_) (fun h34 => ?_)
          ·
            refine WL.pickF rfl rfl rfl (WL.nil (WX.then_normal (WC.cond_true rfl (WC.seq (WC.region (WL.assign rfl rfl (WL.assign rfl rfl (?_))))))))
            refine WL.nil (WX.then_normal (WC.ret (WX.then_ret (WX.block_ret (WX.then_ret (WX.block_ret (WX.then_ret (?_))))))))
            refine WX.ret2 (.inl rfl) Try.results16 rfl rfl ?_
            first
              | (refine ⟨_, rfl, ⟨a1, c1, ?_, ?_⟩, kk⟩ <;> (
                   have hnil : s.data.toList = [] := ba_nil.1 h11
                   rw [hnil] at hi
                   have he := decI_end hi
                   simp only [decL, decE, he])
                 ·
                   rfl
                 ·
                   exact hq)
              | (have he : dec 0 s0.data.toList = none := by
                   refine decI_bad hi ?_
                   first
                     | exact dec_none hc
                     | (rw [dec_some hc]
                        by_cases hn : out.length = 2000
                        ·
                          rw [if_pos hn]
                        ·
                          rw [if_neg hn]
                          first
                            | (exfalso; omega)
                            | (have h1 : ¬ x.toNat = 1 := by omega
                               have h2 : ¬ (x.toNat = 2 ∧ u.toNat ≤ 4000 ∧ u.toNat ≤ r.data.toList.length) := by omega
                               rw [if_neg h1, if_neg h2]))
                 refine ⟨_, rfl, ⟨none, 0, ?_, ?_⟩, kk⟩ <;> simp only [decL, decE, he]
                 ·
                   rfl
                 ·
                   exact Row.nil _ _ _ _)
          ·
            refine WL.pickF rfl rfl rfl (WL.nil (WX.then_normal (WC.cond_false rfl (WC.skip (WX.then_normal (WC.seq (WC.seq (?_))))))))
            refine WC.region (WL.move rfl rfl (?_))
            refine WL.eql? rfl rfl rfl (fun h37 => ?_) (fun h37 => ?_)
            ·
              refine WL.nil (WX.then_normal (WC.cond_true rfl (WC.seq (WC.region (WL.move rfl rfl (WL.num rfl rfl (n_quo64 _ _ _ 2 (by decide)) rfl (?_)))))))
              refine WL.c_u64_i64s (n := u.toNat / 2) Try.underlying38 Try.underlying3 rfl ⟨e2, by have := u.toNat_lt; omega⟩ rfl ?_
              refine WL.assign rfl rfl (WL.nil (WX.then_normal (WC.seq (WC.seq (WC.region (WL.move rfl rfl (WL.num rfl rfl (n_rem64 _ _ _ 2 (by decide)) rfl (?_))))))))
              refine WL.eql? rfl rfl rfl (fun h43 => ?_) (fun h43 => ?_)
              ·
                refine WL.nil (WX.then_normal (WC.cond_true rfl (WC.region (WL.move rfl rfl (WL.neg64 rfl (by first | omega | (constructor <;> omega)) rfl (WL.sub64 rfl rfl (by first | omega | (constructor <;> omega)) rfl (WL.assign rfl rfl (?_))))))))
                refine WL.nil (WX.then_normal (WC.seq (WC.region (WL.move rfl rfl (WL.move rfl rfl (WL.bld rfl (bld_37_0_1 _ _) rfl (?_)))))))
                rw [e3] at h43
                refine WL.build (e := eit) [⟨1, _, ⟨#[]⟩⟩] Try.underlying22 Try.sizeOf37 Try.zeroValue37 rfl rfl rfl (by first | (simp [Value.cells]; done) | (simp [Value.cells] <;> rfl) | (simp [Value.cells, eb, ei, es, ebool, e32, e64]; done)) (by decide) rfl ?_
                intro a_hn w_hn hn l_hn z_hn k_hn
                have zs_k_hn := k_hn.size
                replace kk := kk.pure k_hn
                replace hq := hq.pure k_hn
                refine WL.append (e := eit) info_37 rfl Try.underlying22 rfl rfl hq (hn.rsl.src Try.underlying22) (by (try simp only [List.length_append, List.length_cons, List.length_nil] at *); omega) (by intro b hb; first | (apply hS; omega) | ((try dsimp only); omega)) rfl ?_
                intro a_hq2 c_hq2 w_hq2 hq2 g_hq2 n_hq2
                have z_hq2 := g_hq2.chg.size
                have zs_g_hq2_chg := g_hq2.chg.size
                replace kk := kk.chg g_hq2.chg (by first | (intro h1; have h2 : _ = _ := h1; exfalso; omega) | (intros; exfalso; (try dsimp only at *); omega) | (intro b h1 h2 h3; exfalso; have h4 := h3.2; (try dsimp only at *); omega) | (intro h1; exfalso; have h4 := h1.2; (try dsimp only at *); omega) | (intro x h1 h2; exfalso; have h4 := h2.2; (try dsimp only at *); omega))
                refine WL.assign rfl rfl (WL.nil (WX.then_normal (WC.seq (WC.region (WL.move rfl rfl (WL.assign rfl rfl (WL.nil (?_))))))))
                refine WX.then_normal (WC.exit (WX.then_exit (WX.block_here (?_))))
                first
                  | (have hn2 : ¬ out.length = 2000 := by omega
                     have h1 : x.toNat = 1 := by omega
                     first
                       | (have eu : unz u.toNat = -((u.toNat / 2 : Nat) : Int) - 1 := if_pos (by omega)
                          refine WX.loop_next ((out ++ [⟨1, -((u.toNat / 2 : Nat) : Int) - 1, ⟨#[]⟩⟩], a_hq2, c_hq2), r) ⟨rfl, rfl, trivial⟩ ⟨by dsimp only; simp; omega, by dsimp only; omega, ?_, hq2, kk⟩ (by show r.size < s.size; omega)
                          refine decI_step hi ?_
                          rw [dec_some hc, if_neg hn2, if_pos h1, eu]
                          done)
                       | (have eu : unz u.toNat = ((u.toNat / 2 : Nat) : Int) := if_neg (by omega)
                          refine WX.loop_next ((out ++ [⟨1, ((u.toNat / 2 : Nat) : Int), ⟨#[]⟩⟩], a_hq2, c_hq2), r) ⟨rfl, rfl, trivial⟩ ⟨by dsimp only; simp; omega, by dsimp only; omega, ?_, hq2, kk⟩ (by show r.size < s.size; omega)
                          refine decI_step hi ?_
                          rw [dec_some hc, if_neg hn2, if_pos h1, eu]))
                  | (have hn2 : ¬ out.length = 2000 := by omega
                     have h1 : ¬ x.toNat = 1 := by omega
                     have h2 : x.toNat = 2 ∧ u.toNat ≤ 4000 ∧ u.toNat ≤ r.data.toList.length := by omega
                     refine WX.loop_next ((out ++ [⟨2, 0, r.extract 0 u.toNat⟩], a_hq2, c_hq2), r.extract u.toNat r.size) ⟨rfl, rfl, trivial⟩ ⟨by dsimp only; simp; omega, by dsimp only; simp; omega, ?_, hq2, kk⟩ (by show (r.extract u.toNat r.size).size < s.size; simp; omega)
                     rw [ba_drop, ba_take]
                     refine decI_step hi ?_
                     rw [dec_some hc, if_neg hn2, if_neg h1, if_pos h2])
              ·
                refine WL.nil (WX.then_normal (WC.cond_false rfl (WC.skip (WX.then_normal (WC.seq (WC.region (WL.move rfl rfl (?_))))))))
                refine WL.move rfl rfl (WL.bld rfl (bld_37_0_1 _ _) rfl (?_))
                rw [e3] at h43
                refine WL.build (e := eit) [⟨1, _, ⟨#[]⟩⟩] Try.underlying22 Try.sizeOf37 Try.zeroValue37 rfl rfl rfl (by first | (simp [Value.cells]; done) | (simp [Value.cells] <;> rfl) | (simp [Value.cells, eb, ei, es, ebool, e32, e64]; done)) (by decide) rfl ?_
                intro a_hn w_hn hn l_hn z_hn k_hn
                have zs_k_hn := k_hn.size
                replace kk := kk.pure k_hn
                replace hq := hq.pure k_hn
                refine WL.append (e := eit) info_37 rfl Try.underlying22 rfl rfl hq (hn.rsl.src Try.underlying22) (by (try simp only [List.length_append, List.length_cons, List.length_nil] at *); omega) (by intro b hb; first | (apply hS; omega) | ((try dsimp only); omega)) rfl ?_
                intro a_hq2 c_hq2 w_hq2 hq2 g_hq2 n_hq2
                have z_hq2 := g_hq2.chg.size
                have zs_g_hq2_chg := g_hq2.chg.size
                replace kk := kk.chg g_hq2.chg (by first | (intro h1; have h2 : _ = _ := h1; exfalso; omega) | (intros; exfalso; (try dsimp only at *); omega) | (intro b h1 h2 h3; exfalso; have h4 := h3.2; (try dsimp only at *); omega) | (intro h1; exfalso; have h4 := h1.2; (try dsimp only at *); omega) | (intro x h1 h2; exfalso; have h4 := h2.2; (try dsimp only at *); omega))
                refine WL.assign rfl rfl (WL.nil (WX.then_normal (WC.seq (WC.region (WL.move rfl rfl (WL.assign rfl rfl (WL.nil (?_))))))))
                refine WX.then_normal (WC.exit (WX.then_exit (WX.block_here (?_))))
                first
                  | (have hn2 : ¬ out.length = 2000 := by omega
                     have h1 : x.toNat = 1 := by omega
                     first
                       | (have eu : unz u.toNat = -((u.toNat / 2 : Nat) : Int) - 1 := if_pos (by omega)
                          refine WX.loop_next ((out ++ [⟨1, -((u.toNat / 2 : Nat) : Int) - 1, ⟨#[]⟩⟩], a_hq2, c_hq2), r) ⟨rfl, rfl, trivial⟩ ⟨by dsimp only; simp; omega, by dsimp only; omega, ?_, hq2, kk⟩ (by show r.size < s.size; omega)
                          refine decI_step hi ?_
                          rw [dec_some hc, if_neg hn2, if_pos h1, eu]
                          done)
                       | (have eu : unz u.toNat = ((u.toNat / 2 : Nat) : Int) := if_neg (by omega)
                          refine WX.loop_next ((out ++ [⟨1, ((u.toNat / 2 : Nat) : Int), ⟨#[]⟩⟩], a_hq2, c_hq2), r) ⟨rfl, rfl, trivial⟩ ⟨by dsimp only; simp; omega, by dsimp only; omega, ?_, hq2, kk⟩ (by show r.size < s.size; omega)
                          refine decI_step hi ?_
                          rw [dec_some hc, if_neg hn2, if_pos h1, eu]))
                  | (have hn2 : ¬ out.length = 2000 := by omega
                     have h1 : ¬ x.toNat = 1 := by omega
                     have h2 : x.toNat = 2 ∧ u.toNat ≤ 4000 ∧ u.toNat ≤ r.data.toList.length := by omega
                     refine WX.loop_next ((out ++ [⟨2, 0, r.extract 0 u.toNat⟩], a_hq2, c_hq2), r.extract u.toNat r.size) ⟨rfl, rfl, trivial⟩ ⟨by dsimp only; simp; omega, by dsimp only; simp; omega, ?_, hq2, kk⟩ (by show (r.extract u.toNat r.size).size < s.size; simp; omega)
                     rw [ba_drop, ba_take]
                     refine decI_step hi ?_
                     rw [dec_some hc, if_neg hn2, if_neg h1, if_pos h2])
            ·
              refine WL.nil (WX.then_normal (WC.cond_false rfl (WC.skip (WX.then_normal (WC.seq (WC.seq (WC.region (?_))))))))
              refine WL.move rfl rfl (?_)
              refine WL.gtr? rfl rfl rfl (fun h54 => ?_) (fun h54 => ?_)
              ·
                refine WL.move rfl rfl (WL.pass rfl rfl rfl rfl (WL.pass rfl rfl rfl rfl (WL.pass rfl rfl rfl rfl (WL.pass rfl rfl rfl rfl (WL.pass rfl rfl rfl rfl (WL.pickT rfl rfl rfl (WL.nil (?_))))))))
                refine WX.then_normal (WC.cond_true rfl (WC.seq (WC.region (WL.assign rfl rfl (WL.assign rfl rfl (WL.nil (WX.then_normal (?_))))))))
                refine WC.ret (WX.then_ret (WX.block_ret (WX.then_ret (WX.block_ret (WX.then_ret (?_))))))
                refine WX.ret2 (.inl rfl) Try.results16 rfl rfl ?_
                first
                  | (refine ⟨_, rfl, ⟨a1, c1, ?_, ?_⟩, kk⟩ <;> (
                       have hnil : s.data.toList = [] := ba_nil.1 h11
                       rw [hnil] at hi
                       have he := decI_end hi
                       simp only [decL, decE, he])
                     ·
                       rfl
                     ·
                       exact hq)
                  | (have he : dec 0 s0.data.toList = none := by
                       refine decI_bad hi ?_
                       first
                         | exact dec_none hc
                         | (rw [dec_some hc]
                            by_cases hn : out.length = 2000
                            ·
                              rw [if_pos hn]
                            ·
                              rw [if_neg hn]
                              first
                                | (exfalso; omega)
                                | (have h1 : ¬ x.toNat = 1 := by omega
                                   have h2 : ¬ (x.toNat = 2 ∧ u.toNat ≤ 4000 ∧ u.toNat ≤ r.data.toList.length) := by omega
                                   rw [if_neg h1, if_neg h2]))
                     refine ⟨_, rfl, ⟨none, 0, ?_, ?_⟩, kk⟩ <;> simp only [decL, decE, he]
                     ·
                       rfl
                     ·
                       exact Row.nil _ _ _ _)
              ·
                refine WL.move rfl rfl (WL.want rfl rfl rfl (WL.move rfl rfl (WL.want rfl rfl rfl (WL.move rfl rfl (WL.want rfl rfl rfl (WL.lens Try.underlying9 rfl rfl (WL.want rfl rfl rfl (?_))))))))
                refine WL.c_i64_u64 Try.underlying3 Try.underlying38 rfl rfl (WL.want rfl rfl rfl (?_))
                refine WL.gtr? rfl rfl rfl (fun h60 => ?_) (fun h60 => ?_)
                ·
                  refine WL.pickF rfl rfl rfl (WL.nil (WX.then_normal (WC.cond_true rfl (WC.seq (WC.region (WL.assign rfl rfl (WL.assign rfl rfl (?_))))))))
                  refine WL.nil (WX.then_normal (WC.ret (WX.then_ret (WX.block_ret (WX.then_ret (WX.block_ret (WX.then_ret (?_))))))))
                  refine WX.ret2 (.inl rfl) Try.results16 rfl rfl ?_
                  first
                    | (refine ⟨_, rfl, ⟨a1, c1, ?_, ?_⟩, kk⟩ <;> (
                         have hnil : s.data.toList = [] := ba_nil.1 h11
                         rw [hnil] at hi
                         have he := decI_end hi
                         simp only [decL, decE, he])
                       ·
                         rfl
                       ·
                         exact hq)
                    | (have he : dec 0 s0.data.toList = none := by
                         refine decI_bad hi ?_
                         first
                           | exact dec_none hc
                           | (rw [dec_some hc]
                              by_cases hn : out.length = 2000
                              ·
                                rw [if_pos hn]
                              ·
                                rw [if_neg hn]
                                first
                                  | (exfalso; omega)
                                  | (have h1 : ¬ x.toNat = 1 := by omega
                                     have h2 : ¬ (x.toNat = 2 ∧ u.toNat ≤ 4000 ∧ u.toNat ≤ r.data.toList.length) := by omega
                                     rw [if_neg h1, if_neg h2]))
                       refine ⟨_, rfl, ⟨none, 0, ?_, ?_⟩, kk⟩ <;> simp only [decL, decE, he]
                       ·
                         rfl
                       ·
                         exact Row.nil _ _ _ _)
                ·
                  refine WL.pickF rfl rfl rfl (WL.nil (WX.then_normal (WC.cond_false rfl (WC.skip (WX.then_normal (WC.seq (WC.region (?_))))))))
                  refine WL.move rfl rfl (WL.move rfl rfl (WL.move rfl rfl (?_)))
                  refine WL.sslice (l := 0) (h := u.toNat) (k := .i64) Try.underlying9 rfl (.inr ⟨rfl, rfl⟩) (.inl rfl) (by constructor <;> omega) rfl ?_
                  refine WL.bld rfl (bld_37_0_2 _ _) rfl (?_)
                  refine WL.build (e := eit) [⟨2, 0, r.extract 0 u.toNat⟩] Try.underlying22 Try.sizeOf37 Try.zeroValue37 rfl rfl rfl (by first | (simp [Value.cells]; done) | (simp [Value.cells] <;> rfl) | (simp [Value.cells, eb, ei, es, ebool, e32, e64]; done)) (by decide) rfl ?_
                  intro a_hn w_hn hn l_hn z_hn k_hn
                  have zs_k_hn := k_hn.size
                  replace kk := kk.pure k_hn
                  replace hq := hq.pure k_hn
                  refine WL.append (e := eit) info_37 rfl Try.underlying22 rfl rfl hq (hn.rsl.src Try.underlying22) (by (try simp only [List.length_append, List.length_cons, List.length_nil] at *); omega) (by intro b hb; first | (apply hS; omega) | ((try dsimp only); omega)) rfl ?_
                  intro a_hq2 c_hq2 w_hq2 hq2 g_hq2 n_hq2
                  have z_hq2 := g_hq2.chg.size
                  have zs_g_hq2_chg := g_hq2.chg.size
                  replace kk := kk.chg g_hq2.chg (by first | (intro h1; have h2 : _ = _ := h1; exfalso; omega) | (intros; exfalso; (try dsimp only at *); omega) | (intro b h1 h2 h3; exfalso; have h4 := h3.2; (try dsimp only at *); omega) | (intro h1; exfalso; have h4 := h1.2; (try dsimp only at *); omega) | (intro x h1 h2; exfalso; have h4 := h2.2; (try dsimp only at *); omega))
                  refine WL.assign rfl rfl (WL.nil (WX.then_normal (WC.region (WL.move rfl rfl (WL.move rfl rfl (?_))))))
                  refine WL.sslice (l := u.toNat) (h := r.size) (j := .i64) Try.underlying9 rfl (.inl rfl) (.inr ⟨rfl, rfl⟩) (by constructor <;> omega) rfl ?_
                  refine WL.assign rfl rfl (WL.nil (WX.block_normal (?_)))
                  first
                    | (have hn2 : ¬ out.length = 2000 := by omega
                       have h1 : x.toNat = 1 := by omega
                       first
                         | (have eu : unz u.toNat = -((u.toNat / 2 : Nat) : Int) - 1 := if_pos (by omega)
                            refine WX.loop_next ((out ++ [⟨1, -((u.toNat / 2 : Nat) : Int) - 1, ⟨#[]⟩⟩], a_hq2, c_hq2), r) ⟨rfl, rfl, trivial⟩ ⟨by dsimp only; simp; omega, by dsimp only; omega, ?_, hq2, kk⟩ (by show r.size < s.size; omega)
                            refine decI_step hi ?_
                            rw [dec_some hc, if_neg hn2, if_pos h1, eu]
                            done)
                         | (have eu : unz u.toNat = ((u.toNat / 2 : Nat) : Int) := if_neg (by omega)
                            refine WX.loop_next ((out ++ [⟨1, ((u.toNat / 2 : Nat) : Int), ⟨#[]⟩⟩], a_hq2, c_hq2), r) ⟨rfl, rfl, trivial⟩ ⟨by dsimp only; simp; omega, by dsimp only; omega, ?_, hq2, kk⟩ (by show r.size < s.size; omega)
                            refine decI_step hi ?_
                            rw [dec_some hc, if_neg hn2, if_pos h1, eu]))
                    | (have hn2 : ¬ out.length = 2000 := by omega
                       have h1 : ¬ x.toNat = 1 := by omega
                       have h2 : x.toNat = 2 ∧ u.toNat ≤ 4000 ∧ u.toNat ≤ r.data.toList.length := by omega
                       refine WX.loop_next ((out ++ [⟨2, 0, r.extract 0 u.toNat⟩], a_hq2, c_hq2), r.extract u.toNat r.size) ⟨rfl, rfl, trivial⟩ ⟨by dsimp only; simp; omega, by dsimp only; simp; omega, ?_, hq2, kk⟩ (by show (r.extract u.toNat r.size).size < s.size; simp; omega)
                       rw [ba_drop, ba_take]
                       refine decI_step hi ?_
                       rw [dec_some hc, if_neg hn2, if_neg h1, if_pos h2])
      ·
        refine WL.want rfl rfl rfl (WL.move rfl rfl (WL.pass rfl rfl rfl rfl (WL.pass rfl rfl rfl rfl (WL.want rfl rfl rfl (WL.pickF rfl rfl rfl (WL.pickF rfl rfl rfl (WL.move rfl rfl (?_))))))))
        refine WL.want rfl rfl rfl (WL.move rfl rfl (WL.want rfl rfl rfl (WL.len Try.underlying22 rfl rfl (WL.want rfl rfl rfl (?_)))))
        refine WL.eql? rfl rfl rfl (fun h34 => ?_) (fun h34 => ?_)
        ·
          refine WL.pickF rfl rfl rfl (WL.nil (WX.then_normal (WC.cond_true rfl (WC.seq (WC.region (WL.assign rfl rfl (WL.assign rfl rfl (?_))))))))
          refine WL.nil (WX.then_normal (WC.ret (WX.then_ret (WX.block_ret (WX.then_ret (WX.block_ret (WX.then_ret (?_))))))))
          refine WX.ret2 (.inl rfl) Try.results16 rfl rfl ?_
          first
            | (refine ⟨_, rfl, ⟨a1, c1, ?_, ?_⟩, kk⟩ <;> (
                 have hnil : s.data.toList = [] := ba_nil.1 h11
                 rw [hnil] at hi
                 have he := decI_end hi
                 simp only [decL, decE, he])
               ·
                 rfl
               ·
                 exact hq)
            | (have he : dec 0 s0.data.toList = none := by
                 refine decI_bad hi ?_
                 first
                   | exact dec_none hc
                   | (rw [dec_some hc]
                      by_cases hn : out.length = 2000
                      ·
                        rw [if_pos hn]
                      ·
                        rw [if_neg hn]
                        first
                          | (exfalso; omega)
                          | (have h1 : ¬ x.toNat = 1 := by omega
                             have h2 : ¬ (x.toNat = 2 ∧ u.toNat ≤ 4000 ∧ u.toNat ≤ r.data.toList.length) := by omega
                             rw [if_neg h1, if_neg h2]))
               refine ⟨_, rfl, ⟨none, 0, ?_, ?_⟩, kk⟩ <;> simp only [decL, decE, he]
               ·
                 rfl
               ·
                 exact Row.nil _ _ _ _)
        ·
          refine WL.pickF rfl rfl rfl (WL.nil (WX.then_normal (WC.cond_false rfl (WC.skip (WX.then_normal (WC.seq (WC.seq (?_))))))))
          refine WC.region (WL.move rfl rfl (?_))
          refine WL.eql? rfl rfl rfl (fun h37 => ?_) (fun h37 => ?_)
          ·
            refine WL.nil (WX.then_normal (WC.cond_true rfl (WC.seq (WC.region (WL.move rfl rfl (WL.num rfl rfl (n_quo64 _ _ _ 2 (by decide)) rfl (?_)))))))
            refine WL.c_u64_i64s (n := u.toNat / 2) Try.underlying38 Try.underlying3 rfl ⟨e2, by have := u.toNat_lt; omega⟩ rfl ?_
            refine WL.assign rfl rfl (WL.nil (WX.then_normal (WC.seq (WC.seq (WC.region (WL.move rfl rfl (WL.num rfl rfl (n_rem64 _ _ _ 2 (by decide)) rfl (?_))))))))
            refine WL.eql? rfl rfl rfl (fun h43 => ?_) (fun h43 => ?_)
            ·
              refine WL.nil (WX.then_normal (WC.cond_true rfl (WC.region (WL.move rfl rfl (WL.neg64 rfl (by first | omega | (constructor <;> omega)) rfl (WL.sub64 rfl rfl (by first | omega | (constructor <;> omega)) rfl (WL.assign rfl rfl (?_))))))))
              refine WL.nil (WX.then_normal (WC.seq (WC.region (WL.move rfl rfl (WL.move rfl rfl (WL.bld rfl (bld_37_0_1 _ _) rfl (?_)))))))
              rw [e3] at h43
              refine WL.build (e := eit) [⟨1, _, ⟨#[]⟩⟩] Try.underlying22 Try.sizeOf37 Try.zeroValue37 rfl rfl rfl (by first | (simp [Value.cells]; done) | (simp [Value.cells] <;> rfl) | (simp [Value.cells, eb, ei, es, ebool, e32, e64]; done)) (by decide) rfl ?_
              intro a_hn w_hn hn l_hn z_hn k_hn
              have zs_k_hn := k_hn.size
              replace kk := kk.pure k_hn
              replace hq := hq.pure k_hn
              refine WL.append (e := eit) info_37 rfl Try.underlying22 rfl rfl hq (hn.rsl.src Try.underlying22) (by (try simp only [List.length_append, List.length_cons, List.length_nil] at *); omega) (by intro b hb; first | (apply hS; omega) | ((try dsimp only); omega)) rfl ?_
              intro a_hq2 c_hq2 w_hq2 hq2 g_hq2 n_hq2
              have z_hq2 := g_hq2.chg.size
              have zs_g_hq2_chg := g_hq2.chg.size
              replace kk := kk.chg g_hq2.chg (by first | (intro h1; have h2 : _ = _ := h1; exfalso; omega) | (intros; exfalso; (try dsimp only at *); omega) | (intro b h1 h2 h3; exfalso; have h4 := h3.2; (try dsimp only at *); omega) | (intro h1; exfalso; have h4 := h1.2; (try dsimp only at *); omega) | (intro x h1 h2; exfalso; have h4 := h2.2; (try dsimp only at *); omega))
              refine WL.assign rfl rfl (WL.nil (WX.then_normal (WC.seq (WC.region (WL.move rfl rfl (WL.assign rfl rfl (WL.nil (?_))))))))
              refine WX.then_normal (WC.exit (WX.then_exit (WX.block_here (?_))))
              first
                | (have hn2 : ¬ out.length = 2000 := by omega
                   have h1 : x.toNat = 1 := by omega
                   first
                     | (have eu : unz u.toNat = -((u.toNat / 2 : Nat) : Int) - 1 := if_pos (by omega)
                        refine WX.loop_next ((out ++ [⟨1, -((u.toNat / 2 : Nat) : Int) - 1, ⟨#[]⟩⟩], a_hq2, c_hq2), r) ⟨rfl, rfl, trivial⟩ ⟨by dsimp only; simp; omega, by dsimp only; omega, ?_, hq2, kk⟩ (by show r.size < s.size; omega)
                        refine decI_step hi ?_
                        rw [dec_some hc, if_neg hn2, if_pos h1, eu]
                        done)
                     | (have eu : unz u.toNat = ((u.toNat / 2 : Nat) : Int) := if_neg (by omega)
                        refine WX.loop_next ((out ++ [⟨1, ((u.toNat / 2 : Nat) : Int), ⟨#[]⟩⟩], a_hq2, c_hq2), r) ⟨rfl, rfl, trivial⟩ ⟨by dsimp only; simp; omega, by dsimp only; omega, ?_, hq2, kk⟩ (by show r.size < s.size; omega)
                        refine decI_step hi ?_
                        rw [dec_some hc, if_neg hn2, if_pos h1, eu]))
                | (have hn2 : ¬ out.length = 2000 := by omega
                   have h1 : ¬ x.toNat = 1 := by omega
                   have h2 : x.toNat = 2 ∧ u.toNat ≤ 4000 ∧ u.toNat ≤ r.data.toList.length := by omega
                   refine WX.loop_next ((out ++ [⟨2, 0, r.extract 0 u.toNat⟩], a_hq2, c_hq2), r.extract u.toNat r.size) ⟨rfl, rfl, trivial⟩ ⟨by dsimp only; simp; omega, by dsimp only; simp; omega, ?_, hq2, kk⟩ (by show (r.extract u.toNat r.size).size < s.size; simp; omega)
                   rw [ba_drop, ba_take]
                   refine decI_step hi ?_
                   rw [dec_some hc, if_neg hn2, if_neg h1, if_pos h2])
            ·
              refine WL.nil (WX.then_normal (WC.cond_false rfl (WC.skip (WX.then_normal (WC.seq (WC.region (WL.move rfl rfl (?_))))))))
              refine WL.move rfl rfl (WL.bld rfl (bld_37_0_1 _ _) rfl (?_))
              rw [e3] at h43
              refine WL.build (e := eit) [⟨1, _, ⟨#[]⟩⟩] Try.underlying22 Try.sizeOf37 Try.zeroValue37 rfl rfl rfl (by first | (simp [Value.cells]; done) | (simp [Value.cells] <;> rfl) | (simp [Value.cells, eb, ei, es, ebool, e32, e64]; done)) (by decide) rfl ?_
              intro a_hn w_hn hn l_hn z_hn k_hn
              have zs_k_hn := k_hn.size
              replace kk := kk.pure k_hn
              replace hq := hq.pure k_hn
              refine WL.append (e := eit) info_37 rfl Try.underlying22 rfl rfl hq (hn.rsl.src Try.underlying22) (by (try simp only [List.length_append, List.length_cons, List.length_nil] at *); omega) (by intro b hb; first | (apply hS; omega) | ((try dsimp only); omega)) rfl ?_
              intro a_hq2 c_hq2 w_hq2 hq2 g_hq2 n_hq2
              have z_hq2 := g_hq2.chg.size
              have zs_g_hq2_chg := g_hq2.chg.size
              replace kk := kk.chg g_hq2.chg (by first | (intro h1; have h2 : _ = _ := h1; exfalso; omega) | (intros; exfalso; (try dsimp only at *); omega) | (intro b h1 h2 h3; exfalso; have h4 := h3.2; (try dsimp only at *); omega) | (intro h1; exfalso; have h4 := h1.2; (try dsimp only at *); omega) | (intro x h1 h2; exfalso; have h4 := h2.2; (try dsimp only at *); omega))
              refine WL.assign rfl rfl (WL.nil (WX.then_normal (WC.seq (WC.region (WL.move rfl rfl (WL.assign rfl rfl (WL.nil (?_))))))))
              refine WX.then_normal (WC.exit (WX.then_exit (WX.block_here (?_))))
              first
                | (have hn2 : ¬ out.length = 2000 := by omega
                   have h1 : x.toNat = 1 := by omega
                   first
                     | (have eu : unz u.toNat = -((u.toNat / 2 : Nat) : Int) - 1 := if_pos (by omega)
                        refine WX.loop_next ((out ++ [⟨1, -((u.toNat / 2 : Nat) : Int) - 1, ⟨#[]⟩⟩], a_hq2, c_hq2), r) ⟨rfl, rfl, trivial⟩ ⟨by dsimp only; simp; omega, by dsimp only; omega, ?_, hq2, kk⟩ (by show r.size < s.size; omega)
                        refine decI_step hi ?_
                        rw [dec_some hc, if_neg hn2, if_pos h1, eu]
                        done)
                     | (have eu : unz u.toNat = ((u.toNat / 2 : Nat) : Int) := if_neg (by omega)
                        refine WX.loop_next ((out ++ [⟨1, ((u.toNat / 2 : Nat) : Int), ⟨#[]⟩⟩], a_hq2, c_hq2), r) ⟨rfl, rfl, trivial⟩ ⟨by dsimp only; simp; omega, by dsimp only; omega, ?_, hq2, kk⟩ (by show r.size < s.size; omega)
                        refine decI_step hi ?_
                        rw [dec_some hc, if_neg hn2, if_pos h1, eu]))
                | (have hn2 : ¬ out.length = 2000 := by omega
                   have h1 : ¬ x.toNat = 1 := by omega
                   have h2 : x.toNat = 2 ∧ u.toNat ≤ 4000 ∧ u.toNat ≤ r.data.toList.length := by omega
                   refine WX.loop_next ((out ++ [⟨2, 0, r.extract 0 u.toNat⟩], a_hq2, c_hq2), r.extract u.toNat r.size) ⟨rfl, rfl, trivial⟩ ⟨by dsimp only; simp; omega, by dsimp only; simp; omega, ?_, hq2, kk⟩ (by show (r.extract u.toNat r.size).size < s.size; simp; omega)
                   rw [ba_drop, ba_take]
                   refine decI_step hi ?_
                   rw [dec_some hc, if_neg hn2, if_neg h1, if_pos h2])
          ·
            refine WL.nil (WX.then_normal (WC.cond_false rfl (WC.skip (WX.then_normal (WC.seq (WC.seq (WC.region (?_))))))))
            refine WL.move rfl rfl (?_)
            refine WL.gtr? rfl rfl rfl (fun h54 => ?_) (fun h54 => ?_)
            ·
              refine WL.move rfl rfl (WL.pass rfl rfl rfl rfl (WL.pass rfl rfl rfl rfl (WL.pass rfl rfl rfl rfl (WL.pass rfl rfl rfl rfl (WL.pass rfl rfl rfl rfl (WL.pickT rfl rfl rfl (WL.nil (?_))))))))
              refine WX.then_normal (WC.cond_true rfl (WC.seq (WC.region (WL.assign rfl rfl (WL.assign rfl rfl (WL.nil (WX.then_normal (?_))))))))
              refine WC.ret (WX.then_ret (WX.block_ret (WX.then_ret (WX.block_ret (WX.then_ret (?_))))))
              refine WX.ret2 (.inl rfl) Try.results16 rfl rfl ?_
              first
                | (refine ⟨_, rfl, ⟨a1, c1, ?_, ?_⟩, kk⟩ <;> (
                     have hnil : s.data.toList = [] := ba_nil.1 h11
                     rw [hnil] at hi
                     have he := decI_end hi
                     simp only [decL, decE, he])
                   ·
                     rfl
                   ·
                     exact hq)
                | (have he : dec 0 s0.data.toList = none := by
                     refine decI_bad hi ?_
                     first
                       | exact dec_none hc
                       | (rw [dec_some hc]
                          by_cases hn : out.length = 2000
                          ·
                            rw [if_pos hn]
                          ·
                            rw [if_neg hn]
                            first
                              | (exfalso; omega)
                              | (have h1 : ¬ x.toNat = 1 := by omega
                                 have h2 : ¬ (x.toNat = 2 ∧ u.toNat ≤ 4000 ∧ u.toNat ≤ r.data.toList.length) := by omega
                                 rw [if_neg h1, if_neg h2]))
                   refine ⟨_, rfl, ⟨none, 0, ?_, ?_⟩, kk⟩ <;> simp only [decL, decE, he]
                   ·
                     rfl
                   ·
                     exact Row.nil _ _ _ _)
            ·
              refine WL.move rfl rfl (WL.want rfl rfl rfl (WL.move rfl rfl (WL.want rfl rfl rfl (WL.move rfl rfl (WL.want rfl rfl rfl (WL.lens Try.underlying9 rfl rfl (WL.want rfl rfl rfl (?_))))))))
              refine WL.c_i64_u64 Try.underlying3 Try.underlying38 rfl rfl (WL.want rfl rfl rfl (?_))
              refine WL.gtr? rfl rfl rfl (fun h60 => ?_) (fun h60 => ?_)
              ·
                refine WL.pickF rfl rfl rfl (WL.nil (WX.then_normal (WC.cond_true rfl (WC.seq (WC.region (WL.assign rfl rfl (WL.assign rfl rfl (?_))))))))
                refine WL.nil (WX.then_normal (WC.ret (WX.then_ret (WX.block_ret (WX.then_ret (WX.block_ret (WX.then_ret (?_))))))))
                refine WX.ret2 (.inl rfl) Try.results16 rfl rfl ?_
                first
                  | (refine ⟨_, rfl, ⟨a1, c1, ?_, ?_⟩, kk⟩ <;> (
                       have hnil : s.data.toList = [] := ba_nil.1 h11
                       rw [hnil] at hi
                       have he := decI_end hi
                       simp only [decL, decE, he])
                     ·
                       rfl
                     ·
                       exact hq)
                  | (have he : dec 0 s0.data.toList = none := by
                       refine decI_bad hi ?_
                       first
                         | exact dec_none hc
                         | (rw [dec_some hc]
                            by_cases hn : out.length = 2000
                            ·
                              rw [if_pos hn]
                            ·
                              rw [if_neg hn]
                              first
                                | (exfalso; omega)
                                | (have h1 : ¬ x.toNat = 1 := by omega
                                   have h2 : ¬ (x.toNat = 2 ∧ u.toNat ≤ 4000 ∧ u.toNat ≤ r.data.toList.length) := by omega
                                   rw [if_neg h1, if_neg h2]))
                     refine ⟨_, rfl, ⟨none, 0, ?_, ?_⟩, kk⟩ <;> simp only [decL, decE, he]
                     ·
                       rfl
                     ·
                       exact Row.nil _ _ _ _)
              ·
                refine WL.pickF rfl rfl rfl (WL.nil (WX.then_normal (WC.cond_false rfl (WC.skip (WX.then_normal (WC.seq (WC.region (?_))))))))
                refine WL.move rfl rfl (WL.move rfl rfl (WL.move rfl rfl (?_)))
                refine WL.sslice (l := 0) (h := u.toNat) (k := .i64) Try.underlying9 rfl (.inr ⟨rfl, rfl⟩) (.inl rfl) (by constructor <;> omega) rfl ?_
                refine WL.bld rfl (bld_37_0_2 _ _) rfl (?_)
                refine WL.build (e := eit) [⟨2, 0, r.extract 0 u.toNat⟩] Try.underlying22 Try.sizeOf37 Try.zeroValue37 rfl rfl rfl (by first | (simp [Value.cells]; done) | (simp [Value.cells] <;> rfl) | (simp [Value.cells, eb, ei, es, ebool, e32, e64]; done)) (by decide) rfl ?_
                intro a_hn w_hn hn l_hn z_hn k_hn
                have zs_k_hn := k_hn.size
                replace kk := kk.pure k_hn
                replace hq := hq.pure k_hn
                refine WL.append (e := eit) info_37 rfl Try.underlying22 rfl rfl hq (hn.rsl.src Try.underlying22) (by (try simp only [List.length_append, List.length_cons, List.length_nil] at *); omega) (by intro b hb; first | (apply hS; omega) | ((try dsimp only); omega)) rfl ?_
                intro a_hq2 c_hq2 w_hq2 hq2 g_hq2 n_hq2
                have z_hq2 := g_hq2.chg.size
                have zs_g_hq2_chg := g_hq2.chg.size
                replace kk := kk.chg g_hq2.chg (by first | (intro h1; have h2 : _ = _ := h1; exfalso; omega) | (intros; exfalso; (try dsimp only at *); omega) | (intro b h1 h2 h3; exfalso; have h4 := h3.2; (try dsimp only at *); omega) | (intro h1; exfalso; have h4 := h1.2; (try dsimp only at *); omega) | (intro x h1 h2; exfalso; have h4 := h2.2; (try dsimp only at *); omega))
                refine WL.assign rfl rfl (WL.nil (WX.then_normal (WC.region (WL.move rfl rfl (WL.move rfl rfl (?_))))))
                refine WL.sslice (l := u.toNat) (h := r.size) (j := .i64) Try.underlying9 rfl (.inl rfl) (.inr ⟨rfl, rfl⟩) (by constructor <;> omega) rfl ?_
                refine WL.assign rfl rfl (WL.nil (WX.block_normal (?_)))
                first
                  | (have hn2 : ¬ out.length = 2000 := by omega
                     have h1 : x.toNat = 1 := by omega
                     first
                       | (have eu : unz u.toNat = -((u.toNat / 2 : Nat) : Int) - 1 := if_pos (by omega)
                          refine WX.loop_next ((out ++ [⟨1, -((u.toNat / 2 : Nat) : Int) - 1, ⟨#[]⟩⟩], a_hq2, c_hq2), r) ⟨rfl, rfl, trivial⟩ ⟨by dsimp only; simp; omega, by dsimp only; omega, ?_, hq2, kk⟩ (by show r.size < s.size; omega)
                          refine decI_step hi ?_
                          rw [dec_some hc, if_neg hn2, if_pos h1, eu]
                          done)
                       | (have eu : unz u.toNat = ((u.toNat / 2 : Nat) : Int) := if_neg (by omega)
                          refine WX.loop_next ((out ++ [⟨1, ((u.toNat / 2 : Nat) : Int), ⟨#[]⟩⟩], a_hq2, c_hq2), r) ⟨rfl, rfl, trivial⟩ ⟨by dsimp only; simp; omega, by dsimp only; omega, ?_, hq2, kk⟩ (by show r.size < s.size; omega)
                          refine decI_step hi ?_
                          rw [dec_some hc, if_neg hn2, if_pos h1, eu]))
                  | (have hn2 : ¬ out.length = 2000 := by omega
                     have h1 : ¬ x.toNat = 1 := by omega
                     have h2 : x.toNat = 2 ∧ u.toNat ≤ 4000 ∧ u.toNat ≤ r.data.toList.length := by omega
                     refine WX.loop_next ((out ++ [⟨2, 0, r.extract 0 u.toNat⟩], a_hq2, c_hq2), r.extract u.toNat r.size) ⟨rfl, rfl, trivial⟩ ⟨by dsimp only; simp; omega, by dsimp only; simp; omega, ?_, hq2, kk⟩ (by show (r.extract u.toNat r.size).size < s.size; simp; omega)
                     rw [ba_drop, ba_take]
                     refine decI_step hi ?_
                     rw [dec_some hc, if_neg hn2, if_neg h1, if_pos h2])
    ·
      have zs_k2 := k2.size
      replace kk := kk.pure k2
      replace hq := hq.pure k2
      refine WL.move rfl rfl (WL.extract rfl rfl rfl (WL.extract rfl rfl rfl (WL.extract rfl rfl rfl (WL.assign rfl rfl (WL.assign rfl rfl (WL.assign rfl rfl (WL.nil (?_))))))))
      refine WX.then_normal (WC.seq (WC.seq (WC.region (WL.move rfl rfl (WL.not rfl rfl (WL.move rfl rfl (WL.pass rfl rfl rfl rfl (?_))))))))
      refine WL.pass rfl rfl rfl rfl (WL.pass rfl rfl rfl rfl (WL.passU rfl rfl rfl (WL.passU rfl rfl rfl (WL.pass rfl rfl rfl rfl (WL.pickT rfl rfl rfl (WL.move rfl rfl (WL.pass rfl rfl rfl rfl (?_))))))))
      refine WL.pass rfl rfl rfl rfl (WL.pass rfl rfl rfl rfl (WL.pickT rfl rfl rfl (WL.nil (WX.then_normal (WC.cond_true rfl (WC.seq (WC.region (?_))))))))
      refine WL.assign rfl rfl (WL.assign rfl rfl (WL.nil (WX.then_normal (WC.ret (WX.then_ret (WX.block_ret (WX.then_ret (?_))))))))
      refine WX.block_ret (WX.then_ret (?_))
      refine WX.ret2 (.inl rfl) Try.results16 rfl rfl ?_
      first
        | (refine ⟨_, rfl, ⟨a1, c1, ?_, ?_⟩, kk⟩ <;> (
             have hnil : s.data.toList = [] := ba_nil.1 h11
             rw [hnil] at hi
             have he := decI_end hi
             simp only [decL, decE, he])
           ·
             rfl
           ·
             exact hq)
        | (have he : dec 0 s0.data.toList = none := by
             refine decI_bad hi ?_
             first
               | exact dec_none hc
               | (rw [dec_some hc]
                  by_cases hn : out.length = 2000
                  ·
                    rw [if_pos hn]
                  ·
                    rw [if_neg hn]
                    first
                      | (exfalso; omega)
                      | (have h1 : ¬ x.toNat = 1 := by omega
                         have h2 : ¬ (x.toNat = 2 ∧ u.toNat ≤ 4000 ∧ u.toNat ≤ r.data.toList.length) := by omega
                         rw [if_neg h1, if_neg h2]))
           refine ⟨_, rfl, ⟨none, 0, ?_, ?_⟩, kk⟩ <;> simp only [decL, decE, he]
           ·
             rfl
           ·
             exact Row.nil _ _ _ _)
  ·
    refine WL.nil (WX.then_normal (WC.cond_false rfl (WC.exit (WX.then_exit (WX.then_exit (WX.block_here (WX.then_normal (?_))))))))
    refine WC.seq (WC.region (WL.move rfl rfl (WL.assign rfl rfl (WL.assign rfl rfl (WL.nil (WX.then_normal (WC.ret (?_))))))))
    refine WX.ret2 (.inl rfl) Try.results16 rfl rfl ?_
    first
      | (refine ⟨_, rfl, ⟨a1, c1, ?_, ?_⟩, kk⟩ <;> (
           have hnil : s.data.toList = [] := ba_nil.1 h11
           rw [hnil] at hi
           have he := decI_end hi
           simp only [decL, decE, he])
         ·
           rfl
         ·
           exact hq)
      | (have he : dec 0 s0.data.toList = none := by
           refine decI_bad hi ?_
           first
             | exact dec_none hc
             | (rw [dec_some hc]
                by_cases hn : out.length = 2000
                ·
                  rw [if_pos hn]
                ·
                  rw [if_neg hn]
                  first
                    | (exfalso; omega)
                    | (have h1 : ¬ x.toNat = 1 := by omega
                       have h2 : ¬ (x.toNat = 2 ∧ u.toNat ≤ 4000 ∧ u.toNat ≤ r.data.toList.length) := by omega
                       rw [if_neg h1, if_neg h2]))
         refine ⟨_, rfl, ⟨none, 0, ?_, ?_⟩, kk⟩ <;> simp only [decL, decE, he]
         ·
           rfl
         ·
           exact Row.nil _ _ _ _)
end Go.Proofs.Ytfkaioldfmapjaa
