import Derived.Test.YtcdbkfaebgficaaDoorQPackApart3
namespace Go.Proofs.YtcdbkfaebgficaaDoor
open Go.RowKit Go.HL

def decL (b : List UInt8) : List Item := (dec 0 b).getD []
def decE (b : List UInt8) : Int := if (dec 0 b).isSome then 0 else 2
theorem decode_calls' {w : World} {ao : Option Addr} {c : Nat} {b : List UInt8} (hr : RSl (· < w.heap.size) w eb ao c b) (hl : b.length ≤ 140737488351232) :
    Calls Tryd.prog 15 [.slice ao b.length c].toArray w (Ret fun v w' => (∃ (ao' : Option Addr) (c' : Nat), v = .tuple #[.slice ao' (decL b).length c', vi (decE b)] ∧ Row (w.heap.size ≤ ·) w' 31 eit ao' c' (decL b)) ∧ Chg Nob w w') := by
  refine (decode_calls hr hl).mono ?_
  rintro e w' ⟨v, rfl, (⟨l, ao', c', rfl, h, hq⟩ | ⟨rfl, h⟩), k⟩
  · refine ⟨_, rfl, ⟨ao', c', ?_, ?_⟩, k⟩
    · simp [decL, decE, h]
    · simpa [decL, h] using hq
  · refine ⟨_, rfl, ⟨none, 0, ?_, ?_⟩, k⟩
    · simp [decL, decE, h]
    · simpa [decL, h] using Row.nil _ _ _ _
theorem ba_drop (s : ByteArray) (n : Nat) : (s.extract n s.size).data.toList = s.data.toList.drop n := by
  simp
  rw [List.take_of_length_le (by simp)]
theorem ba_take (s : ByteArray) (n : Nat) : s.extract 0 n = ⟨(s.data.toList.take n).toArray⟩ := by
  apply ByteArray.ext
  apply Array.ext'
  simp
theorem ba_nil {s : ByteArray} : s = ⟨#[]⟩ ↔ s.data.toList = [] := by
  constructor
  · rintro rfl; rfl
  · intro h
    apply ByteArray.ext
    apply Array.ext'
    simpa using h
set_option maxHeartbeats 1000000 in
theorem rdecode_calls {w : World} {s0 : ByteArray} (hl : s0.size ≤ 140737488351232) :
    Calls Tryd.prog 18 [.string s0].toArray w (Ret fun v w' => (∃ (ao' : Option Addr) (c' : Nat), v = .tuple #[.slice ao' (decL s0.data.toList).length c', vi (decE s0.data.toList)] ∧ Row (w.heap.size ≤ ·) w' 31 eit ao' c' (decL s0.data.toList)) ∧ Chg Nob w w') := by
  refine Calls.of_WC Tryd.func18 rfl Tryd.ntmps18 (by simp) ?_
  refine WC.seq (WC.region (WL.assign rfl rfl (WL.assign rfl rfl (WL.nil (WX.then_normal (WC.seq (WC.region (?_))))))))
  refine WL.assign rfl rfl (WL.nil (WX.then_normal (WC.seq (WC.block (?_)))))
  refine WC.loop (σ := (List Item × Option Addr × Nat) × ByteArray) (fun q => [(4, .slice q.1.2.1 q.1.1.length q.1.2.2), (0, .string q.2)])
    (fun q w' => q.1.1.length ≤ 2000 ∧ q.2.size ≤ s0.size ∧ decI s0.data.toList q.1.1 q.2.data.toList ∧ Row (w.heap.size ≤ ·) w' 31 eit q.1.2.1 q.1.2.2 q.1.1 ∧ Chg Nob w w') (fun q => q.2.size) (([], none, 0), s0) ⟨rfl, rfl, trivial⟩ ⟨by simp, Nat.le_refl _, decI_start _, Row.nil _ _ _ _, Chg.refl _ _⟩ ?_
  rintro ⟨⟨out, a1, c1⟩, s⟩ w1 ⟨ho, hbl, hi, hq, kk⟩
  dsimp only at ho hbl hi hq kk ⊢
  have zk := kk.size
  refine WC.seq (WC.seq (WC.region (WL.move rfl rfl (?_))))
  refine WL.sneq? rfl rfl rfl (fun h11 => ?_) (fun h11 => ?_)
  ·
    refine WL.nil (WX.then_normal (WC.cond_true rfl (WC.skip (WX.then_normal (WC.block (WC.seq (WC.region (?_))))))))
    refine WL.move rfl rfl (?_)
    obtain ⟨x, bs', hs⟩ : ∃ x bs', s.data.toList = x :: bs' := by
      cases hs : s.data.toList with
      | nil => exact absurd (ba_nil.2 hs) h11
      | cons x r => exact ⟨x, r, rfl⟩
    have hx : s.data.toList[0]? = some x := by rw [hs]; rfl
    have hxl := x.toNat_lt
    have hsz : s.size = bs'.length + 1 := by rw [show s.size = s.data.toList.length from by simp, hs]; rfl
    rw [hs] at hi
    refine WL.sindex Tryd.underlying9 rfl rfl _ rfl _ hx rfl ?_
    refine WL.assign rfl rfl (WL.nil (WX.then_normal (WC.seq (WC.region (WL.move rfl rfl (?_))))))
    refine WL.sslice (l := 1) (h := s.size) (j := .i64) Tryd.underlying9 rfl (.inl rfl) (.inr ⟨rfl, rfl⟩) (by constructor <;> omega) rfl ?_
    have e1 : (s.extract 1 s.size).data.toList = bs' := by rw [ba_drop, hs]; rfl
    refine WL.call eg_54 rfl rfl (number_calls (by simp; omega)) ?_
    rw [e1]
    rintro v w2 ⟨(⟨u, r, rfl, hc⟩ | ⟨rfl, hc⟩), k2⟩
    ·
      have zs_k2 := k2.size
      replace kk := kk.pure k2
      replace hq := hq.pure k2
      have hrb := (ctd_bound bs' 0 (by omega) hc).2.2
      have erz : r.data.toList.length = r.size := by simp
      have e64 : ((B64 (r.size : Int)).toNat : Int) = r.size := by rw [B64_nat (by omega)]
      have e2 : (u / 2).toNat = u.toNat / 2 := by simp
      have hul : u.toNat / 2 ≤ 9223372036854775807 := by have := u.toNat_lt; omega
      have e3 : (u % 2).toNat = u.toNat % 2 := by simp
      refine WL.move rfl rfl (WL.extract rfl rfl rfl (WL.extract rfl rfl rfl (WL.extract rfl rfl rfl (WL.assign rfl rfl (WL.assign rfl rfl (WL.assign rfl rfl (WL.nil (?_))))))))
      refine WX.then_normal (WC.seq (WC.seq (WC.region (WL.move rfl rfl (WL.not rfl rfl (WL.move rfl rfl (WL.want rfl rfl rfl (?_))))))))
      refine WL.move rfl rfl (WL.want rfl rfl rfl (?_))
      refine WL.neq? rfl rfl rfl (fun h25 => ?_) (fun h25 => ?_)
      ·
        refine WL.want rfl rfl rfl (WL.move rfl rfl (WL.want rfl rfl rfl (WL.move rfl rfl (WL.want rfl rfl rfl (?_)))))
        refine WL.neq? rfl rfl rfl (fun h28 => ?_) (fun h28 => ?_)
        ·
          refine WL.want rfl rfl rfl (WL.pickT rfl rfl rfl (WL.pickF rfl rfl rfl (WL.move rfl rfl (WL.pass rfl rfl rfl rfl (WL.pass rfl rfl rfl rfl (WL.pass rfl rfl rfl rfl (WL.pickT rfl rfl rfl (?_))))))))
          refine WL.nil (WX.then_normal (WC.cond_true rfl (WC.seq (WC.region (WL.assign rfl rfl (WL.assign rfl rfl (WL.nil (?_))))))))
          refine WX.then_normal (WC.ret (WX.then_ret (WX.block_ret (WX.then_ret (WX.block_ret (WX.then_ret (?_)))))))
          refine WX.ret2 (.inl rfl) Tryd.results18 rfl rfl ?_
          first
            | (refine ⟨_, rfl, ⟨a1, c1, ?_, ?_⟩, kk⟩ <;> (
                 have hnil : s.data.toList = [] := ba_nil.1 h11
                 rw [hnil] at hi
                 have he := decI_end hi
                 simp only [decL, decE, he])
               ·
                 rfl
               ·
                 exact hq)
            | (have he : dec 0 s0.data.toList = none := by
                 refine decI_bad hi ?_
                 first
                   | exact dec_none hc
                   | (rw [dec_some hc]
                      by_cases hn : out.length = 2000
                      ·
                        rw [if_pos hn]
                      ·
                        rw [if_neg hn]
                        first
                          | (exfalso; omega)
                          | (have h1 : ¬ x.toNat = 1 := by omega
                             have h2 : ¬ (x.toNat = 2 ∧ u.toNat ≤ 4000 ∧ u.toNat ≤ r.data.toList.length) := by omega
                             rw [if_neg h1, if_neg h2]))
               refine ⟨_, rfl, ⟨none, 0, ?_, ?_⟩, kk⟩ <;> simp only [decL, decE, he]
               ·
                 rfl
               ·
                 exact Row.nil _ _ _ _)
        ·
          refine WL.want rfl rfl rfl (WL.pickT rfl rfl rfl (WL.pickF rfl rfl rfl (WL.move rfl rfl (WL.want rfl rfl rfl (WL.move rfl rfl (WL.want rfl rfl rfl (WL.len Tryd.underlying23 rfl rfl (?_))))))))
          refine WL.want rfl rfl rfl (?_)
          refine WL.eql? rfl rfl rfl (fun h34 => ?_) (fun h34 => ?_)
          ·
            refine WL.pickF rfl rfl rfl (WL.nil (WX.then_normal (WC.cond_true rfl (WC.seq (WC.region (WL.assign rfl rfl (WL.assign rfl rfl (?_))))))))
            refine WL.nil (WX.then_normal (WC.ret (WX.then_ret (WX.block_ret (WX.then_ret (WX.block_ret (WX.then_ret (?_))))))))
            refine WX.ret2 (.inl rfl) Tryd.results18 rfl rfl ?_
            first
              | (refine ⟨_, rfl, ⟨a1, c1, ?_, ?_⟩, kk⟩ <;> (
                   have hnil : s.data.toList = [] := ba_nil.1 h11
                   rw [hnil] at hi
                   have he := decI_end hi
                   simp only [decL, decE, he])
                 ·
                   rfl
                 ·
                   exact hq)
              | (have he : dec 0 s0.data.toList = none := by
                   refine decI_bad hi ?_
                   first
                     | exact dec_none hc
                     | (rw [dec_some hc]
                        by_cases hn : out.length = 2000
                        ·
                          rw [if_pos hn]
                        ·
                          rw [if_neg hn]
                          first
                            | (exfalso; omega)
                            | (have h1 : ¬ x.toNat = 1 := by omega
                               have h2 : ¬ (x.toNat = 2 ∧ u.toNat ≤ 4000 ∧ u.toNat ≤ r.data.toList.length) := by omega
                               rw [if_neg h1, if_neg h2]))
                 refine ⟨_, rfl, ⟨none, 0, ?_, ?_⟩, kk⟩ <;> simp only [decL, decE, he]
                 ·
                   rfl
                 ·
                   exact Row.nil _ _ _ _)
          ·
            refine WL.pickF rfl rfl rfl (WL.nil (WX.then_normal (WC.cond_false rfl (WC.skip (WX.then_normal (WC.seq (WC.seq (?_))))))))
            refine WC.region (WL.move rfl rfl (?_))
            refine WL.eql? rfl rfl rfl (fun h37 => ?_) (fun h37 => ?_)
            ·
              refine WL.nil (WX.then_normal (WC.cond_true rfl (WC.seq (WC.region (WL.move rfl rfl (WL.num rfl rfl (n_quo64 _ _ _ 2 (by decide)) rfl (?_)))))))
              refine WL.c_u64_i64s (n := u.toNat / 2) Tryd.underlying41 Tryd.underlying3 rfl ⟨e2, by have := u.toNat_lt; omega⟩ rfl ?_
              refine WL.assign rfl rfl (WL.nil (WX.then_normal (WC.seq (WC.seq (WC.region (WL.move rfl rfl (WL.num rfl rfl (n_rem64 _ _ _ 2 (by decide)) rfl (?_))))))))
              refine WL.eql? rfl rfl rfl (fun h43 => ?_) (fun h43 => ?_)
              ·
                refine WL.nil (WX.then_normal (WC.cond_true rfl (WC.region (WL.move rfl rfl (WL.neg64 rfl (by first | omega | (constructor <;> omega)) rfl (WL.sub64 rfl rfl (by first | omega | (constructor <;> omega)) rfl (WL.assign rfl rfl (?_))))))))
                refine WL.nil (WX.then_normal (WC.seq (WC.region (WL.move rfl rfl (WL.move rfl rfl (WL.bld rfl (bld_31_0_1 _ _) rfl (?_)))))))
                rw [e3] at h43
                refine WL.build (e := eit) [⟨1, _, ⟨#[]⟩⟩] Tryd.underlying23 Tryd.sizeOf31 Tryd.zeroValue31 rfl rfl rfl (by first | (simp [Value.cells]; done) | (simp [Value.cells] <;> rfl) | (simp [Value.cells, eb, ei, es, ebool, e32, e64]; done)) (by decide) rfl ?_
                intro a_hn w_hn hn l_hn z_hn k_hn
                have zs_k_hn := k_hn.size
                replace kk := kk.pure k_hn
                replace hq := hq.pure k_hn
                refine WL.append (e := eit) info_31 rfl Tryd.underlying23 rfl rfl hq (hn.rsl.src Tryd.underlying23) (by (try simp only [List.length_append, List.length_cons, List.length_nil] at *); omega) (by intro b hb; first | (apply hS; omega) | ((try dsimp only); omega)) rfl ?_
                intro a_hq2 c_hq2 w_hq2 hq2 g_hq2 n_hq2
                have z_hq2 := g_hq2.chg.size
                have zs_g_hq2_chg := g_hq2.chg.size
                replace kk := kk.chg g_hq2.chg (by first | (intro x h1 h2; exact h2) | (intro x h0 h1 h2; exact hS x h1 h2) | (intro x h0 h1 h2; have h3 : _ = _ := h2; subst h3; exact hSR h1.1) | (intro x h1 h2; have h3 : _ = _ := h2; subst h3; assumption) | (intro x h1 h2; have h3 : _ = _ := h2; exfalso; omega) | (intro b h1 h2 h3; have h4 : _ = _ := h3; (try dsimp only at h2); exfalso; omega) | (intro h1; have h2 : _ = _ := h1; exfalso; omega) | (intro h1; have h2 : _ ≤ _ := h1; exfalso; omega) | (intros; exfalso; (try dsimp only at *); omega) | (intro b h1 h2 h3; exfalso; have h4 := h3.2; (try dsimp only at *); omega) | (intro h1; exfalso; have h4 := h1.2; (try dsimp only at *); omega) | (intro x h1 h2; exfalso; have h4 := h2.2; (try dsimp only at *); omega) | (intro x h1 h2; exact ⟨_, rfl, h2⟩) | (intro x h1 h2; have h4 := h2.1; have h5 := h2.2; exfalso; omega) | (intro x h1 h2; exact h2.1) | (intro x h1 h2; rcases h2.1 with h3 | h3; exact h3; exfalso; omega) | (intro x h1 h2; rcases h2 with h3 | h3; exact h3; exfalso; omega))
                refine WL.assign rfl rfl (WL.nil (WX.then_normal (WC.seq (WC.region (WL.move rfl rfl (WL.assign rfl rfl (WL.nil (?_))))))))
                refine WX.then_normal (WC.exit (WX.then_exit (WX.block_here (?_))))
                first
                  | (have hn2 : ¬ out.length = 2000 := by omega
                     have h1 : x.toNat = 1 := by omega
                     first
                       | (have eu : unz u.toNat = -((u.toNat / 2 : Nat) : Int) - 1 := if_pos (by omega)
                          refine WX.loop_next ((out ++ [⟨1, -((u.toNat / 2 : Nat) : Int) - 1, ⟨#[]⟩⟩], a_hq2, c_hq2), r) ⟨rfl, rfl, trivial⟩ ⟨by dsimp only; simp; omega, by dsimp only; omega, ?_, hq2, kk⟩ (by show r.size < s.size; omega)
                          refine decI_step hi ?_
                          rw [dec_some hc, if_neg hn2, if_pos h1, eu]
                          done)
                       | (have eu : unz u.toNat = ((u.toNat / 2 : Nat) : Int) := if_neg (by omega)
                          refine WX.loop_next ((out ++ [⟨1, ((u.toNat / 2 : Nat) : Int), ⟨#[]⟩⟩], a_hq2, c_hq2), r) ⟨rfl, rfl, trivial⟩ ⟨by dsimp only; simp; omega, by dsimp only; omega, ?_, hq2, kk⟩ (by show r.size < s.size; omega)
                          refine decI_step hi ?_
                          rw [dec_some hc, if_neg hn2, if_pos h1, eu]))
                  | (have hn2 : ¬ out.length = 2000 := by omega
                     have h1 : ¬ x.toNat = 1 := by omega
                     have h2 : x.toNat = 2 ∧ u.toNat ≤ 4000 ∧ u.toNat ≤ r.data.toList.length := by omega
                     refine WX.loop_next ((out ++ [⟨2, 0, r.extract 0 u.toNat⟩], a_hq2, c_hq2), r.extract u.toNat r.size) ⟨rfl, rfl, trivial⟩ ⟨by dsimp only; simp; omega, by dsimp only; simp; omega, ?_, hq2, kk⟩ (by show (r.extract u.toNat r.size).size < s.size; simp; omega)
                     rw [ba_drop, ba_take]
                     refine decI_step hi ?_
                     rw [dec_some hc, if_neg hn2, if_neg h1, if_pos h2])
              ·
                refine WL.nil (WX.then_normal (WC.cond_false rfl (WC.skip (WX.then_normal (WC.seq (WC.region (WL.move rfl rfl (?_))))))))
                refine WL.move rfl rfl (WL.bld rfl (bld_31_0_1 _ _) rfl (?_))
                rw [e3] at h43
                refine WL.build (e := eit) [⟨1, _, ⟨#[]⟩⟩] Tryd.underlying23 Tryd.sizeOf31 Tryd.zeroValue31 rfl rfl rfl (by first | (simp [Value.cells]; done) | (simp [Value.cells] <;> rfl) | (simp [Value.cells, eb, ei, es, ebool, e32, e64]; done)) (by decide) rfl ?_
                intro a_hn w_hn hn l_hn z_hn k_hn
                have zs_k_hn := k_hn.size
                replace kk := kk.pure k_hn
                replace hq := hq.pure k_hn
                refine WL.append (e := eit) info_31 rfl Tryd.underlying23 rfl rfl hq (hn.rsl.src Tryd.underlying23) (by (try simp only [List.length_append, List.length_cons, List.length_nil] at *); omega) (by intro b hb; first | (apply hS; omega) | ((try dsimp only); omega)) rfl ?_
                intro a_hq2 c_hq2 w_hq2 hq2 g_hq2 n_hq2
                have z_hq2 := g_hq2.chg.size
                have zs_g_hq2_chg := g_hq2.chg.size
                replace kk := kk.chg g_hq2.chg (by first | (intro x h1 h2; exact h2) | (intro x h0 h1 h2; exact hS x h1 h2) | (intro x h0 h1 h2; have h3 : _ = _ := h2; subst h3; exact hSR h1.1) | (intro x h1 h2; have h3 : _ = _ := h2; subst h3; assumption) | (intro x h1 h2; have h3 : _ = _ := h2; exfalso; omega) | (intro b h1 h2 h3; have h4 : _ = _ := h3; (try dsimp only at h2); exfalso; omega) | (intro h1; have h2 : _ = _ := h1; exfalso; omega) | (intro h1; have h2 : _ ≤ _ := h1; exfalso; omega) | (intros; exfalso; (try dsimp only at *); omega) | (intro b h1 h2 h3; exfalso; have h4 := h3.2; (try dsimp only at *); omega) | (intro h1; exfalso; have h4 := h1.2; (try dsimp only at *); omega) | (intro x h1 h2; exfalso; have h4 := h2.2; (try dsimp only at *); omega) | (intro x h1 h2; exact ⟨_, rfl, h2⟩) | (intro x h1 h2; have h4 := h2.1; have h5 := h2.2; exfalso; omega) | (intro x h1 h2; exact h2.1) | (intro x h1 h2; rcases h2.1 with h3 | h3; exact h3; exfalso; omega) | (intro x h1 h2; rcases h2 with h3 | h3; exact h3; exfalso; omega))
                refine WL.assign rfl rfl (WL.nil (WX.then_normal (WC.seq (WC.region (WL.move rfl rfl (WL.assign rfl rfl (WL.nil (?_))))))))
                refine WX.then_normal (WC.exit (WX.then_exit (WX.block_here (?_))))
                first
                  | (have hn2 : ¬ out.length = 2000 := by omega
                     have h1 : x.toNat = 1 := by omega
                     first
                       | (have eu : unz u.toNat = -((u.toNat / 2 : Nat) : Int) - 1 := if_pos (by omega)
                          refine WX.loop_next ((out ++ [⟨1, -((u.toNat / 2 : Nat) : Int) - 1, ⟨#[]⟩⟩], a_hq2, c_hq2), r) ⟨rfl, rfl, trivial⟩ ⟨by dsimp only; simp; omega, by dsimp only; omega, ?_, hq2, kk⟩ (by show r.size < s.size; omega)
                          refine decI_step hi ?_
                          rw [dec_some hc, if_neg hn2, if_pos h1, eu]
                          done)
                       | (have eu : unz u.toNat = ((u.toNat / 2 : Nat) : Int) := if_neg (by omega)
                          refine WX.loop_next ((out ++ [⟨1, ((u.toNat / 2 : Nat) : Int), ⟨#[]⟩⟩], a_hq2, c_hq2), r) ⟨rfl, rfl, trivial⟩ ⟨by dsimp only; simp; omega, by dsimp only; omega, ?_, hq2, kk⟩ (by show r.size < s.size; omega)
                          refine decI_step hi ?_
                          rw [dec_some hc, if_neg hn2, if_pos h1, eu]))
                  | (have hn2 : ¬ out.length = 2000 := by omega
                     have h1 : ¬ x.toNat = 1 := by omega
                     have h2 : x.toNat = 2 ∧ u.toNat ≤ 4000 ∧ u.toNat ≤ r.data.toList.length := by omega
                     refine WX.loop_next ((out ++ [⟨2, 0, r.extract 0 u.toNat⟩], a_hq2, c_hq2), r.extract u.toNat r.size) ⟨rfl, rfl, trivial⟩ ⟨by dsimp only; simp; omega, by dsimp only; simp; omega, ?_, hq2, kk⟩ (by show (r.extract u.toNat r.size).size < s.size; simp; omega)
                     rw [ba_drop, ba_take]
                     refine decI_step hi ?_
                     rw [dec_some hc, if_neg hn2, if_neg h1, if_pos h2])
            ·
              refine WL.nil (WX.then_normal (WC.cond_false rfl (WC.skip (WX.then_normal (WC.seq (WC.seq (WC.region (?_))))))))
              refine WL.move rfl rfl (?_)
              refine WL.gtr? rfl rfl rfl (fun h54 => ?_) (fun h54 => ?_)
              ·
                refine WL.move rfl rfl (WL.pass rfl rfl rfl rfl (WL.pass rfl rfl rfl rfl (WL.pass rfl rfl rfl rfl (WL.pass rfl rfl rfl rfl (WL.pass rfl rfl rfl rfl (WL.pickT rfl rfl rfl (WL.nil (?_))))))))
                refine WX.then_normal (WC.cond_true rfl (WC.seq (WC.region (WL.assign rfl rfl (WL.assign rfl rfl (WL.nil (WX.then_normal (?_))))))))
                refine WC.ret (WX.then_ret (WX.block_ret (WX.then_ret (WX.block_ret (WX.then_ret (?_))))))
                refine WX.ret2 (.inl rfl) Tryd.results18 rfl rfl ?_
                first
                  | (refine ⟨_, rfl, ⟨a1, c1, ?_, ?_⟩, kk⟩ <;> (
                       have hnil : s.data.toList = [] := ba_nil.1 h11
                       rw [hnil] at hi
                       have he := decI_end hi
                       simp only [decL, decE, he])
                     ·
                       rfl
                     ·
                       exact hq)
                  | (have he : dec 0 s0.data.toList = none := by
                       refine decI_bad hi ?_
                       first
                         | exact dec_none hc
                         | (rw [dec_some hc]
                            by_cases hn : out.length = 2000
                            ·
                              rw [if_pos hn]
                            ·
                              rw [if_neg hn]
                              first
                                | (exfalso; omega)
                                | (have h1 : ¬ x.toNat = 1 := by omega
                                   have h2 : ¬ (x.toNat = 2 ∧ u.toNat ≤ 4000 ∧ u.toNat ≤ r.data.toList.length) := by omega
                                   rw [if_neg h1, if_neg h2]))
                     refine ⟨_, rfl, ⟨none, 0, ?_, ?_⟩, kk⟩ <;> simp only [decL, decE, he]
                     ·
                       rfl
                     ·
                       exact Row.nil _ _ _ _)
              ·
                refine WL.move rfl rfl (WL.want rfl rfl rfl (WL.move rfl rfl (WL.want rfl rfl rfl (WL.move rfl rfl (WL.want rfl rfl rfl (WL.lens Tryd.underlying9 rfl rfl (WL.want rfl rfl rfl (?_))))))))
                refine WL.c_i64_u64 Tryd.underlying3 Tryd.underlying41 rfl rfl (WL.want rfl rfl rfl (?_))
                refine WL.gtr? rfl rfl rfl (fun h60 => ?_) (fun h60 => ?_)
                ·
                  refine WL.pickF rfl rfl rfl (WL.nil (WX.then_normal (WC.cond_true rfl (WC.seq (WC.region (WL.assign rfl rfl (WL.assign rfl rfl (?_))))))))
                  refine WL.nil (WX.then_normal (WC.ret (WX.then_ret (WX.block_ret (WX.then_ret (WX.block_ret (WX.then_ret (?_))))))))
                  refine WX.ret2 (.inl rfl) Tryd.results18 rfl rfl ?_
                  first
                    | (refine ⟨_, rfl, ⟨a1, c1, ?_, ?_⟩, kk⟩ <;> (
                         have hnil : s.data.toList = [] := ba_nil.1 h11
                         rw [hnil] at hi
                         have he := decI_end hi
                         simp only [decL, decE, he])
                       ·
                         rfl
                       ·
                         exact hq)
                    | (have he : dec 0 s0.data.toList = none := by
                         refine decI_bad hi ?_
                         first
                           | exact dec_none hc
                           | (rw [dec_some hc]
                              by_cases hn : out.length = 2000
                              ·
                                rw [if_pos hn]
                              ·
                                rw [if_neg hn]
                                first
                                  | (exfalso; omega)
                                  | (have h1 : ¬ x.toNat = 1 := by omega
                                     have h2 : ¬ (x.toNat = 2 ∧ u.toNat ≤ 4000 ∧ u.toNat ≤ r.data.toList.length) := by omega
                                     rw [if_neg h1, if_neg h2]))
                       refine ⟨_, rfl, ⟨none, 0, ?_, ?_⟩, kk⟩ <;> simp only [decL, decE, he]
                       ·
                         rfl
                       ·
                         exact Row.nil _ _ _ _)
                ·
                  refine WL.pickF rfl rfl rfl (WL.nil (WX.then_normal (WC.cond_false rfl (WC.skip (WX.then_normal (WC.seq (WC.region (?_))))))))
                  refine WL.move rfl rfl (WL.move rfl rfl (WL.move rfl rfl (?_)))
                  refine WL.sslice (l := 0) (h := u.toNat) (k := .i64) Tryd.underlying9 rfl (.inr ⟨rfl, rfl⟩) (.inl rfl) (by constructor <;> omega) rfl ?_
                  refine WL.bld rfl (bld_31_0_2 _ _) rfl (?_)
                  refine WL.build (e := eit) [⟨2, 0, r.extract 0 u.toNat⟩] Tryd.underlying23 Tryd.sizeOf31 Tryd.zeroValue31 rfl rfl rfl (by first | (simp [Value.cells]; done) | (simp [Value.cells] <;> rfl) | (simp [Value.cells, eb, ei, es, ebool, e32, e64]; done)) (by decide) rfl ?_
                  intro a_hn w_hn hn l_hn z_hn k_hn
                  have zs_k_hn := k_hn.size
                  replace kk := kk.pure k_hn
                  replace hq := hq.pure k_hn
                  refine WL.append (e := eit) info_31 rfl Tryd.underlying23 rfl rfl hq (hn.rsl.src Tryd.underlying23) (by (try simp only [List.length_append, List.length_cons, List.length_nil] at *); omega) (by intro b hb; first | (apply hS; omega) | ((try dsimp only); omega)) rfl ?_
                  intro a_hq2 c_hq2 w_hq2 hq2 g_hq2 n_hq2
                  have z_hq2 := g_hq2.chg.size
                  have zs_g_hq2_chg := g_hq2.chg.size
                  replace kk := kk.chg g_hq2.chg (by first | (intro x h1 h2; exact h2) | (intro x h0 h1 h2; exact hS x h1 h2) | (intro x h0 h1 h2; have h3 : _ = _ := h2; subst h3; exact hSR h1.1) | (intro x h1 h2; have h3 : _ = _ := h2; subst h3; assumption) | (intro x h1 h2; have h3 : _ = _ := h2; exfalso; omega) | (intro b h1 h2 h3; have h4 : _ = _ := h3; (try dsimp only at h2); exfalso; omega) | (intro h1; have h2 : _ = _ := h1; exfalso; omega) | (intro h1; have h2 : _ ≤ _ := h1; exfalso; omega) | (intros; exfalso; (try dsimp only at *); omega) | (intro b h1 h2 h3; exfalso; have h4 := h3.2; (try dsimp only at *); omega) | (intro h1; exfalso; have h4 := h1.2; (try dsimp only at *); omega) | (intro x h1 h2; exfalso; have h4 := h2.2; (try dsimp only at *); omega) | (intro x h1 h2; exact ⟨_, rfl, h2⟩) | (intro x h1 h2; have h4 := h2.1; have h5 := h2.2; exfalso; omega) | (intro x h1 h2; exact h2.1) | (intro x h1 h2; rcases h2.1 with h3 | h3; exact h3; exfalso; omega) | (intro x h1 h2; rcases h2 with h3 | h3; exact h3; exfalso; omega))
                  refine WL.assign rfl rfl (WL.nil (WX.then_normal (WC.region (WL.move rfl rfl (WL.move rfl rfl (?_))))))
                  refine WL.sslice (l := u.toNat) (h := r.size) (j := .i64) Tryd.underlying9 rfl (.inl rfl) (.inr ⟨rfl, rfl⟩) (by constructor <;> omega) rfl ?_
                  refine WL.assign rfl rfl (WL.nil (WX.block_normal (?_)))
                  first
                    | (have hn2 : ¬ out.length = 2000 := by omega
                       have h1 : x.toNat = 1 := by omega
                       first
                         | (have eu : unz u.toNat = -((u.toNat / 2 : Nat) : Int) - 1 := if_pos (by omega)
                            refine WX.loop_next ((out ++ [⟨1, -((u.toNat / 2 : Nat) : Int) - 1, ⟨#[]⟩⟩], a_hq2, c_hq2), r) ⟨rfl, rfl, trivial⟩ ⟨by dsimp only; simp; omega, by dsimp only; omega, ?_, hq2, kk⟩ (by show r.size < s.size; omega)
                            refine decI_step hi ?_
                            rw [dec_some hc, if_neg hn2, if_pos h1, eu]
                            done)
                         | (have eu : unz u.toNat = ((u.toNat / 2 : Nat) : Int) := if_neg (by omega)
                            refine WX.loop_next ((out ++ [⟨1, ((u.toNat / 2 : Nat) : Int), ⟨#[]⟩⟩], a_hq2, c_hq2), r) ⟨rfl, rfl, trivial⟩ ⟨by dsimp only; simp; omega, by dsimp only; omega, ?_, hq2, kk⟩ (by show r.size < s.size; omega)
                            refine decI_step hi ?_
                            rw [dec_some hc, if_neg hn2, if_pos h1, eu]))
                    | (have hn2 : ¬ out.length = 2000 := by omega
                       have h1 : ¬ x.toNat = 1 := by omega
                       have h2 : x.toNat = 2 ∧ u.toNat ≤ 4000 ∧ u.toNat ≤ r.data.toList.length := by omega
                       refine WX.loop_next ((out ++ [⟨2, 0, r.extract 0 u.toNat⟩], a_hq2, c_hq2), r.extract u.toNat r.size) ⟨rfl, rfl, trivial⟩ ⟨by dsimp only; simp; omega, by dsimp only; simp; omega, ?_, hq2, kk⟩ (by show (r.extract u.toNat r.size).size < s.size; simp; omega)
                       rw [ba_drop, ba_take]
                       refine decI_step hi ?_
                       rw [dec_some hc, if_neg hn2, if_neg h1, if_pos h2])
      ·
        refine WL.want rfl rfl rfl (WL.move rfl rfl (WL.pass rfl rfl rfl rfl (WL.pass rfl rfl rfl rfl (WL.want rfl rfl rfl (WL.pickF rfl rfl rfl (WL.pickF rfl rfl rfl (WL.move rfl rfl (?_))))))))
        refine WL.want rfl rfl rfl (WL.move rfl rfl (WL.want rfl rfl rfl (WL.len Tryd.underlying23 rfl rfl (WL.want rfl rfl rfl (?_)))))
        refine WL.eql? rfl rfl rfl (fun h34 => ?_) (fun h34 => ?_)
        ·
          refine WL.pickF rfl rfl rfl (WL.nil (WX.then_normal (WC.cond_true rfl (WC.seq (WC.region (WL.assign rfl rfl (WL.assign rfl rfl (?_))))))))
          refine WL.nil (WX.then_normal (WC.ret (WX.then_ret (WX.block_ret (WX.then_ret (WX.block_ret (WX.then_ret (?_))))))))
          refine WX.ret2 (.inl rfl) Tryd.results18 rfl rfl ?_
          first
            | (refine ⟨_, rfl, ⟨a1, c1, ?_, ?_⟩, kk⟩ <;> (
                 have hnil : s.data.toList = [] := ba_nil.1 h11
                 rw [hnil] at hi
                 have he := decI_end hi
                 simp only [decL, decE, he])
               ·
                 rfl
               ·
                 exact hq)
            | (have he : dec 0 s0.data.toList = none := by
                 refine decI_bad hi ?_
                 first
                   | exact dec_none hc
                   | (rw [dec_some hc]
                      by_cases hn : out.length = 2000
                      ·
                        rw [if_pos hn]
                      ·
                        rw [if_neg hn]
                        first
                          | (exfalso; omega)
                          | (have h1 : ¬ x.toNat = 1 := by omega
                             have h2 : ¬ (x.toNat = 2 ∧ u.toNat ≤ 4000 ∧ u.toNat ≤ r.data.toList.length) := by omega
                             rw [if_neg h1, if_neg h2]))
               refine ⟨_, rfl, ⟨none, 0, ?_, ?_⟩, kk⟩ <;> simp only [decL, decE, he]
               ·
                 rfl
               ·
                 exact Row.nil _ _ _ _)
        ·
          refine WL.pickF rfl rfl rfl (WL.nil (WX.then_normal (WC.cond_false rfl (WC.skip (WX.then_normal (WC.seq (WC.seq (?_))))))))
          refine WC.region (WL.move rfl rfl (?_))
          refine WL.eql? rfl rfl rfl (fun h37 => ?_) (fun h37 => ?_)
          ·
            refine WL.nil (WX.then_normal (WC.cond_true rfl (WC.seq (WC.region (WL.move rfl rfl (WL.num rfl rfl (n_quo64 _ _ _ 2 (by decide)) rfl (?_)))))))
            refine WL.c_u64_i64s (n := u.toNat / 2) Tryd.underlying41 Tryd.underlying3 rfl ⟨e2, by have := u.toNat_lt; omega⟩ rfl ?_
            refine WL.assign rfl rfl (WL.nil (WX.then_normal (WC.seq (WC.seq (WC.region (WL.move rfl rfl (WL.num rfl rfl (n_rem64 _ _ _ 2 (by decide)) rfl (?_))))))))
            refine WL.eql? rfl rfl rfl (fun h43 => ?_) (fun h43 => ?_)
            ·
              refine WL.nil (WX.then_normal (WC.cond_true rfl (WC.region (WL.move rfl rfl (WL.neg64 rfl (by first | omega | (constructor <;> omega)) rfl (WL.sub64 rfl rfl (by first | omega | (constructor <;> omega)) rfl (WL.assign rfl rfl (?_))))))))
              refine WL.nil (WX.then_normal (WC.seq (WC.region (WL.move rfl rfl (WL.move rfl rfl (WL.bld rfl (bld_31_0_1 _ _) rfl (?_)))))))
              rw [e3] at h43
              refine WL.build (e := eit) [⟨1, _, ⟨#[]⟩⟩] Tryd.underlying23 Tryd.sizeOf31 Tryd.zeroValue31 rfl rfl rfl (by first | (simp [Value.cells]; done) | (simp [Value.cells] <;> rfl) | (simp [Value.cells, eb, ei, es, ebool, e32, e64]; done)) (by decide) rfl ?_
              intro a_hn w_hn hn l_hn z_hn k_hn
              have zs_k_hn := k_hn.size
              replace kk := kk.pure k_hn
              replace hq := hq.pure k_hn
              refine WL.append (e := eit) info_31 rfl Tryd.underlying23 rfl rfl hq (hn.rsl.src Tryd.underlying23) (by (try simp only [List.length_append, List.length_cons, List.length_nil] at *); omega) (by intro b hb; first | (apply hS; omega) | ((try dsimp only); omega)) rfl ?_
              intro a_hq2 c_hq2 w_hq2 hq2 g_hq2 n_hq2
              have z_hq2 := g_hq2.chg.size
              have zs_g_hq2_chg := g_hq2.chg.size
              replace kk := kk.chg g_hq2.chg (by first | (intro x h1 h2; exact h2) | (intro x h0 h1 h2; exact hS x h1 h2) | (intro x h0 h1 h2; have h3 : _ = _ := h2; subst h3; exact hSR h1.1) | (intro x h1 h2; have h3 : _ = _ := h2; subst h3; assumption) | (intro x h1 h2; have h3 : _ = _ := h2; exfalso; omega) | (intro b h1 h2 h3; have h4 : _ = _ := h3; (try dsimp only at h2); exfalso; omega) | (intro h1; have h2 : _ = _ := h1; exfalso; omega) | (intro h1; have h2 : _ ≤ _ := h1; exfalso; omega) | (intros; exfalso; (try dsimp only at *); omega) | (intro b h1 h2 h3; exfalso; have h4 := h3.2; (try dsimp only at *); omega) | (intro h1; exfalso; have h4 := h1.2; (try dsimp only at *); omega) | (intro x h1 h2; exfalso; have h4 := h2.2; (try dsimp only at *); omega) | (intro x h1 h2; exact ⟨_, rfl, h2⟩) | (intro x h1 h2; have h4 := h2.1; have h5 := h2.2; exfalso; omega) | (intro x h1 h2; exact h2.1) | (intro x h1 h2; rcases h2.1 with h3 | h3; exact h3; exfalso; omega) | (intro x h1 h2; rcases h2 with h3 | h3; exact h3; exfalso; omega))
              refine WL.assign rfl rfl (WL.nil (WX.then_normal (WC.seq (WC.region (WL.move rfl rfl (WL.assign rfl rfl (WL.nil (?_))))))))
              refine WX.then_normal (WC.exit (WX.then_exit (WX.block_here (?_))))
              first
                | (have hn2 : ¬ out.length = 2000 := by omega
                   have h1 : x.toNat = 1 := by omega
                   first
                     | (have eu : unz u.toNat = -((u.toNat / 2 : Nat) : Int) - 1 := if_pos (by omega)
                        refine WX.loop_next ((out ++ [⟨1, -((u.toNat / 2 : Nat) : Int) - 1, ⟨#[]⟩⟩], a_hq2, c_hq2), r) ⟨rfl, rfl, trivial⟩ ⟨by dsimp only; simp; omega, by dsimp only; omega, ?_, hq2, kk⟩ (by show r.size < s.size; omega)
                        refine decI_step hi ?_
                        rw [dec_some hc, if_neg hn2, if_pos h1, eu]
                        done)
                     | (have eu : unz u.toNat = ((u.toNat / 2 : Nat) : Int) := if_neg (by omega)
                        refine WX.loop_next ((out ++ [⟨1, ((u.toNat / 2 : Nat) : Int), ⟨#[]⟩⟩], a_hq2, c_hq2), r) ⟨rfl, rfl, trivial⟩ ⟨by dsimp only; simp; omega, by dsimp only; omega, ?_, hq2, kk⟩ (by show r.size < s.size; omega)
                        refine decI_step hi ?_
                        rw [dec_some hc, if_neg hn2, if_pos h1, eu]))
                | (have hn2 : ¬ out.length = 2000 := by omega
                   have h1 : ¬ x.toNat = 1 := by omega
                   have h2 : x.toNat = 2 ∧ u.toNat ≤ 4000 ∧ u.toNat ≤ r.data.toList.length := by omega
                   refine WX.loop_next ((out ++ [⟨2, 0, r.extract 0 u.toNat⟩], a_hq2, c_hq2), r.extract u.toNat r.size) ⟨rfl, rfl, trivial⟩ ⟨by dsimp only; simp; omega, by dsimp only; simp; omega, ?_, hq2, kk⟩ (by show (r.extract u.toNat r.size).size < s.size; simp; omega)
                   rw [ba_drop, ba_take]
                   refine decI_step hi ?_
                   rw [dec_some hc, if_neg hn2, if_neg h1, if_pos h2])
            ·
              refine WL.nil (WX.then_normal (WC.cond_false rfl (WC.skip (WX.then_normal (WC.seq (WC.region (WL.move rfl rfl (?_))))))))
              refine WL.move rfl rfl (WL.bld rfl (bld_31_0_1 _ _) rfl (?_))
              rw [e3] at h43
              refine WL.build (e := eit) [⟨1, _, ⟨#[]⟩⟩] Tryd.underlying23 Tryd.sizeOf31 Tryd.zeroValue31 rfl rfl rfl (by first | (simp [Value.cells]; done) | (simp [Value.cells] <;> rfl) | (simp [Value.cells, eb, ei, es, ebool, e32, e64]; done)) (by decide) rfl ?_
              intro a_hn w_hn hn l_hn z_hn k_hn
              have zs_k_hn := k_hn.size
              replace kk := kk.pure k_hn
              replace hq := hq.pure k_hn
              refine WL.append (e := eit) info_31 rfl Tryd.underlying23 rfl rfl hq (hn.rsl.src Tryd.underlying23) (by (try simp only [List.length_append, List.length_cons, List.length_nil] at *); omega) (by intro b hb; first | (apply hS; omega) | ((try dsimp only); omega)) rfl ?_
              intro a_hq2 c_hq2 w_hq2 hq2 g_hq2 n_hq2
              have z_hq2 := g_hq2.chg.size
              have zs_g_hq2_chg := g_hq2.chg.size
              replace kk := kk.chg g_hq2.chg (by first | (intro x h1 h2; exact h2) | (intro x h0 h1 h2; exact hS x h1 h2) | (intro x h0 h1 h2; have h3 : _ = _ := h2; subst h3; exact hSR h1.1) | (intro x h1 h2; have h3 : _ = _ := h2; subst h3; assumption) | (intro x h1 h2; have h3 : _ = _ := h2; exfalso; omega) | (intro b h1 h2 h3; have h4 : _ = _ := h3; (try dsimp only at h2); exfalso; omega) | (intro h1; have h2 : _ = _ := h1; exfalso; omega) | (intro h1; have h2 : _ ≤ _ := h1; exfalso; omega) | (intros; exfalso; (try dsimp only at *); omega) | (intro b h1 h2 h3; exfalso; have h4 := h3.2; (try dsimp only at *); omega) | (intro h1; exfalso; have h4 := h1.2; (try dsimp only at *); omega) | (intro x h1 h2; exfalso; have h4 := h2.2; (try dsimp only at *); omega) | (intro x h1 h2; exact ⟨_, rfl, h2⟩) | (intro x h1 h2; have h4 := h2.1; have h5 := h2.2; exfalso; omega) | (intro x h1 h2; exact h2.1) | (intro x h1 h2; rcases h2.1 with h3 | h3; exact h3; exfalso; omega) | (intro x h1 h2; rcases h2 with h3 | h3; exact h3; exfalso; omega))
              refine WL.assign rfl rfl (WL.nil (WX.then_normal (WC.seq (WC.region (WL.move rfl rfl (WL.assign rfl rfl (WL.nil (?_))))))))
              refine WX.then_normal (WC.exit (WX.then_exit (WX.block_here (?_))))
              first
                | (have hn2 : ¬ out.length = 2000 := by omega
                   have h1 : x.toNat = 1 := by omega
                   first
                     | (have eu : unz u.toNat = -((u.toNat / 2 : Nat) : Int) - 1 := if_pos (by omega)
                        refine WX.loop_next ((out ++ [⟨1, -((u.toNat / 2 : Nat) : Int) - 1, ⟨#[]⟩⟩], a_hq2, c_hq2), r) ⟨rfl, rfl, trivial⟩ ⟨by dsimp only; simp; omega, by dsimp only; omega, ?_, hq2, kk⟩ (by show r.size < s.size; omega)
                        refine decI_step hi ?_
                        rw [dec_some hc, if_neg hn2, if_pos h1, eu]
                        done)
                     | (have eu : unz u.toNat = ((u.toNat / 2 : Nat) : Int) := if_neg (by omega)
                        refine WX.loop_next ((out ++ [⟨1, ((u.toNat / 2 : Nat) : Int), ⟨#[]⟩⟩], a_hq2, c_hq2), r) ⟨rfl, rfl, trivial⟩ ⟨by dsimp only; simp; omega, by dsimp only; omega, ?_, hq2, kk⟩ (by show r.size < s.size; omega)
                        refine decI_step hi ?_
                        rw [dec_some hc, if_neg hn2, if_pos h1, eu]))
                | (have hn2 : ¬ out.length = 2000 := by omega
                   have h1 : ¬ x.toNat = 1 := by omega
                   have h2 : x.toNat = 2 ∧ u.toNat ≤ 4000 ∧ u.toNat ≤ r.data.toList.length := by omega
                   refine WX.loop_next ((out ++ [⟨2, 0, r.extract 0 u.toNat⟩], a_hq2, c_hq2), r.extract u.toNat r.size) ⟨rfl, rfl, trivial⟩ ⟨by dsimp only; simp; omega, by dsimp only; simp; omega, ?_, hq2, kk⟩ (by show (r.extract u.toNat r.size).size < s.size; simp; omega)
                   rw [ba_drop, ba_take]
                   refine decI_step hi ?_
                   rw [dec_some hc, if_neg hn2, if_neg h1, if_pos h2])
          ·
            refine WL.nil (WX.then_normal (WC.cond_false rfl (WC.skip (WX.then_normal (WC.seq (WC.seq (WC.region (?_))))))))
            refine WL.move rfl rfl (?_)
            refine WL.gtr? rfl rfl rfl (fun h54 => ?_) (fun h54 => ?_)
            ·
              refine WL.move rfl rfl (WL.pass rfl rfl rfl rfl (WL.pass rfl rfl rfl rfl (WL.pass rfl rfl rfl rfl (WL.pass rfl rfl rfl rfl (WL.pass rfl rfl rfl rfl (WL.pickT rfl rfl rfl (WL.nil (?_))))))))
              refine WX.then_normal (WC.cond_true rfl (WC.seq (WC.region (WL.assign rfl rfl (WL.assign rfl rfl (WL.nil (WX.then_normal (?_))))))))
              refine WC.ret (WX.then_ret (WX.block_ret (WX.then_ret (WX.block_ret (WX.then_ret (?_))))))
              refine WX.ret2 (.inl rfl) Tryd.results18 rfl rfl ?_
              first
                | (refine ⟨_, rfl, ⟨a1, c1, ?_, ?_⟩, kk⟩ <;> (
                     have hnil : s.data.toList = [] := ba_nil.1 h11
                     rw [hnil] at hi
                     have he := decI_end hi
                     simp only [decL, decE, he])
                   ·
                     rfl
                   ·
                     exact hq)
                | (have he : dec 0 s0.data.toList = none := by
                     refine decI_bad hi ?_
                     first
                       | exact dec_none hc
                       | (rw [dec_some hc]
                          by_cases hn : out.length = 2000
                          ·
                            rw [if_pos hn]
                          ·
                            rw [if_neg hn]
                            first
                              | (exfalso; omega)
                              | (have h1 : ¬ x.toNat = 1 := by omega
                                 have h2 : ¬ (x.toNat = 2 ∧ u.toNat ≤ 4000 ∧ u.toNat ≤ r.data.toList.length) := by omega
                                 rw [if_neg h1, if_neg h2]))
                   refine ⟨_, rfl, ⟨none, 0, ?_, ?_⟩, kk⟩ <;> simp only [decL, decE, he]
                   ·
                     rfl
                   ·
                     exact Row.nil _ _ _ _)
            ·
              refine WL.move rfl rfl (WL.want rfl rfl rfl (WL.move rfl rfl (WL.want rfl rfl rfl (WL.move rfl rfl (WL.want rfl rfl rfl (WL.lens Tryd.underlying9 rfl rfl (WL.want rfl rfl rfl (?_))))))))
              refine WL.c_i64_u64 Tryd.underlying3 Tryd.underlying41 rfl rfl (WL.want rfl rfl rfl (?_))
              refine WL.gtr? rfl rfl rfl (fun h60 => ?_) (fun h60 => ?_)
              ·
                refine WL.pickF rfl rfl rfl (WL.nil (WX.then_normal (WC.cond_true rfl (WC.seq (WC.region (WL.assign rfl rfl (WL.assign rfl rfl (?_))))))))
                refine WL.nil (WX.then_normal (WC.ret (WX.then_ret (WX.block_ret (WX.then_ret (WX.block_ret (WX.then_ret (?_))))))))
                refine WX.ret2 (.inl rfl) Tryd.results18 rfl rfl ?_
                first
                  | (refine ⟨_, rfl, ⟨a1, c1, ?_, ?_⟩, kk⟩ <;> (
                       have hnil : s.data.toList = [] := ba_nil.1 h11
                       rw [hnil] at hi
                       have he := decI_end hi
                       simp only [decL, decE, he])
                     ·
                       rfl
                     ·
                       exact hq)
                  | (have he : dec 0 s0.data.toList = none := by
                       refine decI_bad hi ?_
                       first
                         | exact dec_none hc
                         | (rw [dec_some hc]
                            by_cases hn : out.length = 2000
                            ·
                              rw [if_pos hn]
                            ·
                              rw [if_neg hn]
                              first
                                | (exfalso; omega)
                                | (have h1 : ¬ x.toNat = 1 := by omega
                                   have h2 : ¬ (x.toNat = 2 ∧ u.toNat ≤ 4000 ∧ u.toNat ≤ r.data.toList.length) := by omega
                                   rw [if_neg h1, if_neg h2]))
                     refine ⟨_, rfl, ⟨none, 0, ?_, ?_⟩, kk⟩ <;> simp only [decL, decE, he]
                     ·
                       rfl
                     ·
                       exact Row.nil _ _ _ _)
              ·
                refine WL.pickF rfl rfl rfl (WL.nil (WX.then_normal (WC.cond_false rfl (WC.skip (WX.then_normal (WC.seq (WC.region (?_))))))))
                refine WL.move rfl rfl (WL.move rfl rfl (WL.move rfl rfl (?_)))
                refine WL.sslice (l := 0) (h := u.toNat) (k := .i64) Tryd.underlying9 rfl (.inr ⟨rfl, rfl⟩) (.inl rfl) (by constructor <;> omega) rfl ?_
                refine WL.bld rfl (bld_31_0_2 _ _) rfl (?_)
                refine WL.build (e := eit) [⟨2, 0, r.extract 0 u.toNat⟩] Tryd.underlying23 Tryd.sizeOf31 Tryd.zeroValue31 rfl rfl rfl (by first | (simp [Value.cells]; done) | (simp [Value.cells] <;> rfl) | (simp [Value.cells, eb, ei, es, ebool, e32, e64]; done)) (by decide) rfl ?_
                intro a_hn w_hn hn l_hn z_hn k_hn
                have zs_k_hn := k_hn.size
                replace kk := kk.pure k_hn
                replace hq := hq.pure k_hn
                refine WL.append (e := eit) info_31 rfl Tryd.underlying23 rfl rfl hq (hn.rsl.src Tryd.underlying23) (by (try simp only [List.length_append, List.length_cons, List.length_nil] at *); omega) (by intro b hb; first | (apply hS; omega) | ((try dsimp only); omega)) rfl ?_
                intro a_hq2 c_hq2 w_hq2 hq2 g_hq2 n_hq2
                have z_hq2 := g_hq2.chg.size
                have zs_g_hq2_chg := g_hq2.chg.size
                replace kk := kk.chg g_hq2.chg (by first | (intro x h1 h2; exact h2) | (intro x h0 h1 h2; exact hS x h1 h2) | (intro x h0 h1 h2; have h3 : _ = _ := h2; subst h3; exact hSR h1.1) | (intro x h1 h2; have h3 : _ = _ := h2; subst h3; assumption) | (intro x h1 h2; have h3 : _ = _ := h2; exfalso; omega) | (intro b h1 h2 h3; have h4 : _ = _ := h3; (try dsimp only at h2); exfalso; omega) | (intro h1; have h2 : _ = _ := h1; exfalso; omega) | (intro h1; have h2 : _ ≤ _ := h1; exfalso; omega) | (intros; exfalso; (try dsimp only at *); omega) | (intro b h1 h2 h3; exfalso; have h4 := h3.2; (try dsimp only at *); omega) | (intro h1; exfalso; have h4 := h1.2; (try dsimp only at *); omega) | (intro x h1 h2; exfalso; have h4 := h2.2; (try dsimp only at *); omega) | (intro x h1 h2; exact ⟨_, rfl, h2⟩) | (intro x h1 h2; have h4 := h2.1; have h5 := h2.2; exfalso; omega) | (intro x h1 h2; exact h2.1) | (intro x h1 h2; rcases h2.1 with h3 | h3; exact h3; exfalso; omega) | (intro x h1 h2; rcases h2 with h3 | h3; exact h3; exfalso; omega))
                refine WL.assign rfl rfl (WL.nil (WX.then_normal (WC.region (WL.move rfl rfl (WL.move rfl rfl (?_))))))
                refine WL.sslice (l := u.toNat) (h := r.size) (j := .i64) Tryd.underlying9 rfl (.inl rfl) (.inr ⟨rfl, rfl⟩) (by constructor <;> omega) rfl ?_
                refine WL.assign rfl rfl (WL.nil (WX.block_normal (?_)))
                first
                  | (have hn2 : ¬ out.length = 2000 := by omega
                     have h1 : x.toNat = 1 := by omega
                     first
                       | (have eu : unz u.toNat = -((u.toNat / 2 : Nat) : Int) - 1 := if_pos (by omega)
                          refine WX.loop_next ((out ++ [⟨1, -((u.toNat / 2 : Nat) : Int) - 1, ⟨#[]⟩⟩], a_hq2, c_hq2), r) ⟨rfl, rfl, trivial⟩ ⟨by dsimp only; simp; omega, by dsimp only; omega, ?_, hq2, kk⟩ (by show r.size < s.size; omega)
                          refine decI_step hi ?_
                          rw [dec_some hc, if_neg hn2, if_pos h1, eu]
                          done)
                       | (have eu : unz u.toNat = ((u.toNat / 2 : Nat) : Int) := if_neg (by omega)
                          refine WX.loop_next ((out ++ [⟨1, ((u.toNat / 2 : Nat) : Int), ⟨#[]⟩⟩], a_hq2, c_hq2), r) ⟨rfl, rfl, trivial⟩ ⟨by dsimp only; simp; omega, by dsimp only; omega, ?_, hq2, kk⟩ (by show r.size < s.size; omega)
                          refine decI_step hi ?_
                          rw [dec_some hc, if_neg hn2, if_pos h1, eu]))
                  | (have hn2 : ¬ out.length = 2000 := by omega
                     have h1 : ¬ x.toNat = 1 := by omega
                     have h2 : x.toNat = 2 ∧ u.toNat ≤ 4000 ∧ u.toNat ≤ r.data.toList.length := by omega
                     refine WX.loop_next ((out ++ [⟨2, 0, r.extract 0 u.toNat⟩], a_hq2, c_hq2), r.extract u.toNat r.size) ⟨rfl, rfl, trivial⟩ ⟨by dsimp only; simp; omega, by dsimp only; simp; omega, ?_, hq2, kk⟩ (by show (r.extract u.toNat r.size).size < s.size; simp; omega)
                     rw [ba_drop, ba_take]
                     refine decI_step hi ?_
                     rw [dec_some hc, if_neg hn2, if_neg h1, if_pos h2])
    ·
      have zs_k2 := k2.size
      replace kk := kk.pure k2
      replace hq := hq.pure k2
      refine WL.move rfl rfl (WL.extract rfl rfl rfl (WL.extract rfl rfl rfl (WL.extract rfl rfl rfl (WL.assign rfl rfl (WL.assign rfl rfl (WL.assign rfl rfl (WL.nil (?_))))))))
      refine WX.then_normal (WC.seq (WC.seq (WC.region (WL.move rfl rfl (WL.not rfl rfl (WL.move rfl rfl (WL.pass rfl rfl rfl rfl (?_))))))))
      refine WL.pass rfl rfl rfl rfl (WL.pass rfl rfl rfl rfl (WL.passU rfl rfl rfl (WL.passU rfl rfl rfl (WL.pass rfl rfl rfl rfl (WL.pickT rfl rfl rfl (WL.move rfl rfl (WL.pass rfl rfl rfl rfl (?_))))))))
      refine WL.pass rfl rfl rfl rfl (WL.pass rfl rfl rfl rfl (WL.pickT rfl rfl rfl (WL.nil (WX.then_normal (WC.cond_true rfl (WC.seq (WC.region (?_))))))))
      refine WL.assign rfl rfl (WL.assign rfl rfl (WL.nil (WX.then_normal (WC.ret (WX.then_ret (WX.block_ret (WX.then_ret (?_))))))))
      refine WX.block_ret (WX.then_ret (?_))
      refine WX.ret2 (.inl rfl) Tryd.results18 rfl rfl ?_
      first
        | (refine ⟨_, rfl, ⟨a1, c1, ?_, ?_⟩, kk⟩ <;> (
             have hnil : s.data.toList = [] := ba_nil.1 h11
             rw [hnil] at hi
             have he := decI_end hi
             simp only [decL, decE, he])
           ·
             rfl
           ·
             exact hq)
        | (have he : dec 0 s0.data.toList = none := by
             refine decI_bad hi ?_
             first
               | exact dec_none hc
               | (rw [dec_some hc]
                  by_cases hn : out.length = 2000
                  ·
                    rw [if_pos hn]
                  ·
                    rw [if_neg hn]
                    first
                      | (exfalso; omega)
                      | (have h1 : ¬ x.toNat = 1 := by omega
                         have h2 : ¬ (x.toNat = 2 ∧ u.toNat ≤ 4000 ∧ u.toNat ≤ r.data.toList.length) := by omega
                         rw [if_neg h1, if_neg h2]))
           refine ⟨_, rfl, ⟨none, 0, ?_, ?_⟩, kk⟩ <;> simp only [decL, decE, he]
           ·
             rfl
           ·
             exact Row.nil _ _ _ _)
  ·
    refine WL.nil (WX.then_normal (WC.cond_false rfl (WC.exit (WX.then_exit (WX.then_exit (WX.block_here (WX.then_normal (?_))))))))
    refine WC.seq (WC.region (WL.move rfl rfl (WL.assign rfl rfl (WL.assign rfl rfl (WL.nil (WX.then_normal (WC.ret (?_))))))))
    refine WX.ret2 (.inl rfl) Tryd.results18 rfl rfl ?_
    first
      | (refine ⟨_, rfl, ⟨a1, c1, ?_, ?_⟩, kk⟩ <;> (
           have hnil : s.data.toList = [] := ba_nil.1 h11
           rw [hnil] at hi
           have he := decI_end hi
           simp only [decL, decE, he])
         ·
           rfl
         ·
           exact hq)
      | (have he : dec 0 s0.data.toList = none := by
           refine decI_bad hi ?_
           first
             | exact dec_none hc
             | (rw [dec_some hc]
                by_cases hn : out.length = 2000
                ·
                  rw [if_pos hn]
                ·
                  rw [if_neg hn]
                  first
                    | (exfalso; omega)
                    | (have h1 : ¬ x.toNat = 1 := by omega
                       have h2 : ¬ (x.toNat = 2 ∧ u.toNat ≤ 4000 ∧ u.toNat ≤ r.data.toList.length) := by omega
                       rw [if_neg h1, if_neg h2]))
         refine ⟨_, rfl, ⟨none, 0, ?_, ?_⟩, kk⟩ <;> simp only [decL, decE, he]
         ·
           rfl
         ·
           exact Row.nil _ _ _ _)
end Go.Proofs.YtcdbkfaebgficaaDoor
namespace Go.Proofs.YtcdbkfaebgficaaDoor
open Go.RowKit Go.HL

/-! what is encoded is decoded, and the other way round -/
theorem ctd_cnt : ∀ (bs : List UInt8) (k : Nat) {c : Nat} {r : List UInt8}, ctd k bs = some (c, r) → bs = cnt c ++ r ∧ (0 < k → 0 < c)
  | [], k, c, r, h => by simp [ctd] at h
  | x :: bs, k, c, r, h => by
    have hx := x.toNat_lt
    unfold ctd at h
    split at h
    · cases h
    · rename_i hn
      split at h
      · rename_i hl
        injection h with h
        injection h with h1 h2
        subst h1; subst h2
        rw [cnt_small hl]
        refine ⟨by simp, by omega⟩
      · rename_i hl
        obtain ⟨⟨c', r'⟩, h1, h2⟩ := Option.map_eq_some_iff.1 h
        injection h2 with h3 h4
        subst h4
        obtain ⟨h5, h6⟩ := ctd_cnt bs (k + 1) h1
        have h7 := h6 (by omega)
        rw [cnt_big (by omega), show c / 128 = c' from by omega, show c % 128 + 128 = x.toNat from by omega]
        refine ⟨?_, by omega⟩
        rw [h5]
        simp
theorem zig_unz {c : Nat} : zig (unz c) = c := by
  unfold zig unz
  split <;> split <;> omega
theorem unz_range {c : Nat} (h : c < 18446744073709551616) : -9223372036854775808 ≤ unz c ∧ unz c ≤ 9223372036854775807 := by
  unfold unz
  split <;> omega
def Good (i : Item) : Prop := longI i = false ∧ okI i = true ∧ RIt i
theorem encAll_cons (i : Item) (l : List Item) : encAll (i :: l) = enc1 i ++ encAll l := by simp [encAll]
theorem dec_spec (m : Nat) : ∀ (b : List UInt8), b.length ≤ m → ∀ (n : Nat) (l : List Item), n ≤ 2000 → dec n b = some l → n + l.length ≤ 2000 ∧ (∀ i ∈ l, Good i) ∧ encAll l = b := by
  induction m with
  | zero =>
    intro b hb n l hn h
    have : b = [] := List.eq_nil_of_length_eq_zero (by omega)
    subst this
    rw [dec_nil] at h
    injection h with h
    subst h
    exact ⟨by simpa using hn, by simp, rfl⟩
  | succ m ih =>
    intro b hb n l hn h
    cases b with
    | nil =>
      rw [dec_nil] at h
      injection h with h
      subst h
      exact ⟨by simpa using hn, by simp, rfl⟩
    | cons k r =>
      cases hc : ctd 0 r with
      | none => rw [dec_none hc] at h; cases h
      | some p =>
        obtain ⟨c, r'⟩ := p
        obtain ⟨h1, _⟩ := ctd_cnt r 0 hc
        obtain ⟨_, h2, h3⟩ := ctd_bound r 0 (by omega) hc
        simp at hb
        rw [dec_some hc] at h
        split at h
        · cases h
        · rename_i hn2
          split at h
          · rename_i hk
            obtain ⟨l', h4, rfl⟩ := Option.map_eq_some_iff.1 h
            obtain ⟨h5, h6, h7⟩ := ih r' (by omega) (n + 1) l' (by omega) h4
            have hg : Good ⟨1, unz c, ⟨#[]⟩⟩ := ⟨by simp [longI], by simp [okI], unz_range (by simpa using h2)⟩
            refine ⟨by simp; omega, ?_, ?_⟩
            · intro i hi
              rcases List.mem_cons.1 hi with rfl | hi
              · exact hg
              · exact h6 i hi
            · rw [encAll_cons, h7, ← renc1_eq hg.2.1 hg.2.2, renc1, if_pos rfl, zig_unz, h1]
              have : k = 1 := UInt8.toNat_inj.1 hk
              rw [this]
              rfl
          · rename_i hk
            split at h
            · rename_i hk2
              obtain ⟨l', h4, rfl⟩ := Option.map_eq_some_iff.1 h
              obtain ⟨h5, h6, h7⟩ := ih (r'.drop c) (by simp; omega) (n + 1) l' (by omega) h4
              have hsz : (ByteArray.mk (r'.take c).toArray).size = c := by
                show (r'.take c).toArray.size = c
                simp; omega
              have hg : Good ⟨2, 0, ⟨(r'.take c).toArray⟩⟩ := ⟨by simp only [longI, hsz, decide_eq_false_iff_not]; omega, by simp [okI], ⟨show (-9223372036854775808 : Int) ≤ 0 by decide, show (0 : Int) ≤ 9223372036854775807 by decide⟩⟩
              refine ⟨by simp; omega, ?_, ?_⟩
              · intro i hi
                rcases List.mem_cons.1 hi with rfl | hi
                · exact hg
                · exact h6 i hi
              · rw [encAll_cons, h7, ← renc1_eq hg.2.1 hg.2.2, renc1, if_neg (show ¬ ((2 : Int) = 1) by decide)]
                have e0 : k = 2 := UInt8.toNat_inj.1 hk2.1
                have e1 : (ByteArray.mk (r'.take c).toArray).data.toList = r'.take c := rfl
                show 2 :: (cnt (ByteArray.mk (r'.take c).toArray).size ++ (ByteArray.mk (r'.take c).toArray).data.toList) ++ r'.drop c = k :: r
                rw [hsz, e1, e0, h1]
                simp
            · cases h
end Go.Proofs.YtcdbkfaebgficaaDoor
namespace Go.Proofs.YtcdbkfaebgficaaDoor
open Go.RowKit Go.HL

/-! the sums' own words -/
structure V8 where
  a : UInt32
  b : UInt32
  c : UInt32
  d : UInt32
  e : UInt32
  f : UInt32
  g : UInt32
  h : UInt32
def rotr (x : UInt32) (n : Nat) : UInt32 := (x <<< UInt32.ofNat (32 - n)) ||| (x >>> UInt32.ofNat n)
def wordAt (b : List UInt8) (t : Nat) : UInt32 := (((b.getD (4 * t) 0).toUInt32 <<< UInt32.ofNat 24 ||| (b.getD (4 * t + 1) 0).toUInt32 <<< UInt32.ofNat 16) ||| (b.getD (4 * t + 2) 0).toUInt32 <<< UInt32.ofNat 8) ||| (b.getD (4 * t + 3) 0).toUInt32
def nextW (b : List UInt8) (ws : List UInt32) (t : Nat) : UInt32 :=
  if t < 16 then wordAt b t
  else ws.getD (t - 16) 0 + ((rotr (ws.getD (t - 15) 0) 7 ^^^ rotr (ws.getD (t - 15) 0) 18) ^^^ (ws.getD (t - 15) 0) >>> UInt32.ofNat 3) + ws.getD (t - 7) 0 + ((rotr (ws.getD (t - 2) 0) 17 ^^^ rotr (ws.getD (t - 2) 0) 19) ^^^ (ws.getD (t - 2) 0) >>> UInt32.ofNat 10)
def sch (b : List UInt8) : Nat → List UInt32
  | 0 => []
  | t + 1 => let ws := sch b t; ws ++ [nextW b ws t]
def K256 : List UInt32 := [
    0x428a2f98, 0x71374491, 0xb5c0fbcf, 0xe9b5dba5, 0x3956c25b, 0x59f111f1, 0x923f82a4, 0xab1c5ed5,
    0xd807aa98, 0x12835b01, 0x243185be, 0x550c7dc3, 0x72be5d74, 0x80deb1fe, 0x9bdc06a7, 0xc19bf174,
    0xe49b69c1, 0xefbe4786, 0x0fc19dc6, 0x240ca1cc, 0x2de92c6f, 0x4a7484aa, 0x5cb0a9dc, 0x76f988da,
    0x983e5152, 0xa831c66d, 0xb00327c8, 0xbf597fc7, 0xc6e00bf3, 0xd5a79147, 0x06ca6351, 0x14292967,
    0x27b70a85, 0x2e1b2138, 0x4d2c6dfc, 0x53380d13, 0x650a7354, 0x766a0abb, 0x81c2c92e, 0x92722c85,
    0xa2bfe8a1, 0xa81a664b, 0xc24b8b70, 0xc76c51a3, 0xd192e819, 0xd6990624, 0xf40e3585, 0x106aa070,
    0x19a4c116, 0x1e376c08, 0x2748774c, 0x34b0bcb5, 0x391c0cb3, 0x4ed8aa4a, 0x5b9cca4f, 0x682e6ff3,
    0x748f82ee, 0x78a5636f, 0x84c87814, 0x8cc70208, 0x90befffa, 0xa4506ceb, 0xbef9a3f7, 0xc67178f2]
def round1 (v : V8) (k w : UInt32) : V8 :=
  let t1 := v.h + ((rotr v.e 6 ^^^ rotr v.e 11) ^^^ rotr v.e 25) + ((v.e &&& v.f) ^^^ (~~~v.e &&& v.g)) + k + w
  let t2 := ((rotr v.a 2 ^^^ rotr v.a 13) ^^^ rotr v.a 22) + (((v.a &&& v.b) ^^^ (v.a &&& v.c)) ^^^ (v.b &&& v.c))
  ⟨t1 + t2, v.a, v.b, v.c, v.d + t1, v.e, v.f, v.g⟩
def roundsN (w : List UInt32) (v : V8) : Nat → V8
  | 0 => v
  | t + 1 => round1 (roundsN w v t) (K256.getD t 0) (w.getD t 0)
def mix (s : V8) (b : List UInt8) : V8 :=
  let v := roundsN (sch b 64) s 64
  ⟨s.a + v.a, s.b + v.b, s.c + v.c, s.d + v.d, s.e + v.e, s.f + v.f, s.g + v.g, s.h + v.h⟩
def st0 : V8 := ⟨0x6a09e667, 0xbb67ae85, 0x3c6ef372, 0xa54ff53a, 0x510e527f, 0x9b05688c, 0x1f83d9ab, 0x5be0cd19⟩
def be8 (n : UInt64) (i : Nat) : List UInt8 := (List.range i).map fun q => (n >>> UInt64.ofNat (56 - 8 * q)).toUInt8
def padded (b : List UInt8) : List UInt8 := b ++ [128] ++ List.replicate ((120 - (b.length + 1) % 64) % 64) 0 ++ be8 (UInt64.ofNat b.length <<< UInt64.ofNat 3) 8

/-! turning -/
theorem rot_cnt {n : Nat} (h : 1 ≤ n ∧ n ≤ 31) : (B64 (-(n : Int)) &&& 31).toNat = 32 - n ∧ (32 - (B64 (-(n : Int)) &&& 31)).toNat = n := by
  have : ∀ m : Fin 32, 1 ≤ m.1 → (B64 (-(m.1 : Int)) &&& 31).toNat = 32 - m.1 ∧ (32 - (B64 (-(m.1 : Int)) &&& 31)).toNat = m.1 := by decide +kernel
  exact this ⟨n, by omega⟩ h.1
theorem rotl_calls (x : UInt32) (n : Nat) (w : World) (h : 1 ≤ n ∧ n ≤ 31) : Calls Tryd.prog 124 [v32 x, vi (-(n : Int))].toArray w (Ret fun v w' => v = v32 (rotr x n) ∧ Chg Nob w w') := by
  have hw := Chg.refl Nob w
  have hc := rot_cnt h
  refine Calls.of_WC Tryd.func124 rfl Tryd.ntmps124 (by simp) ?_
  refine WC.seq (WC.region (WL.assign rfl rfl (WL.nil (WX.then_normal (WC.seq (WC.region (WL.move rfl rfl (?_))))))))
  refine WL.c_i64_u64 Tryd.underlying3 Tryd.underlying88 rfl rfl (WL.num rfl rfl (n_and64 _ _ _ 31) rfl (WL.assign rfl rfl (WL.nil (WX.then_normal (WC.seq (WC.region (WL.move rfl rfl (?_))))))))
  refine WL.move rfl rfl (?_)
  refine WL.shl32v (32 - n) rfl rfl ⟨by rw [hc.1], by omega⟩ rfl ?_
  refine WL.move rfl rfl (WL.move rfl rfl (WL.num rfl rfl (n_sub64 _ _ 32 _) rfl (?_)))
  refine WL.shr32v n rfl rfl ⟨by rw [hc.2], by omega⟩ rfl ?_
  refine WL.num rfl rfl (n_or32 _ _ _ _) rfl (WL.assign rfl rfl (WL.nil (WX.then_normal (WC.ret (?_)))))
  refine WX.ret1 (.inl rfl) Tryd.results124 rfl ?_
  exact ⟨_, rfl, rfl, hw⟩
theorem ror_calls (x : UInt32) (n : Nat) (w : World) (h : 1 ≤ n ∧ n ≤ 31) : Calls Tryd.prog 120 [v32 x, vi (n : Int)].toArray w (Ret fun v w' => v = v32 (rotr x n) ∧ Chg Nob w w') := by
  have hw := Chg.refl Nob w
  refine Calls.of_WC Tryd.func120 rfl Tryd.ntmps120 (by simp) ?_
  refine WC.seq (WC.region (WL.assign rfl rfl (WL.nil (WX.then_normal (WC.seq (WC.region (WL.move rfl rfl (?_))))))))
  refine WL.move rfl rfl (WL.neg64 rfl (by first | omega | (constructor <;> omega)) rfl (?_))
  refine WL.call eg_124 rfl rfl (rotl_calls x n _ h) ?_
  rintro v w1 ⟨rfl, k⟩
  have zs_k := k.size
  replace hw := hw.pure k
  refine WL.assign rfl rfl (WL.nil (WX.then_normal (WC.ret (?_))))
  refine WX.ret1 (.inl rfl) Tryd.results120 rfl ?_
  exact ⟨_, rfl, rfl, hw⟩
/-! bytes of one's own -/
theorem clone_calls {S : Nat → Prop} {w : World} {ao : Option Addr} {c : Nat} {b : List UInt8} (hr : RSl S w eb ao c b) (hl : b.length ≤ 140737488351232) :
    Calls Tryd.prog 81 [.slice ao b.length c].toArray w (Ret fun v w' => (∃ (ao' : Option Addr) (c' : Nat), v = .slice ao' b.length c' ∧ Row (w.heap.size ≤ ·) w' 5 eb ao' c' b) ∧ Chg Nob w w') := by
  replace hr := hr.old
  have hw := Chg.refl Nob w
  refine Calls.of_WC Tryd.func81 rfl Tryd.ntmps81 (by simp) ?_
  refine WC.seq (WC.region (WL.assign rfl rfl (WL.nil (WX.then_normal (WC.seq (WC.seq (WC.region (?_))))))))
  refine WL.move rfl rfl (?_)
  refine WL.isNil? Tryd.underlying22 rfl rfl rfl (fun h4 => ?_) (fun h4 => ?_)
  ·
    refine WL.nil (WX.then_normal (WC.cond_true rfl (WC.seq (WC.region (WL.assign rfl rfl (WL.nil (WX.then_normal (?_))))))))
    refine WC.ret (WX.then_ret (?_))
    refine WX.ret1 (.inl rfl) Tryd.results81 rfl ?_
    first
      | (subst h4
         have hn := hr.none_nil
         subst hn
         exact ⟨_, rfl, ⟨none, 0, rfl, Row.nil _ _ _ _⟩, hw⟩)
      | exact ⟨_, rfl, ⟨_, _, rfl, hq2⟩, hw⟩
  ·
    refine WL.nil (WX.then_normal (WC.cond_false rfl (WC.skip (WX.then_normal (WC.seq (WC.region (?_)))))))
    refine WL.build (e := eb) [] Tryd.underlying22 Tryd.sizeOf5 Tryd.zeroValue5 rfl rfl rfl (by first | (simp [Value.cells]; done) | (simp [Value.cells] <;> rfl) | (simp [Value.cells, eb, ei, es, ebool, e32, e64]; done)) (by decide) rfl ?_
    intro a_hq w_hq hq l_hq z_hq k_hq
    have zs_k_hq := k_hq.size
    replace hr := hr.pure k_hq
    replace hw := hw.pure k_hq
    refine WL.move rfl rfl (?_)
    refine WL.append (e := eb) info_5 rfl Tryd.underlying22 rfl rfl hq (hr.src Tryd.underlying22) (by (try simp only [List.length_append, List.length_cons, List.length_nil] at *); omega) (by intro b hb; first | (apply hS; omega) | ((try dsimp only); omega)) rfl ?_
    intro a_hq2 c_hq2 w_hq2 hq2 g_hq2 n_hq2
    have z_hq2 := g_hq2.chg.size
    have zs_g_hq2_chg := g_hq2.chg.size
    replace hr := hr.chg g_hq2.chg (by first | (intro x h1 h2; exact h2) | (intro x h0 h1 h2; exact hS x h1 h2) | (intro x h0 h1 h2; have h3 : _ = _ := h2; subst h3; exact hSR h1.1) | (intro x h1 h2; have h3 : _ = _ := h2; subst h3; assumption) | (intro x h1 h2; have h3 : _ = _ := h2; exfalso; omega) | (intro b h1 h2 h3; have h4 : _ = _ := h3; (try dsimp only at h2); exfalso; omega) | (intro h1; have h2 : _ = _ := h1; exfalso; omega) | (intro h1; have h2 : _ ≤ _ := h1; exfalso; omega) | (intros; exfalso; (try dsimp only at *); omega) | (intro b h1 h2 h3; exfalso; have h4 := h3.2; (try dsimp only at *); omega) | (intro h1; exfalso; have h4 := h1.2; (try dsimp only at *); omega) | (intro x h1 h2; exfalso; have h4 := h2.2; (try dsimp only at *); omega) | (intro x h1 h2; exact ⟨_, rfl, h2⟩) | (intro x h1 h2; have h4 := h2.1; have h5 := h2.2; exfalso; omega) | (intro x h1 h2; exact h2.1) | (intro x h1 h2; rcases h2.1 with h3 | h3; exact h3; exfalso; omega) | (intro x h1 h2; rcases h2 with h3 | h3; exact h3; exfalso; omega))
    replace hw := hw.chg g_hq2.chg (by first | (intro x h1 h2; exact h2) | (intro x h0 h1 h2; exact hS x h1 h2) | (intro x h0 h1 h2; have h3 : _ = _ := h2; subst h3; exact hSR h1.1) | (intro x h1 h2; have h3 : _ = _ := h2; subst h3; assumption) | (intro x h1 h2; have h3 : _ = _ := h2; exfalso; omega) | (intro b h1 h2 h3; have h4 : _ = _ := h3; (try dsimp only at h2); exfalso; omega) | (intro h1; have h2 : _ = _ := h1; exfalso; omega) | (intro h1; have h2 : _ ≤ _ := h1; exfalso; omega) | (intros; exfalso; (try dsimp only at *); omega) | (intro b h1 h2 h3; exfalso; have h4 := h3.2; (try dsimp only at *); omega) | (intro h1; exfalso; have h4 := h1.2; (try dsimp only at *); omega) | (intro x h1 h2; exfalso; have h4 := h2.2; (try dsimp only at *); omega) | (intro x h1 h2; exact ⟨_, rfl, h2⟩) | (intro x h1 h2; have h4 := h2.1; have h5 := h2.2; exfalso; omega) | (intro x h1 h2; exact h2.1) | (intro x h1 h2; rcases h2.1 with h3 | h3; exact h3; exfalso; omega) | (intro x h1 h2; rcases h2 with h3 | h3; exact h3; exfalso; omega))
    refine WL.assign rfl rfl (WL.nil (WX.then_normal (WC.ret (?_))))
    refine WX.ret1 (.inl rfl) Tryd.results81 rfl ?_
    first
      | (subst h4
         have hn := hr.none_nil
         subst hn
         exact ⟨_, rfl, ⟨none, 0, rfl, Row.nil _ _ _ _⟩, hw⟩)
      | exact ⟨_, rfl, ⟨_, _, rfl, hq2⟩, hw⟩
/-! the message with what is put behind -/
theorem pad_calls {S : Nat → Prop} {w : World} {ao : Option Addr} {c : Nat} {b : List UInt8} (hr : RSl S w eb ao c b) (hl : b.length ≤ 140737488351232) :
    Calls Tryd.prog 106 [.slice ao b.length c].toArray w (Ret fun v w' => (∃ (ao' : Option Addr) (c' : Nat), v = .slice ao' (padded b).length c' ∧ Row (w.heap.size ≤ ·) w' 5 eb ao' c' (padded b)) ∧ Chg Nob w w') := by
  replace hr := hr.old
  have hw := Chg.refl Nob w
  refine Calls.of_WC Tryd.func106 rfl Tryd.ntmps106 (by simp) ?_
  refine WC.seq (WC.region (WL.assign rfl rfl (WL.nil (WX.then_normal (WC.seq (WC.region (WL.move rfl rfl (?_))))))))
  refine WL.call eg_81 rfl rfl (clone_calls hr hl) ?_
  rintro v w1 ⟨⟨a1, c1, rfl, hq⟩, k⟩
  have zs_k := k.size
  replace hr := hr.pure k
  replace hw := hw.pure k
  refine WL.build (e := eb) [128] Tryd.underlying22 Tryd.sizeOf5 Tryd.zeroValue5 rfl rfl rfl (by first | (simp [Value.cells]; done) | (simp [Value.cells] <;> rfl) | (simp [Value.cells, eb, ei, es, ebool, e32, e64]; done)) (by decide) rfl ?_
  intro a_hn w_hn hn l_hn z_hn k_hn
  have zs_k_hn := k_hn.size
  replace hr := hr.pure k_hn
  replace hw := hw.pure k_hn
  replace hq := hq.pure k_hn
  refine WL.append (e := eb) info_5 rfl Tryd.underlying22 rfl rfl hq (hn.rsl.src Tryd.underlying22) (by (try simp only [List.length_append, List.length_cons, List.length_nil] at *); omega) (by intro b hb; first | (apply hS; omega) | ((try dsimp only); omega)) rfl ?_
  intro a_hq1 c_hq1 w_hq1 hq1 g_hq1 n_hq1
  have z_hq1 := g_hq1.chg.size
  have zs_g_hq1_chg := g_hq1.chg.size
  replace hr := hr.chg g_hq1.chg (by first | (intro x h1 h2; exact h2) | (intro x h0 h1 h2; exact hS x h1 h2) | (intro x h0 h1 h2; have h3 : _ = _ := h2; subst h3; exact hSR h1.1) | (intro x h1 h2; have h3 : _ = _ := h2; subst h3; assumption) | (intro x h1 h2; have h3 : _ = _ := h2; exfalso; omega) | (intro b h1 h2 h3; have h4 : _ = _ := h3; (try dsimp only at h2); exfalso; omega) | (intro h1; have h2 : _ = _ := h1; exfalso; omega) | (intro h1; have h2 : _ ≤ _ := h1; exfalso; omega) | (intros; exfalso; (try dsimp only at *); omega) | (intro b h1 h2 h3; exfalso; have h4 := h3.2; (try dsimp only at *); omega) | (intro h1; exfalso; have h4 := h1.2; (try dsimp only at *); omega) | (intro x h1 h2; exfalso; have h4 := h2.2; (try dsimp only at *); omega) | (intro x h1 h2; exact ⟨_, rfl, h2⟩) | (intro x h1 h2; have h4 := h2.1; have h5 := h2.2; exfalso; omega) | (intro x h1 h2; exact h2.1) | (intro x h1 h2; rcases h2.1 with h3 | h3; exact h3; exfalso; omega) | (intro x h1 h2; rcases h2 with h3 | h3; exact h3; exfalso; omega))
  replace hw := hw.chg g_hq1.chg (by first | (intro x h1 h2; exact h2) | (intro x h0 h1 h2; exact hS x h1 h2) | (intro x h0 h1 h2; have h3 : _ = _ := h2; subst h3; exact hSR h1.1) | (intro x h1 h2; have h3 : _ = _ := h2; subst h3; assumption) | (intro x h1 h2; have h3 : _ = _ := h2; exfalso; omega) | (intro b h1 h2 h3; have h4 : _ = _ := h3; (try dsimp only at h2); exfalso; omega) | (intro h1; have h2 : _ = _ := h1; exfalso; omega) | (intro h1; have h2 : _ ≤ _ := h1; exfalso; omega) | (intros; exfalso; (try dsimp only at *); omega) | (intro b h1 h2 h3; exfalso; have h4 := h3.2; (try dsimp only at *); omega) | (intro h1; exfalso; have h4 := h1.2; (try dsimp only at *); omega) | (intro x h1 h2; exfalso; have h4 := h2.2; (try dsimp only at *); omega) | (intro x h1 h2; exact ⟨_, rfl, h2⟩) | (intro x h1 h2; have h4 := h2.1; have h5 := h2.2; exfalso; omega) | (intro x h1 h2; exact h2.1) | (intro x h1 h2; rcases h2.1 with h3 | h3; exact h3; exfalso; omega) | (intro x h1 h2; rcases h2 with h3 | h3; exact h3; exfalso; omega))
  refine WL.assign rfl rfl (WL.nil (WX.then_normal (WC.seq (WC.block (?_)))))
  refine WC.loop (σ := Nat × Option Addr × Nat) (fun s => [(3, .slice s.2.1 (b ++ [128] ++ List.replicate s.1 0).length s.2.2), (0, .slice ao b.length c)])
    (fun s w' => s.1 ≤ (120 - (b.length + 1) % 64) % 64 ∧ Row (w.heap.size ≤ ·) w' 5 eb s.2.1 s.2.2 (b ++ [128] ++ List.replicate s.1 0) ∧ RSl (· < w.heap.size) w' eb ao c b ∧ Chg Nob w w') (fun s => 64 - s.1) (0, a_hq1, c_hq1) ⟨by rw [show List.replicate 0 (0 : UInt8) = [] from rfl, List.append_nil]; rfl, rfl, trivial⟩ ⟨by simp, by simpa using hq1, hr, hw⟩ ?_
  clear hr hw hn hq1 hq
  rintro ⟨j, a1, c1⟩ w2 ⟨hj, hq, hr, hw⟩
  dsimp only at hj hq hr hw ⊢
  have zw := hw.size
  have hlen : (b ++ [128] ++ List.replicate j 0).length = b.length + 1 + j := by simp; omega
  refine WC.seq (WC.seq (WC.region (WL.move rfl rfl (WL.len Tryd.underlying22 rfl rfl (WL.rem64i rfl rfl (by constructor <;> omega) rfl (?_))))))
  refine WL.neq? rfl rfl rfl (fun h13 => ?_) (fun h13 => ?_)
  ·
    refine WL.nil (WX.then_normal (WC.cond_true rfl (WC.skip (WX.then_normal (WC.block (WC.region (WL.move rfl rfl (?_))))))))
    refine WL.build (e := eb) [0] Tryd.underlying22 Tryd.sizeOf5 Tryd.zeroValue5 rfl rfl rfl (by first | (simp [Value.cells]; done) | (simp [Value.cells] <;> rfl) | (simp [Value.cells, eb, ei, es, ebool, e32, e64]; done)) (by decide) rfl ?_
    intro a_hn w_hn hn l_hn z_hn k_hn
    have zs_k_hn := k_hn.size
    replace hq := hq.pure k_hn
    replace hr := hr.pure k_hn
    replace hw := hw.pure k_hn
    refine WL.append (e := eb) info_5 rfl Tryd.underlying22 rfl rfl hq (hn.rsl.src Tryd.underlying22) (by (try simp only [List.length_append, List.length_cons, List.length_nil] at *); omega) (by intro b hb; first | (apply hS; omega) | ((try dsimp only); omega)) rfl ?_
    intro a_hq2 c_hq2 w_hq2 hq2 g_hq2 n_hq2
    have z_hq2 := g_hq2.chg.size
    have zs_g_hq2_chg := g_hq2.chg.size
    replace hr := hr.chg g_hq2.chg (by first | (intro x h1 h2; exact h2) | (intro x h0 h1 h2; exact hS x h1 h2) | (intro x h0 h1 h2; have h3 : _ = _ := h2; subst h3; exact hSR h1.1) | (intro x h1 h2; have h3 : _ = _ := h2; subst h3; assumption) | (intro x h1 h2; have h3 : _ = _ := h2; exfalso; omega) | (intro b h1 h2 h3; have h4 : _ = _ := h3; (try dsimp only at h2); exfalso; omega) | (intro h1; have h2 : _ = _ := h1; exfalso; omega) | (intro h1; have h2 : _ ≤ _ := h1; exfalso; omega) | (intros; exfalso; (try dsimp only at *); omega) | (intro b h1 h2 h3; exfalso; have h4 := h3.2; (try dsimp only at *); omega) | (intro h1; exfalso; have h4 := h1.2; (try dsimp only at *); omega) | (intro x h1 h2; exfalso; have h4 := h2.2; (try dsimp only at *); omega) | (intro x h1 h2; exact ⟨_, rfl, h2⟩) | (intro x h1 h2; have h4 := h2.1; have h5 := h2.2; exfalso; omega) | (intro x h1 h2; exact h2.1) | (intro x h1 h2; rcases h2.1 with h3 | h3; exact h3; exfalso; omega) | (intro x h1 h2; rcases h2 with h3 | h3; exact h3; exfalso; omega))
    replace hw := hw.chg g_hq2.chg (by first | (intro x h1 h2; exact h2) | (intro x h0 h1 h2; exact hS x h1 h2) | (intro x h0 h1 h2; have h3 : _ = _ := h2; subst h3; exact hSR h1.1) | (intro x h1 h2; have h3 : _ = _ := h2; subst h3; assumption) | (intro x h1 h2; have h3 : _ = _ := h2; exfalso; omega) | (intro b h1 h2 h3; have h4 : _ = _ := h3; (try dsimp only at h2); exfalso; omega) | (intro h1; have h2 : _ = _ := h1; exfalso; omega) | (intro h1; have h2 : _ ≤ _ := h1; exfalso; omega) | (intros; exfalso; (try dsimp only at *); omega) | (intro b h1 h2 h3; exfalso; have h4 := h3.2; (try dsimp only at *); omega) | (intro h1; exfalso; have h4 := h1.2; (try dsimp only at *); omega) | (intro x h1 h2; exfalso; have h4 := h2.2; (try dsimp only at *); omega) | (intro x h1 h2; exact ⟨_, rfl, h2⟩) | (intro x h1 h2; have h4 := h2.1; have h5 := h2.2; exfalso; omega) | (intro x h1 h2; exact h2.1) | (intro x h1 h2; rcases h2.1 with h3 | h3; exact h3; exfalso; omega) | (intro x h1 h2; rcases h2 with h3 | h3; exact h3; exfalso; omega))
    refine WL.assign rfl rfl (WL.nil (WX.block_normal (?_)))
    first
      | (have e1 : b ++ [128] ++ List.replicate (j + 1) 0 = b ++ [128] ++ List.replicate j 0 ++ [0] := by rw [List.replicate_succ', List.append_assoc, List.append_assoc, List.append_assoc]
         refine WX.loop_next (j + 1, a_hq2, c_hq2) ⟨?_, rfl, trivial⟩ ⟨by dsimp only; omega, ?_, hr, hw⟩ (by show _ - _ < _ - _; omega)
         ·
           dsimp only; rw [e1]; rfl
         ·
           dsimp only; rw [e1]; exact hq2)
      | (have e1 : be8 (UInt64.ofNat b.length <<< UInt64.ofNat 3) (i + 1) = be8 (UInt64.ofNat b.length <<< UInt64.ofNat 3) i ++ [((UInt64.ofNat b.length <<< UInt64.ofNat 3) >>> UInt64.ofNat (56 - 8 * i)).toUInt8] := by simp [be8, List.range_succ]
         refine WX.loop_next (i + 1, a_hq2, c_hq2) ⟨?_, rfl, ?_, trivial⟩ ⟨by dsimp only; omega, ?_, hw⟩ (by show _ - _ < _ - _; omega)
         ·
           dsimp only; rw [e1, ← List.append_assoc]; rfl
         ·
           dsimp only
           have e2 : 56 - 8 * ((i + 1 : Nat) : Int) = 56 - 8 * (i : Int) - 8 := by omega
           rw [e2]; rfl
         ·
           dsimp only; rw [e1, ← List.append_assoc]; exact hq2)
  ·
    refine WL.nil (WX.then_normal (WC.cond_false rfl (WC.exit (WX.then_exit (WX.then_exit (WX.block_here (WX.then_normal (?_))))))))
    refine WC.seq (WC.region (WL.move rfl rfl (WL.len Tryd.underlying22 rfl rfl (WL.c_i64_u64 Tryd.underlying3 Tryd.underlying41 rfl rfl (WL.num rfl rfl (n_shl64 _ _ _ _ 3 (by decide)) rfl (WL.assign rfl rfl (WL.nil (?_))))))))
    refine WX.then_normal (WC.seq (WC.seq (WC.region (WL.assign rfl rfl (WL.nil (WX.then_normal (WC.block (?_))))))))
    have hz : j = (120 - (b.length + 1) % 64) % 64 := by omega
    have hn8 : (B64 (b.length : Int)) = UInt64.ofNat b.length := by
      apply UInt64.toNat_inj.1
      rw [B64_nat (by omega)]
      simp
      omega
    rw [hn8]
    refine WC.loop (σ := Nat × Option Addr × Nat) (fun s => [(3, .slice s.2.1 (b ++ [128] ++ List.replicate j 0 ++ be8 (UInt64.ofNat b.length <<< UInt64.ofNat 3) s.1).length s.2.2), (4, v64 (UInt64.ofNat b.length <<< UInt64.ofNat 3)), (5, vi (56 - 8 * (s.1 : Int)))])
      (fun s w' => s.1 ≤ 8 ∧ Row (w.heap.size ≤ ·) w' 5 eb s.2.1 s.2.2 (b ++ [128] ++ List.replicate j 0 ++ be8 (UInt64.ofNat b.length <<< UInt64.ofNat 3) s.1) ∧ Chg Nob w w') (fun s => 8 - s.1) (0, a1, c1) ⟨by rw [show be8 (UInt64.ofNat b.length <<< UInt64.ofNat 3) 0 = [] from rfl, List.append_nil]; rfl, rfl, rfl, trivial⟩ ⟨by simp, by simpa [be8] using hq, hw⟩ ?_
    clear hr hw hq
    rintro ⟨i, a2, c2⟩ w3 ⟨hi, hq, hw⟩
    dsimp only at hi hq hw ⊢
    have zw3 := hw.size
    have hlen3 : (b ++ [128] ++ List.replicate j 0 ++ be8 (UInt64.ofNat b.length <<< UInt64.ofNat 3) i).length = b.length + 1 + j + i := by simp [be8]; omega
    refine WC.seq (WC.seq (WC.region (WL.move rfl rfl (?_))))
    refine WL.geq? rfl rfl rfl (fun h22 => ?_) (fun h22 => ?_)
    ·
      refine WL.nil (WX.then_normal (WC.cond_true rfl (WC.skip (WX.then_normal (WC.seq (WC.block (WC.region (?_))))))))
      refine WL.move rfl rfl (WL.move rfl rfl (WL.move rfl rfl (?_)))
      refine WL.shrv (56 - 8 * i) rfl rfl ⟨by omega, by omega⟩ rfl ?_
      refine WL.c_u64_u8 Tryd.underlying41 Tryd.underlying5 rfl rfl (?_)
      refine WL.build (e := eb) [((UInt64.ofNat b.length <<< UInt64.ofNat 3) >>> UInt64.ofNat (56 - 8 * i)).toUInt8] Tryd.underlying22 Tryd.sizeOf5 Tryd.zeroValue5 rfl rfl rfl (by first | (simp [Value.cells]; done) | (simp [Value.cells] <;> rfl) | (simp [Value.cells, eb, ei, es, ebool, e32, e64]; done)) (by decide) rfl ?_
      intro a_hn w_hn hn l_hn z_hn k_hn
      have zs_k_hn := k_hn.size
      replace hq := hq.pure k_hn
      replace hw := hw.pure k_hn
      refine WL.append (e := eb) info_5 rfl Tryd.underlying22 rfl rfl hq (hn.rsl.src Tryd.underlying22) (by (try simp only [List.length_append, List.length_cons, List.length_nil] at *); omega) (by intro b hb; first | (apply hS; omega) | ((try dsimp only); omega)) rfl ?_
      intro a_hq2 c_hq2 w_hq2 hq2 g_hq2 n_hq2
      have z_hq2 := g_hq2.chg.size
      have zs_g_hq2_chg := g_hq2.chg.size
      replace hw := hw.chg g_hq2.chg (by first | (intro x h1 h2; exact h2) | (intro x h0 h1 h2; exact hS x h1 h2) | (intro x h0 h1 h2; have h3 : _ = _ := h2; subst h3; exact hSR h1.1) | (intro x h1 h2; have h3 : _ = _ := h2; subst h3; assumption) | (intro x h1 h2; have h3 : _ = _ := h2; exfalso; omega) | (intro b h1 h2 h3; have h4 : _ = _ := h3; (try dsimp only at h2); exfalso; omega) | (intro h1; have h2 : _ = _ := h1; exfalso; omega) | (intro h1; have h2 : _ ≤ _ := h1; exfalso; omega) | (intros; exfalso; (try dsimp only at *); omega) | (intro b h1 h2 h3; exfalso; have h4 := h3.2; (try dsimp only at *); omega) | (intro h1; exfalso; have h4 := h1.2; (try dsimp only at *); omega) | (intro x h1 h2; exfalso; have h4 := h2.2; (try dsimp only at *); omega) | (intro x h1 h2; exact ⟨_, rfl, h2⟩) | (intro x h1 h2; have h4 := h2.1; have h5 := h2.2; exfalso; omega) | (intro x h1 h2; exact h2.1) | (intro x h1 h2; rcases h2.1 with h3 | h3; exact h3; exfalso; omega) | (intro x h1 h2; rcases h2 with h3 | h3; exact h3; exfalso; omega))
      refine WL.assign rfl rfl (WL.nil (WX.block_normal (WX.then_normal (WC.region (WL.move rfl rfl (WL.sub64 rfl rfl (by first | omega | (constructor <;> omega)) rfl (WL.assign rfl rfl (?_))))))))
      refine WL.nil (?_)
      first
        | (have e1 : b ++ [128] ++ List.replicate (j + 1) 0 = b ++ [128] ++ List.replicate j 0 ++ [0] := by rw [List.replicate_succ', List.append_assoc, List.append_assoc, List.append_assoc]
           refine WX.loop_next (j + 1, a_hq2, c_hq2) ⟨?_, rfl, trivial⟩ ⟨by dsimp only; omega, ?_, hr, hw⟩ (by show _ - _ < _ - _; omega)
           ·
             dsimp only; rw [e1]; rfl
           ·
             dsimp only; rw [e1]; exact hq2)
        | (have e1 : be8 (UInt64.ofNat b.length <<< UInt64.ofNat 3) (i + 1) = be8 (UInt64.ofNat b.length <<< UInt64.ofNat 3) i ++ [((UInt64.ofNat b.length <<< UInt64.ofNat 3) >>> UInt64.ofNat (56 - 8 * i)).toUInt8] := by simp [be8, List.range_succ]
           refine WX.loop_next (i + 1, a_hq2, c_hq2) ⟨?_, rfl, ?_, trivial⟩ ⟨by dsimp only; omega, ?_, hw⟩ (by show _ - _ < _ - _; omega)
           ·
             dsimp only; rw [e1, ← List.append_assoc]; rfl
           ·
             dsimp only
             have e2 : 56 - 8 * ((i + 1 : Nat) : Int) = 56 - 8 * (i : Int) - 8 := by omega
             rw [e2]; rfl
           ·
             dsimp only; rw [e1, ← List.append_assoc]; exact hq2)
    ·
      refine WL.nil (WX.then_normal (WC.cond_false rfl (WC.exit (WX.then_exit (WX.then_exit (WX.block_here (WX.then_normal (?_))))))))
      refine WC.seq (WC.region (WL.move rfl rfl (WL.assign rfl rfl (WL.nil (WX.then_normal (WC.ret (?_)))))))
      refine WX.ret1 (.inl rfl) Tryd.results106 rfl ?_
      have hi8 : i = 8 := by omega
      have e1 : padded b = b ++ [128] ++ List.replicate j 0 ++ be8 (UInt64.ofNat b.length <<< UInt64.ofNat 3) i := by rw [hi8, hz]; rfl
      rw [e1]
      exact ⟨_, rfl, ⟨a2, c2, rfl, hq⟩, hw⟩
end Go.Proofs.YtcdbkfaebgficaaDoor
namespace Go.Proofs.YtcdbkfaebgficaaDoor
open Go.RowKit Go.HL

def V8.cells (v : V8) : List Value := [v32 v.a, v32 v.b, v32 v.c, v32 v.d, v32 v.e, v32 v.f, v32 v.g, v32 v.h]
theorem begin_calls (w : World) : Calls Tryd.prog 104 [].toArray w (Ret fun v w' => v = .agg (st0.cells).toArray ∧ Chg Nob w w') := by
  have hw := Chg.refl Nob w
  refine Calls.of_WC Tryd.func104 rfl Tryd.ntmps104 (by simp) ?_
  refine WC.seq (WC.region (?_))
  refine WL.alloc Tryd.zeroValue160 rfl ?_
  intro g_1 w_1 hge_1 hlt_1 hb_1 k_1
  have zs_k_1 := k_1.size
  replace hw := hw.pure k_1
  refine WL.nil (WX.then_normal (WC.seq (WC.region (WL.bld rfl (bld_160_0_1_2_3_4_5_6_7 _ _ _ _ _ _ _ _) rfl (?_)))))
  refine WL.stores Tryd.sizeOf160 hb_1 rfl rfl (by first | (simp; done) | (simp; omega) | rfl) (by first | exact Enc.one _ _ | (intro u hu; obtain ⟨x, _, rfl⟩ := List.mem_map.1 hu; rfl) | (simp [Value.oneCell']; done) | (simp [Value.oneCell', Value.cells]; done)) (by first | (simp; done) | (simp; omega) | (simp [Value.cells]; done) | (simp [Value.cells]; omega) | exact Nat.le_of_ble_eq_true rfl) rfl ?_
  intro w_2 hs_2 hn_2 k_2
  have zs_k_2 := k_2.size
  replace hw := hw.chg k_2 (by first | (intro x h1 h2; exact h2) | (intro x h0 h1 h2; exact hS x h1 h2) | (intro x h0 h1 h2; have h3 : _ = _ := h2; subst h3; exact hSR h1.1) | (intro x h1 h2; have h3 : _ = _ := h2; subst h3; assumption) | (intro x h1 h2; have h3 : _ = _ := h2; exfalso; omega) | (intro b h1 h2 h3; have h4 : _ = _ := h3; (try dsimp only at h2); exfalso; omega) | (intro h1; have h2 : _ = _ := h1; exfalso; omega) | (intro h1; have h2 : _ ≤ _ := h1; exfalso; omega) | (intros; exfalso; (try dsimp only at *); omega) | (intro b h1 h2 h3; exfalso; have h4 := h3.2; (try dsimp only at *); omega) | (intro h1; exfalso; have h4 := h1.2; (try dsimp only at *); omega) | (intro x h1 h2; exfalso; have h4 := h2.2; (try dsimp only at *); omega) | (intro x h1 h2; exact ⟨_, rfl, h2⟩) | (intro x h1 h2; have h4 := h2.1; have h5 := h2.2; exfalso; omega) | (intro x h1 h2; exact h2.1) | (intro x h1 h2; rcases h2.1 with h3 | h3; exact h3; exfalso; omega) | (intro x h1 h2; rcases h2 with h3 | h3; exact h3; exfalso; omega))
  replace hb_1 := hn_2
  refine WL.nil (WX.then_normal (WC.ret (?_)))
  refine WX.ret1c (.inl rfl) Tryd.results104 Tryd.isAgg160 Tryd.sizeOf160 hb_1 rfl (by first | (simp; done) | (simp; omega) | rfl) ?_
  exact ⟨_, rfl, rfl, hw⟩
theorem rounds_calls (w : World) : Calls Tryd.prog 105 [].toArray w (Ret fun v w' => v = .agg (K256.map v32).toArray ∧ Chg Nob w w') := by
  have hw := Chg.refl Nob w
  refine Calls.of_WC Tryd.func105 rfl Tryd.ntmps105 (by simp) ?_
  refine WC.seq (WC.region (?_))
  refine WL.alloc Tryd.zeroValue162 rfl ?_
  intro g_1 w_1 hge_1 hlt_1 hb_1 k_1
  have zs_k_1 := k_1.size
  replace hw := hw.pure k_1
  refine WL.nil (WX.then_normal (WC.seq (WC.region (?_))))
  refine WL.buildArr (K256.map v32) Tryd.underlying162 Tryd.sizeOf158 Tryd.zeroValue162 rfl rfl rfl (by intro v hv; obtain ⟨x, _, rfl⟩ := List.mem_map.1 hv; rfl) rfl ?_
  refine WL.stores Tryd.sizeOf162 hb_1 rfl rfl (by first | (simp; done) | (simp; omega) | rfl) (by first | exact Enc.one _ _ | (intro u hu; obtain ⟨x, _, rfl⟩ := List.mem_map.1 hu; rfl) | (simp [Value.oneCell']; done) | (simp [Value.oneCell', Value.cells]; done)) (by first | (simp; done) | (simp; omega) | (simp [Value.cells]; done) | (simp [Value.cells]; omega) | exact Nat.le_of_ble_eq_true rfl) rfl ?_
  intro w_2 hs_2 hn_2 k_2
  have zs_k_2 := k_2.size
  replace hw := hw.chg k_2 (by first | (intro x h1 h2; exact h2) | (intro x h0 h1 h2; exact hS x h1 h2) | (intro x h0 h1 h2; have h3 : _ = _ := h2; subst h3; exact hSR h1.1) | (intro x h1 h2; have h3 : _ = _ := h2; subst h3; assumption) | (intro x h1 h2; have h3 : _ = _ := h2; exfalso; omega) | (intro b h1 h2 h3; have h4 : _ = _ := h3; (try dsimp only at h2); exfalso; omega) | (intro h1; have h2 : _ = _ := h1; exfalso; omega) | (intro h1; have h2 : _ ≤ _ := h1; exfalso; omega) | (intros; exfalso; (try dsimp only at *); omega) | (intro b h1 h2 h3; exfalso; have h4 := h3.2; (try dsimp only at *); omega) | (intro h1; exfalso; have h4 := h1.2; (try dsimp only at *); omega) | (intro x h1 h2; exfalso; have h4 := h2.2; (try dsimp only at *); omega) | (intro x h1 h2; exact ⟨_, rfl, h2⟩) | (intro x h1 h2; have h4 := h2.1; have h5 := h2.2; exfalso; omega) | (intro x h1 h2; exact h2.1) | (intro x h1 h2; rcases h2.1 with h3 | h3; exact h3; exfalso; omega) | (intro x h1 h2; rcases h2 with h3 | h3; exact h3; exfalso; omega))
  replace hb_1 := hn_2
  refine WL.nil (WX.then_normal (WC.ret (?_)))
  refine WX.ret1c (.inl rfl) Tryd.results105 Tryd.isAgg162 Tryd.sizeOf162 hb_1 rfl (by first | (simp; done) | (simp; omega) | rfl) ?_
  exact ⟨_, rfl, rfl, hw⟩
end Go.Proofs.YtcdbkfaebgficaaDoor
