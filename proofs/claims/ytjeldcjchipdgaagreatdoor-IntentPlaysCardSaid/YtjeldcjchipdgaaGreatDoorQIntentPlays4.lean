import Derived.Test.YtjeldcjchipdgaaGreatDoorQIntentPlays3
namespace Go.Proofs.YtjeldcjchipdgaaGreatDoor
open Go.RowKit Go.HL
set_option maxRecDepth 100000
theorem docEncode_calls {w : World} {ao : Option Addr} {c : Nat} {l : List Item} (hr : RSl (· < w.heap.size) w eit ao c l) (hl : l.length ≤ 9223372036854775807) (hwf : ∀ i ∈ l, RIt i) :
 Calls Tryz.prog 84 [.slice ao l.length c].toArray w (Ret fun v w' => v = .tuple #[.string ⟨(if checkE l = 0 then encAll l else []).toArray⟩, vi (checkE l)] ∧ Chg Nob w w') := by
 have hw := Chg.refl Nob w
 refine Calls.of_WC Tryz.func84 rfl Tryz.ntmps84 (by simp) ?_
 refine WC.sr (WL.assign rfl rfl (WL.assign rfl rfl (WL.t (WC.sr (WL.move rfl rfl (WL.call eg_99 rfl rfl (rcheck_calls hr hl) ?_))))))
 rintro v w1 ⟨rfl, k⟩
 replace hr := hr.pure k
 replace hw := hw.pure k
 refine WL.assign rfl rfl (WL.t (WC.seq (WC.sr (WL.move rfl rfl (WL.qo rfl rfl rfl (fun h8 => ?_) (fun h8 => ?_))))))
 ·refine WL.t (WC.qb rfl (WC.sr (WL.move rfl rfl (WL.assign rfl rfl (WL.assign rfl rfl (WL.t (WC.ret (WX.qb (WX.qi (.inl rfl) Tryz.results84 rfl rfl ?_)))))))))
  refine ⟨_, rfl, ?_, hw⟩
  rw [if_neg h8]
 ·refine WL.t (WC.qa rfl (WC.skip (WX.qa (WC.sr (WL.move rfl rfl (?_))))))
  obtain ⟨hlen, hall⟩ := checkE_ok h8
  have hr1 := hr.old
  refine WL.call eg_82 rfl rfl (rencode_calls hr1 hlen hall hwf) ?_
  rintro v w1 ⟨rfl, k⟩
  replace hw := hw.pure k
  refine WL.assign rfl rfl (WL.assign rfl rfl (WL.t (WC.ret (WX.qi (.inl rfl) Tryz.results84 rfl rfl ?_))))
  refine ⟨_, rfl, ?_, hw⟩
  rw [if_pos h8, h8]
def decL (b : List UInt8) : List Item := (dec 0 b).getD []
def decE (b : List UInt8) : Int := if (dec 0 b).isSome then 0 else 2
theorem decode_calls' {w : World} {ao : Option Addr} {c : Nat} {b : List UInt8} (hr : RSl (· < w.heap.size) w eb ao c b) (hl : b.length ≤ 140737488351232) :
 Calls Tryz.prog 118 [.slice ao b.length c].toArray w (Ret fun v w' => (∃ (ao' : Option Addr) (c' : Nat), v = .tuple #[.slice ao' (decL b).length c', vi (decE b)] ∧ Row (w.heap.size ≤ ·) w' 116 eit ao' c' (decL b)) ∧ Chg Nob w w') := by
 refine (decode_calls hr hl).mono ?_
 rintro e w' ⟨v, rfl, (⟨l, ao', c', rfl, h, hq⟩ | ⟨rfl, h⟩), k⟩
 ·refine ⟨_, rfl, ⟨ao', c', ?_, ?_⟩, k⟩
  ·simp [decL, decE, h]
  ·simpa [decL, h] using hq
 ·refine ⟨_, rfl, ⟨none, 0, ?_, ?_⟩, k⟩
  ·simp [decL, decE, h]
  ·simpa [decL, h] using Row.nil _ _ _ _
theorem ba_drop (s : ByteArray) (n : Nat) : (s.extract n s.size).data.toList = s.data.toList.drop n := by
 simp
 rw [List.take_of_length_le (by simp)]
theorem ba_take (s : ByteArray) (n : Nat) : s.extract 0 n = ⟨(s.data.toList.take n).toArray⟩ := by
 apply ByteArray.ext
 apply Array.ext'
 simp
theorem ba_nil {s : ByteArray} : s = ⟨#[]⟩ ↔ s.data.toList = [] := by
 constructor
 ·rintro rfl; rfl
 ·intro h
  apply ByteArray.ext
  apply Array.ext'
  simpa using h
set_option maxHeartbeats 1000000 in
theorem rdecode_calls {w : World} {s0 : ByteArray} (hl : s0.size ≤ 140737488351232) :
 Calls Tryz.prog 120 [.string s0].toArray w (Ret fun v w' => (∃ (ao' : Option Addr) (c' : Nat), v = .tuple #[.slice ao' (decL s0.data.toList).length c', vi (decE s0.data.toList)] ∧ Row (w.heap.size ≤ ·) w' 116 eit ao' c' (decL s0.data.toList)) ∧ Chg Nob w w') := by
 refine Calls.of_WC Tryz.func120 rfl Tryz.ntmps120 (by simp) ?_
 refine WC.sr (WL.assign rfl rfl (WL.assign rfl rfl (WL.t (WC.sr (WL.assign rfl rfl (WL.t (WC.seq (WC.block (?_)))))))))
 refine WC.loop (σ := (List Item × Option Addr × Nat) × ByteArray) (fun q => [(4, .slice q.1.2.1 q.1.1.length q.1.2.2), (0, .string q.2)])
  (fun q w' => q.1.1.length ≤ 2000 ∧ q.2.size ≤ s0.size ∧ decI s0.data.toList q.1.1 q.2.data.toList ∧ Row (w.heap.size ≤ ·) w' 116 eit q.1.2.1 q.1.2.2 q.1.1 ∧ Chg Nob w w') (fun q => q.2.size) (([], none, 0), s0) ⟨rfl, rfl, trivial⟩ ⟨by simp, Nat.le_refl _, decI_start _, Row.nil _ _ _ _, Chg.refl _ _⟩ ?_
 rintro ⟨⟨out, a1, c1⟩, s⟩ w1 ⟨ho, hbl, hi, hq, kk⟩
 dsimp only at ho hbl hi hq kk ⊢
 have zk := kk.size
 refine WC.seq (WC.sr (WL.move rfl rfl (WL.sneq? rfl rfl rfl (fun h11 => ?_) (fun h11 => ?_))))
 ·refine WL.t (WC.qb rfl (WC.skip (WX.qa (WC.block (WC.sr (WL.move rfl rfl (?_)))))))
  obtain ⟨x, bs', hs⟩ : ∃ x bs', s.data.toList = x :: bs' := by
   cases hs : s.data.toList with
   |nil => exact absurd (ba_nil.2 hs) h11
   |cons x r => exact ⟨x, r, rfl⟩
  have hx : s.data.toList[0]? = some x := by rw [hs]; rfl
  have hxl := x.toNat_lt
  have hsz : s.size = bs'.length + 1 := by rw [show s.size = s.data.toList.length from by simp, hs]; rfl
  rw [hs] at hi
  refine WL.sindex Tryz.underlying9 rfl rfl _ rfl _ hx rfl (WL.assign rfl rfl (WL.t (WC.sr (WL.move rfl rfl (?_)))))
  refine WL.qv (l := 1) (h := s.size) (j := .i64) Tryz.underlying9 rfl (.inl rfl) (.inr ⟨rfl, rfl⟩) (by constructor <;> omega) rfl ?_
  have e1 : (s.extract 1 s.size).data.toList = bs' := by rw [ba_drop, hs]; rfl
  refine WL.call eg_136 rfl rfl (number_calls (by simp; omega)) ?_
  rw [e1]
  rintro v w2 ⟨(⟨u, r, rfl, hc⟩ | ⟨rfl, hc⟩), k2⟩
  ·have zs_k2 := k2.size
   replace kk := kk.pure k2
   replace hq := hq.pure k2
   have hrb := (ctd_bound bs' 0 (by omega) hc).2.2
   have erz : r.data.toList.length = r.size := by simp
   have e64 : ((B64 (r.size : Int)).toNat : Int) = r.size := by rw [B64_nat (by omega)]
   have e2 : (u / 2).toNat = u.toNat / 2 := by simp
   have hul : u.toNat / 2 ≤ 9223372036854775807 := by have := u.toNat_lt; omega
   have e3 : (u % 2).toNat = u.toNat % 2 := by simp
   refine WL.move rfl rfl (WL.extract rfl rfl rfl (WL.extract rfl rfl rfl (WL.extract rfl rfl rfl (WL.assign rfl rfl (WL.assign rfl rfl (WL.assign rfl rfl (WL.nil (WX.qa (WC.seq (WC.sr (WL.move rfl rfl (WL.not rfl rfl (WL.move rfl rfl (WL.qa rfl rfl rfl (WL.move rfl rfl (WL.qa rfl rfl rfl (WL.qo rfl rfl rfl (fun h25 => ?_) (fun h25 => ?_))))))))))))))))))
   ·refine WL.qa rfl rfl rfl (WL.move rfl rfl (WL.qa rfl rfl rfl (WL.move rfl rfl (WL.qa rfl rfl rfl (WL.qo rfl rfl rfl (fun h28 => ?_) (fun h28 => ?_))))))
    ·refine WL.qa rfl rfl rfl (WL.qd rfl rfl rfl (WL.qc rfl rfl rfl (WL.move rfl rfl (WL.pass rfl rfl rfl rfl (WL.pass rfl rfl rfl rfl (WL.pass rfl rfl rfl rfl (WL.qd rfl rfl rfl (WL.t (WC.qb rfl (WC.sr (WL.assign rfl rfl (WL.assign rfl rfl (WL.nil (WX.qa (WC.ret (WX.qb (WX.qe (WX.qb (WX.qe (WX.qb (WX.qi (.inl rfl) Tryz.results120 rfl rfl ?_)))))))))))))))))))))
     have he : dec 0 s0.data.toList = none := by
      refine decI_bad hi ?_
      first
       |exact dec_none hc
       |(rw [dec_some hc]
         by_cases hn : out.length = 2000
         ·rw [if_pos hn]
         ·rw [if_neg hn]
          first
           |(exfalso; omega)
           |(have h1 : ¬ x.toNat = 1 := by omega
             have h2 : ¬ (x.toNat = 2 ∧ u.toNat ≤ 4000 ∧ u.toNat ≤ r.data.toList.length) := by omega
             rw [if_neg h1, if_neg h2]))
     refine ⟨_, rfl, ⟨none, 0, ?_, ?_⟩, kk⟩ <;> simp only [decL, decE, he]
     ·rfl
     ·exact Row.nil _ _ _ _
    ·refine WL.qa rfl rfl rfl (WL.qd rfl rfl rfl (WL.qc rfl rfl rfl (WL.move rfl rfl (WL.qa rfl rfl rfl (WL.move rfl rfl (WL.qa rfl rfl rfl (WL.len Tryz.underlying117 rfl rfl (WL.qa rfl rfl rfl (WL.qi rfl rfl rfl (fun h34 => ?_) (fun h34 => ?_))))))))))
     ·refine WL.qc rfl rfl rfl (WL.t (WC.qb rfl (WC.sr (WL.assign rfl rfl (WL.assign rfl rfl (WL.t (WC.ret (WX.qb (WX.qe (WX.qb (WX.qe (WX.qb (WX.qi (.inl rfl) Tryz.results120 rfl rfl ?_)))))))))))))
      have he : dec 0 s0.data.toList = none := by
       refine decI_bad hi ?_
       first
        |exact dec_none hc
        |(rw [dec_some hc]
          by_cases hn : out.length = 2000
          ·rw [if_pos hn]
          ·rw [if_neg hn]
           first
            |(exfalso; omega)
            |(have h1 : ¬ x.toNat = 1 := by omega
              have h2 : ¬ (x.toNat = 2 ∧ u.toNat ≤ 4000 ∧ u.toNat ≤ r.data.toList.length) := by omega
              rw [if_neg h1, if_neg h2]))
      refine ⟨_, rfl, ⟨none, 0, ?_, ?_⟩, kk⟩ <;> simp only [decL, decE, he]
      ·rfl
      ·exact Row.nil _ _ _ _
     ·refine WL.qc rfl rfl rfl (WL.t (WC.qa rfl (WC.skip (WX.qa (WC.seq (WC.seq (WC.region (WL.move rfl rfl (WL.qi rfl rfl rfl (fun h37 => ?_) (fun h37 => ?_))))))))))
      ·refine WL.t (WC.qb rfl (WC.sr (WL.move rfl rfl (WL.num rfl rfl (n_quo64 _ _ _ 2 (by decide)) rfl (?_)))))
       refine WL.c_u64_i64s (n := u.toNat / 2) Tryz.underlying24 Tryz.underlying3 rfl ⟨e2, by have := u.toNat_lt; omega⟩ rfl ?_
       refine WL.assign rfl rfl (WL.t (WC.seq (WC.sr (WL.move rfl rfl (WL.num rfl rfl (n_rem64 _ _ _ 2 (by decide)) rfl (?_))))))
       refine WL.qi rfl rfl rfl (fun h43 => ?_) (fun h43 => ?_)
       ·refine WL.t (WC.qb rfl (WC.region (WL.move rfl rfl (WL.neg64 rfl (by omega) rfl (WL.qj rfl rfl (by omega) rfl (WL.assign rfl rfl (?_)))))))
        refine WL.t (WC.sr (WL.move rfl rfl (WL.move rfl rfl (WL.bld rfl (bld_116_0_1 _ _) rfl (?_)))))
        rw [e3] at h43
        refine WL.build (e := eit) [⟨1, _, ⟨#[]⟩⟩] Tryz.underlying117 Tryz.sizeOf116 Tryz.zeroValue116 rfl rfl rfl (by simp [Value.cells] <;> rfl) (by decide) rfl ?_
        intro a_hn w_hn hn l_hn z_hn k_hn
        replace kk := kk.pure k_hn
        replace hq := hq.pure k_hn
        refine WL.append (e := eit) info_116 rfl Tryz.underlying117 rfl rfl hq (hn.rsl.src Tryz.underlying117) (by (try simp only [List.length_append, List.length_cons, List.length_nil] at *); omega) (by intro b hb; first | (apply hS; omega) | ((try dsimp only); omega)) rfl ?_
        intro a_hq2 c_hq2 w_hq2 hq2 g_hq2 n_hq2
        replace kk := kk.chg g_hq2.chg (by intros; exfalso; (try dsimp only at *); omega)
        refine WL.assign rfl rfl (WL.t (WC.sr (WL.move rfl rfl (WL.assign rfl rfl (WL.nil (WX.qa (WC.exit (WX.qd (WX.qh (?_))))))))))
        have hn2 : ¬ out.length = 2000 := by omega
        have h1 : x.toNat = 1 := by omega
        first
         |(have eu : unz u.toNat = -((u.toNat / 2 : Nat) : Int) - 1 := if_pos (by omega)
           refine WX.qf ((out ++ [⟨1, -((u.toNat / 2 : Nat) : Int) - 1, ⟨#[]⟩⟩], a_hq2, c_hq2), r) ⟨rfl, rfl, trivial⟩ ⟨by dsimp only; simp; omega, by dsimp only; omega, ?_, hq2, kk⟩ (by show r.size < s.size; omega)
           refine decI_step hi ?_
           rw [dec_some hc, if_neg hn2, if_pos h1, eu]
           done)
         |(have eu : unz u.toNat = ((u.toNat / 2 : Nat) : Int) := if_neg (by omega)
           refine WX.qf ((out ++ [⟨1, ((u.toNat / 2 : Nat) : Int), ⟨#[]⟩⟩], a_hq2, c_hq2), r) ⟨rfl, rfl, trivial⟩ ⟨by dsimp only; simp; omega, by dsimp only; omega, ?_, hq2, kk⟩ (by show r.size < s.size; omega)
           refine decI_step hi ?_
           rw [dec_some hc, if_neg hn2, if_pos h1, eu])
       ·refine WL.t (WC.qa rfl (WC.skip (WX.qa (WC.sr (WL.move rfl rfl (WL.move rfl rfl (WL.bld rfl (bld_116_0_1 _ _) rfl (?_))))))))
        rw [e3] at h43
        refine WL.build (e := eit) [⟨1, _, ⟨#[]⟩⟩] Tryz.underlying117 Tryz.sizeOf116 Tryz.zeroValue116 rfl rfl rfl (by simp [Value.cells] <;> rfl) (by decide) rfl ?_
        intro a_hn w_hn hn l_hn z_hn k_hn
        replace kk := kk.pure k_hn
        replace hq := hq.pure k_hn
        refine WL.append (e := eit) info_116 rfl Tryz.underlying117 rfl rfl hq (hn.rsl.src Tryz.underlying117) (by (try simp only [List.length_append, List.length_cons, List.length_nil] at *); omega) (by intro b hb; first | (apply hS; omega) | ((try dsimp only); omega)) rfl ?_
        intro a_hq2 c_hq2 w_hq2 hq2 g_hq2 n_hq2
        replace kk := kk.chg g_hq2.chg (by intros; exfalso; (try dsimp only at *); omega)
        refine WL.assign rfl rfl (WL.t (WC.sr (WL.move rfl rfl (WL.assign rfl rfl (WL.nil (WX.qa (WC.exit (WX.qd (WX.qh (?_))))))))))
        have hn2 : ¬ out.length = 2000 := by omega
        have h1 : x.toNat = 1 := by omega
        first
         |(have eu : unz u.toNat = -((u.toNat / 2 : Nat) : Int) - 1 := if_pos (by omega)
           refine WX.qf ((out ++ [⟨1, -((u.toNat / 2 : Nat) : Int) - 1, ⟨#[]⟩⟩], a_hq2, c_hq2), r) ⟨rfl, rfl, trivial⟩ ⟨by dsimp only; simp; omega, by dsimp only; omega, ?_, hq2, kk⟩ (by show r.size < s.size; omega)
           refine decI_step hi ?_
           rw [dec_some hc, if_neg hn2, if_pos h1, eu]
           done)
         |(have eu : unz u.toNat = ((u.toNat / 2 : Nat) : Int) := if_neg (by omega)
           refine WX.qf ((out ++ [⟨1, ((u.toNat / 2 : Nat) : Int), ⟨#[]⟩⟩], a_hq2, c_hq2), r) ⟨rfl, rfl, trivial⟩ ⟨by dsimp only; simp; omega, by dsimp only; omega, ?_, hq2, kk⟩ (by show r.size < s.size; omega)
           refine decI_step hi ?_
           rw [dec_some hc, if_neg hn2, if_pos h1, eu])
      ·refine WL.t (WC.qa rfl (WC.skip (WX.qa (WC.seq (WC.sr (WL.move rfl rfl (WL.qn rfl rfl rfl (fun h54 => ?_) (fun h54 => ?_))))))))
       ·refine WL.move rfl rfl (WL.pass rfl rfl rfl rfl (WL.pass rfl rfl rfl rfl (WL.pass rfl rfl rfl rfl (WL.pass rfl rfl rfl rfl (WL.pass rfl rfl rfl rfl (WL.qd rfl rfl rfl (WL.nil (WX.qa (WC.qb rfl (WC.sr (WL.assign rfl rfl (WL.assign rfl rfl (WL.t (WC.ret (WX.qb (WX.qe (WX.qb (WX.qe (WX.qb (WX.qi (.inl rfl) Tryz.results120 rfl rfl ?_))))))))))))))))))))
        have he : dec 0 s0.data.toList = none := by
         refine decI_bad hi ?_
         first
          |exact dec_none hc
          |(rw [dec_some hc]
            by_cases hn : out.length = 2000
            ·rw [if_pos hn]
            ·rw [if_neg hn]
             first
              |(exfalso; omega)
              |(have h1 : ¬ x.toNat = 1 := by omega
                have h2 : ¬ (x.toNat = 2 ∧ u.toNat ≤ 4000 ∧ u.toNat ≤ r.data.toList.length) := by omega
                rw [if_neg h1, if_neg h2]))
        refine ⟨_, rfl, ⟨none, 0, ?_, ?_⟩, kk⟩ <;> simp only [decL, decE, he]
        ·rfl
        ·exact Row.nil _ _ _ _
       ·refine WL.move rfl rfl (WL.qa rfl rfl rfl (WL.move rfl rfl (WL.qa rfl rfl rfl (WL.move rfl rfl (WL.qa rfl rfl rfl (WL.qr Tryz.underlying9 rfl rfl (WL.qa rfl rfl rfl (WL.qt Tryz.underlying3 Tryz.underlying24 rfl rfl (WL.qa rfl rfl rfl (WL.qn rfl rfl rfl (fun h60 => ?_) (fun h60 => ?_)))))))))))
        ·refine WL.qc rfl rfl rfl (WL.t (WC.qb rfl (WC.sr (WL.assign rfl rfl (WL.assign rfl rfl (WL.t (WC.ret (WX.qb (WX.qe (WX.qb (WX.qe (WX.qb (WX.qi (.inl rfl) Tryz.results120 rfl rfl ?_)))))))))))))
         have he : dec 0 s0.data.toList = none := by
          refine decI_bad hi ?_
          first
           |exact dec_none hc
           |(rw [dec_some hc]
             by_cases hn : out.length = 2000
             ·rw [if_pos hn]
             ·rw [if_neg hn]
              first
               |(exfalso; omega)
               |(have h1 : ¬ x.toNat = 1 := by omega
                 have h2 : ¬ (x.toNat = 2 ∧ u.toNat ≤ 4000 ∧ u.toNat ≤ r.data.toList.length) := by omega
                 rw [if_neg h1, if_neg h2]))
         refine ⟨_, rfl, ⟨none, 0, ?_, ?_⟩, kk⟩ <;> simp only [decL, decE, he]
         ·rfl
         ·exact Row.nil _ _ _ _
        ·refine WL.qc rfl rfl rfl (WL.t (WC.qa rfl (WC.skip (WX.qa (WC.sr (WL.move rfl rfl (WL.move rfl rfl (WL.move rfl rfl (?_)))))))))
         refine WL.qv (l := 0) (h := u.toNat) (k := .i64) Tryz.underlying9 rfl (.inr ⟨rfl, rfl⟩) (.inl rfl) (by constructor <;> omega) rfl ?_
         refine WL.bld rfl (bld_116_0_2 _ _) rfl (?_)
         refine WL.build (e := eit) [⟨2, 0, r.extract 0 u.toNat⟩] Tryz.underlying117 Tryz.sizeOf116 Tryz.zeroValue116 rfl rfl rfl (by simp [Value.cells] <;> rfl) (by decide) rfl ?_
         intro a_hn w_hn hn l_hn z_hn k_hn
         replace kk := kk.pure k_hn
         replace hq := hq.pure k_hn
         refine WL.append (e := eit) info_116 rfl Tryz.underlying117 rfl rfl hq (hn.rsl.src Tryz.underlying117) (by (try simp only [List.length_append, List.length_cons, List.length_nil] at *); omega) (by intro b hb; first | (apply hS; omega) | ((try dsimp only); omega)) rfl ?_
         intro a_hq2 c_hq2 w_hq2 hq2 g_hq2 n_hq2
         replace kk := kk.chg g_hq2.chg (by intros; exfalso; (try dsimp only at *); omega)
         refine WL.assign rfl rfl (WL.t (WC.region (WL.move rfl rfl (WL.move rfl rfl (?_)))))
         refine WL.qv (l := u.toNat) (h := r.size) (j := .i64) Tryz.underlying9 rfl (.inl rfl) (.inr ⟨rfl, rfl⟩) (by constructor <;> omega) rfl ?_
         refine WL.assign rfl rfl (WL.nil (WX.qc (?_)))
         have hn2 : ¬ out.length = 2000 := by omega
         have h1 : ¬ x.toNat = 1 := by omega
         have h2 : x.toNat = 2 ∧ u.toNat ≤ 4000 ∧ u.toNat ≤ r.data.toList.length := by omega
         refine WX.qf ((out ++ [⟨2, 0, r.extract 0 u.toNat⟩], a_hq2, c_hq2), r.extract u.toNat r.size) ⟨rfl, rfl, trivial⟩ ⟨by dsimp only; simp; omega, by dsimp only; simp; omega, ?_, hq2, kk⟩ (by show (r.extract u.toNat r.size).size < s.size; simp; omega)
         rw [ba_drop, ba_take]
         refine decI_step hi ?_
         rw [dec_some hc, if_neg hn2, if_neg h1, if_pos h2]
   ·refine WL.qa rfl rfl rfl (WL.move rfl rfl (WL.pass rfl rfl rfl rfl (WL.pass rfl rfl rfl rfl (WL.qa rfl rfl rfl (WL.qc rfl rfl rfl (WL.qc rfl rfl rfl (WL.move rfl rfl (WL.qa rfl rfl rfl (WL.move rfl rfl (WL.qa rfl rfl rfl (WL.len Tryz.underlying117 rfl rfl (WL.qa rfl rfl rfl (WL.qi rfl rfl rfl (fun h34 => ?_) (fun h34 => ?_))))))))))))))
    ·refine WL.qc rfl rfl rfl (WL.t (WC.qb rfl (WC.sr (WL.assign rfl rfl (WL.assign rfl rfl (WL.t (WC.ret (WX.qb (WX.qe (WX.qb (WX.qe (WX.qb (WX.qi (.inl rfl) Tryz.results120 rfl rfl ?_)))))))))))))
     have he : dec 0 s0.data.toList = none := by
      refine decI_bad hi ?_
      first
       |exact dec_none hc
       |(rw [dec_some hc]
         by_cases hn : out.length = 2000
         ·rw [if_pos hn]
         ·rw [if_neg hn]
          first
           |(exfalso; omega)
           |(have h1 : ¬ x.toNat = 1 := by omega
             have h2 : ¬ (x.toNat = 2 ∧ u.toNat ≤ 4000 ∧ u.toNat ≤ r.data.toList.length) := by omega
             rw [if_neg h1, if_neg h2]))
     refine ⟨_, rfl, ⟨none, 0, ?_, ?_⟩, kk⟩ <;> simp only [decL, decE, he]
     ·rfl
     ·exact Row.nil _ _ _ _
    ·refine WL.qc rfl rfl rfl (WL.t (WC.qa rfl (WC.skip (WX.qa (WC.seq (WC.seq (WC.region (WL.move rfl rfl (WL.qi rfl rfl rfl (fun h37 => ?_) (fun h37 => ?_))))))))))
     ·refine WL.t (WC.qb rfl (WC.sr (WL.move rfl rfl (WL.num rfl rfl (n_quo64 _ _ _ 2 (by decide)) rfl (?_)))))
      refine WL.c_u64_i64s (n := u.toNat / 2) Tryz.underlying24 Tryz.underlying3 rfl ⟨e2, by have := u.toNat_lt; omega⟩ rfl ?_
      refine WL.assign rfl rfl (WL.t (WC.seq (WC.sr (WL.move rfl rfl (WL.num rfl rfl (n_rem64 _ _ _ 2 (by decide)) rfl (?_))))))
      refine WL.qi rfl rfl rfl (fun h43 => ?_) (fun h43 => ?_)
      ·refine WL.t (WC.qb rfl (WC.region (WL.move rfl rfl (WL.neg64 rfl (by omega) rfl (WL.qj rfl rfl (by omega) rfl (WL.assign rfl rfl (?_)))))))
       refine WL.t (WC.sr (WL.move rfl rfl (WL.move rfl rfl (WL.bld rfl (bld_116_0_1 _ _) rfl (?_)))))
       rw [e3] at h43
       refine WL.build (e := eit) [⟨1, _, ⟨#[]⟩⟩] Tryz.underlying117 Tryz.sizeOf116 Tryz.zeroValue116 rfl rfl rfl (by simp [Value.cells] <;> rfl) (by decide) rfl ?_
       intro a_hn w_hn hn l_hn z_hn k_hn
       replace kk := kk.pure k_hn
       replace hq := hq.pure k_hn
       refine WL.append (e := eit) info_116 rfl Tryz.underlying117 rfl rfl hq (hn.rsl.src Tryz.underlying117) (by (try simp only [List.length_append, List.length_cons, List.length_nil] at *); omega) (by intro b hb; first | (apply hS; omega) | ((try dsimp only); omega)) rfl ?_
       intro a_hq2 c_hq2 w_hq2 hq2 g_hq2 n_hq2
       replace kk := kk.chg g_hq2.chg (by intros; exfalso; (try dsimp only at *); omega)
       refine WL.assign rfl rfl (WL.t (WC.sr (WL.move rfl rfl (WL.assign rfl rfl (WL.nil (WX.qa (WC.exit (WX.qd (WX.qh (?_))))))))))
       have hn2 : ¬ out.length = 2000 := by omega
       have h1 : x.toNat = 1 := by omega
       first
        |(have eu : unz u.toNat = -((u.toNat / 2 : Nat) : Int) - 1 := if_pos (by omega)
          refine WX.qf ((out ++ [⟨1, -((u.toNat / 2 : Nat) : Int) - 1, ⟨#[]⟩⟩], a_hq2, c_hq2), r) ⟨rfl, rfl, trivial⟩ ⟨by dsimp only; simp; omega, by dsimp only; omega, ?_, hq2, kk⟩ (by show r.size < s.size; omega)
          refine decI_step hi ?_
          rw [dec_some hc, if_neg hn2, if_pos h1, eu]
          done)
        |(have eu : unz u.toNat = ((u.toNat / 2 : Nat) : Int) := if_neg (by omega)
          refine WX.qf ((out ++ [⟨1, ((u.toNat / 2 : Nat) : Int), ⟨#[]⟩⟩], a_hq2, c_hq2), r) ⟨rfl, rfl, trivial⟩ ⟨by dsimp only; simp; omega, by dsimp only; omega, ?_, hq2, kk⟩ (by show r.size < s.size; omega)
          refine decI_step hi ?_
          rw [dec_some hc, if_neg hn2, if_pos h1, eu])
      ·refine WL.t (WC.qa rfl (WC.skip (WX.qa (WC.sr (WL.move rfl rfl (WL.move rfl rfl (WL.bld rfl (bld_116_0_1 _ _) rfl (?_))))))))
       rw [e3] at h43
       refine WL.build (e := eit) [⟨1, _, ⟨#[]⟩⟩] Tryz.underlying117 Tryz.sizeOf116 Tryz.zeroValue116 rfl rfl rfl (by simp [Value.cells] <;> rfl) (by decide) rfl ?_
       intro a_hn w_hn hn l_hn z_hn k_hn
       replace kk := kk.pure k_hn
       replace hq := hq.pure k_hn
       refine WL.append (e := eit) info_116 rfl Tryz.underlying117 rfl rfl hq (hn.rsl.src Tryz.underlying117) (by (try simp only [List.length_append, List.length_cons, List.length_nil] at *); omega) (by intro b hb; first | (apply hS; omega) | ((try dsimp only); omega)) rfl ?_
       intro a_hq2 c_hq2 w_hq2 hq2 g_hq2 n_hq2
       replace kk := kk.chg g_hq2.chg (by intros; exfalso; (try dsimp only at *); omega)
       refine WL.assign rfl rfl (WL.t (WC.sr (WL.move rfl rfl (WL.assign rfl rfl (WL.nil (WX.qa (WC.exit (WX.qd (WX.qh (?_))))))))))
       have hn2 : ¬ out.length = 2000 := by omega
       have h1 : x.toNat = 1 := by omega
       first
        |(have eu : unz u.toNat = -((u.toNat / 2 : Nat) : Int) - 1 := if_pos (by omega)
          refine WX.qf ((out ++ [⟨1, -((u.toNat / 2 : Nat) : Int) - 1, ⟨#[]⟩⟩], a_hq2, c_hq2), r) ⟨rfl, rfl, trivial⟩ ⟨by dsimp only; simp; omega, by dsimp only; omega, ?_, hq2, kk⟩ (by show r.size < s.size; omega)
          refine decI_step hi ?_
          rw [dec_some hc, if_neg hn2, if_pos h1, eu]
          done)
        |(have eu : unz u.toNat = ((u.toNat / 2 : Nat) : Int) := if_neg (by omega)
          refine WX.qf ((out ++ [⟨1, ((u.toNat / 2 : Nat) : Int), ⟨#[]⟩⟩], a_hq2, c_hq2), r) ⟨rfl, rfl, trivial⟩ ⟨by dsimp only; simp; omega, by dsimp only; omega, ?_, hq2, kk⟩ (by show r.size < s.size; omega)
          refine decI_step hi ?_
          rw [dec_some hc, if_neg hn2, if_pos h1, eu])
     ·refine WL.t (WC.qa rfl (WC.skip (WX.qa (WC.seq (WC.sr (WL.move rfl rfl (WL.qn rfl rfl rfl (fun h54 => ?_) (fun h54 => ?_))))))))
      ·refine WL.move rfl rfl (WL.pass rfl rfl rfl rfl (WL.pass rfl rfl rfl rfl (WL.pass rfl rfl rfl rfl (WL.pass rfl rfl rfl rfl (WL.pass rfl rfl rfl rfl (WL.qd rfl rfl rfl (WL.nil (WX.qa (WC.qb rfl (WC.sr (WL.assign rfl rfl (WL.assign rfl rfl (WL.t (WC.ret (WX.qb (WX.qe (WX.qb (WX.qe (WX.qb (WX.qi (.inl rfl) Tryz.results120 rfl rfl ?_))))))))))))))))))))
       have he : dec 0 s0.data.toList = none := by
        refine decI_bad hi ?_
        first
         |exact dec_none hc
         |(rw [dec_some hc]
           by_cases hn : out.length = 2000
           ·rw [if_pos hn]
           ·rw [if_neg hn]
            first
             |(exfalso; omega)
             |(have h1 : ¬ x.toNat = 1 := by omega
               have h2 : ¬ (x.toNat = 2 ∧ u.toNat ≤ 4000 ∧ u.toNat ≤ r.data.toList.length) := by omega
               rw [if_neg h1, if_neg h2]))
       refine ⟨_, rfl, ⟨none, 0, ?_, ?_⟩, kk⟩ <;> simp only [decL, decE, he]
       ·rfl
       ·exact Row.nil _ _ _ _
      ·refine WL.move rfl rfl (WL.qa rfl rfl rfl (WL.move rfl rfl (WL.qa rfl rfl rfl (WL.move rfl rfl (WL.qa rfl rfl rfl (WL.qr Tryz.underlying9 rfl rfl (WL.qa rfl rfl rfl (WL.qt Tryz.underlying3 Tryz.underlying24 rfl rfl (WL.qa rfl rfl rfl (WL.qn rfl rfl rfl (fun h60 => ?_) (fun h60 => ?_)))))))))))
       ·refine WL.qc rfl rfl rfl (WL.t (WC.qb rfl (WC.sr (WL.assign rfl rfl (WL.assign rfl rfl (WL.t (WC.ret (WX.qb (WX.qe (WX.qb (WX.qe (WX.qb (WX.qi (.inl rfl) Tryz.results120 rfl rfl ?_)))))))))))))
        have he : dec 0 s0.data.toList = none := by
         refine decI_bad hi ?_
         first
          |exact dec_none hc
          |(rw [dec_some hc]
            by_cases hn : out.length = 2000
            ·rw [if_pos hn]
            ·rw [if_neg hn]
             first
              |(exfalso; omega)
              |(have h1 : ¬ x.toNat = 1 := by omega
                have h2 : ¬ (x.toNat = 2 ∧ u.toNat ≤ 4000 ∧ u.toNat ≤ r.data.toList.length) := by omega
                rw [if_neg h1, if_neg h2]))
        refine ⟨_, rfl, ⟨none, 0, ?_, ?_⟩, kk⟩ <;> simp only [decL, decE, he]
        ·rfl
        ·exact Row.nil _ _ _ _
       ·refine WL.qc rfl rfl rfl (WL.t (WC.qa rfl (WC.skip (WX.qa (WC.sr (WL.move rfl rfl (WL.move rfl rfl (WL.move rfl rfl (?_)))))))))
        refine WL.qv (l := 0) (h := u.toNat) (k := .i64) Tryz.underlying9 rfl (.inr ⟨rfl, rfl⟩) (.inl rfl) (by constructor <;> omega) rfl ?_
        refine WL.bld rfl (bld_116_0_2 _ _) rfl (?_)
        refine WL.build (e := eit) [⟨2, 0, r.extract 0 u.toNat⟩] Tryz.underlying117 Tryz.sizeOf116 Tryz.zeroValue116 rfl rfl rfl (by simp [Value.cells] <;> rfl) (by decide) rfl ?_
        intro a_hn w_hn hn l_hn z_hn k_hn
        replace kk := kk.pure k_hn
        replace hq := hq.pure k_hn
        refine WL.append (e := eit) info_116 rfl Tryz.underlying117 rfl rfl hq (hn.rsl.src Tryz.underlying117) (by (try simp only [List.length_append, List.length_cons, List.length_nil] at *); omega) (by intro b hb; first | (apply hS; omega) | ((try dsimp only); omega)) rfl ?_
        intro a_hq2 c_hq2 w_hq2 hq2 g_hq2 n_hq2
        replace kk := kk.chg g_hq2.chg (by intros; exfalso; (try dsimp only at *); omega)
        refine WL.assign rfl rfl (WL.t (WC.region (WL.move rfl rfl (WL.move rfl rfl (?_)))))
        refine WL.qv (l := u.toNat) (h := r.size) (j := .i64) Tryz.underlying9 rfl (.inl rfl) (.inr ⟨rfl, rfl⟩) (by constructor <;> omega) rfl ?_
        refine WL.assign rfl rfl (WL.nil (WX.qc (?_)))
        have hn2 : ¬ out.length = 2000 := by omega
        have h1 : ¬ x.toNat = 1 := by omega
        have h2 : x.toNat = 2 ∧ u.toNat ≤ 4000 ∧ u.toNat ≤ r.data.toList.length := by omega
        refine WX.qf ((out ++ [⟨2, 0, r.extract 0 u.toNat⟩], a_hq2, c_hq2), r.extract u.toNat r.size) ⟨rfl, rfl, trivial⟩ ⟨by dsimp only; simp; omega, by dsimp only; simp; omega, ?_, hq2, kk⟩ (by show (r.extract u.toNat r.size).size < s.size; simp; omega)
        rw [ba_drop, ba_take]
        refine decI_step hi ?_
        rw [dec_some hc, if_neg hn2, if_neg h1, if_pos h2]
  ·replace kk := kk.pure k2
   refine WL.move rfl rfl (WL.extract rfl rfl rfl (WL.extract rfl rfl rfl (WL.extract rfl rfl rfl (WL.assign rfl rfl (WL.assign rfl rfl (WL.assign rfl rfl (WL.nil (WX.qa (WC.seq (WC.sr (WL.move rfl rfl (WL.not rfl rfl (WL.move rfl rfl (WL.pass rfl rfl rfl rfl (WL.pass rfl rfl rfl rfl (WL.pass rfl rfl rfl rfl (WL.qk rfl rfl rfl (WL.qk rfl rfl rfl (WL.pass rfl rfl rfl rfl (WL.qd rfl rfl rfl (WL.move rfl rfl (WL.pass rfl rfl rfl rfl (WL.pass rfl rfl rfl rfl (WL.pass rfl rfl rfl rfl (WL.qd rfl rfl rfl (WL.t (WC.qb rfl (WC.sr (WL.assign rfl rfl (WL.assign rfl rfl (WL.t (WC.ret (WX.qb (WX.qe (WX.qb (WX.qe (WX.qb (WX.qi (.inl rfl) Tryz.results120 rfl rfl ?_))))))))))))))))))))))))))))))))))))))
   have he : dec 0 s0.data.toList = none := by
    refine decI_bad hi ?_
    first
     |exact dec_none hc
     |(rw [dec_some hc]
       by_cases hn : out.length = 2000
       ·rw [if_pos hn]
       ·rw [if_neg hn]
        first
         |(exfalso; omega)
         |(have h1 : ¬ x.toNat = 1 := by omega
           have h2 : ¬ (x.toNat = 2 ∧ u.toNat ≤ 4000 ∧ u.toNat ≤ r.data.toList.length) := by omega
           rw [if_neg h1, if_neg h2]))
   refine ⟨_, rfl, ⟨none, 0, ?_, ?_⟩, kk⟩ <;> simp only [decL, decE, he]
   ·rfl
   ·exact Row.nil _ _ _ _
 ·refine WL.t (WC.qa rfl (WC.exit (WX.qd (WX.qd (WX.qh (WX.qa (WC.sr (WL.move rfl rfl (WL.assign rfl rfl (WL.assign rfl rfl (WL.t (WC.ret (WX.qi (.inl rfl) Tryz.results120 rfl rfl ?_)))))))))))))
  refine ⟨_, rfl, ⟨a1, c1, ?_, ?_⟩, kk⟩ <;> (
   have hnil : s.data.toList = [] := ba_nil.1 h11
   rw [hnil] at hi
   have he := decI_end hi
   simp only [decL, decE, he])
  ·rfl
  ·exact hq
end Go.Proofs.YtjeldcjchipdgaaGreatDoor
namespace Go.Proofs.YtjeldcjchipdgaaGreatDoor
open Go.RowKit Go.HL
set_option maxRecDepth 100000
theorem ctd_cnt : ∀ (bs : List UInt8) (k : Nat) {c : Nat} {r : List UInt8}, ctd k bs = some (c, r) → bs = cnt c ++ r ∧ (0 < k → 0 < c)
 |[], k, c, r, h => by simp [ctd] at h
 |x :: bs, k, c, r, h => by
  have hx := x.toNat_lt
  unfold ctd at h
  split at h
  ·cases h
  ·rename_i hn
   split at h
   ·rename_i hl
    injection h with h
    injection h with h1 h2
    subst h1; subst h2
    rw [cnt_small hl]
    refine ⟨by simp, by omega⟩
   ·rename_i hl
    obtain ⟨⟨c', r'⟩, h1, h2⟩ := Option.map_eq_some_iff.1 h
    injection h2 with h3 h4
    subst h4
    obtain ⟨h5, h6⟩ := ctd_cnt bs (k + 1) h1
    have h7 := h6 (by omega)
    rw [cnt_big (by omega), show c / 128 = c' from by omega, show c % 128 + 128 = x.toNat from by omega]
    refine ⟨?_, by omega⟩
    rw [h5]
    simp
theorem cnt_ctd (c : Nat) : ∀ (k : Nat) (r : List UInt8), k ≤ 9 → c < 2 ^ (64 - 7 * k) → (0 < k → 0 < c) → ctd k (cnt c ++ r) = some (c, r) := by
 induction c using Nat.strongRecOn with
 |_ c ih =>
  intro k r hk hc h0
  by_cases hb : 128 ≤ c
  ·have hk8 : k ≤ 8 := by
    have h : k = 9 ∨ k ≤ 8 := by omega
    rcases h with rfl | h
    ·simp at hc; omega
    ·exact h
   have hlt : c % 128 + 128 < 256 := by omega
   rw [cnt_big hb]
   simp only [List.cons_append, ctd]
   have e : (UInt8.ofNat (c % 128 + 128)).toNat = c % 128 + 128 := by simp; omega
   rw [e, if_neg (by omega), if_neg (by omega), ih (c / 128) (by omega) (k + 1) r (by omega) ?_ (by omega)]
   ·simp only [Option.map_some, Option.some.injEq, Prod.mk.injEq, and_true]
    omega
   ·rw [Nat.div_lt_iff_lt_mul (by decide)]
    have e2 : 2 ^ (64 - 7 * k) = 2 ^ (64 - 7 * (k + 1)) * 128 := by
     rw [show 64 - 7 * k = (64 - 7 * (k + 1)) + 7 from by omega, Nat.pow_add]
    rw [← e2]; exact hc
  ·rw [cnt_small (by omega)]
   have e : (UInt8.ofNat c).toNat = c := by simp; omega
   have h9 : k = 9 → c ≤ 1 := by rintro rfl; simp at hc; omega
   simp only [List.cons_append, List.nil_append, ctd, e]
   rw [if_neg (by omega), if_pos (by omega)]
theorem zig_unz {c : Nat} : zig (unz c) = c := by
 unfold zig unz
 split <;> split <;> omega
theorem unz_zig (n : Int) : unz (zig n) = n := by
 unfold zig unz
 split <;> split <;> omega
theorem unz_range {c : Nat} (h : c < 18446744073709551616) : -9223372036854775808 ≤ unz c ∧ unz c ≤ 9223372036854775807 := by
 unfold unz
 split <;> omega
theorem zig_lt {n : Int} (h : -9223372036854775808 ≤ n ∧ n ≤ 9223372036854775807) : zig n < 18446744073709551616 := by
 unfold zig
 split <;> omega
def Good (i : Item) : Prop := longI i = false ∧ okI i = true ∧ RIt i
theorem encAll_cons (i : Item) (l : List Item) : encAll (i :: l) = enc1 i ++ encAll l := by simp [encAll]
theorem dec_spec (m : Nat) : ∀ (b : List UInt8), b.length ≤ m → ∀ (n : Nat) (l : List Item), n ≤ 2000 → dec n b = some l → n + l.length ≤ 2000 ∧ (∀ i ∈ l, Good i) ∧ encAll l = b := by
 induction m with
 |zero =>
  intro b hb n l hn h
  have : b = [] := List.eq_nil_of_length_eq_zero (by omega)
  subst this
  rw [dec_nil] at h
  injection h with h
  subst h
  exact ⟨by simpa using hn, by simp, rfl⟩
 |succ m ih =>
  intro b hb n l hn h
  cases b with
  |nil =>
   rw [dec_nil] at h
   injection h with h
   subst h
   exact ⟨by simpa using hn, by simp, rfl⟩
  |cons k r =>
   cases hc : ctd 0 r with
   |none => rw [dec_none hc] at h; cases h
   |some p =>
    obtain ⟨c, r'⟩ := p
    obtain ⟨h1, _⟩ := ctd_cnt r 0 hc
    obtain ⟨_, h2, h3⟩ := ctd_bound r 0 (by omega) hc
    simp at hb
    rw [dec_some hc] at h
    split at h
    ·cases h
    ·rename_i hn2
     split at h
     ·rename_i hk
      obtain ⟨l', h4, rfl⟩ := Option.map_eq_some_iff.1 h
      obtain ⟨h5, h6, h7⟩ := ih r' (by omega) (n + 1) l' (by omega) h4
      have hg : Good ⟨1, unz c, ⟨#[]⟩⟩ := ⟨by simp [longI], by simp [okI], unz_range (by simpa using h2)⟩
      refine ⟨by simp; omega, ?_, ?_⟩
      ·intro i hi
       rcases List.mem_cons.1 hi with rfl | hi
       ·exact hg
       ·exact h6 i hi
      ·rw [encAll_cons, h7, ← renc1_eq hg.2.1 hg.2.2, renc1, if_pos rfl, zig_unz, h1]
       have : k = 1 := UInt8.toNat_inj.1 hk
       rw [this]
       rfl
     ·rename_i hk
      split at h
      ·rename_i hk2
       obtain ⟨l', h4, rfl⟩ := Option.map_eq_some_iff.1 h
       obtain ⟨h5, h6, h7⟩ := ih (r'.drop c) (by simp; omega) (n + 1) l' (by omega) h4
       have hsz : (ByteArray.mk (r'.take c).toArray).size = c := by
        show (r'.take c).toArray.size = c
        simp; omega
       have hg : Good ⟨2, 0, ⟨(r'.take c).toArray⟩⟩ := ⟨by simp only [longI, hsz, decide_eq_false_iff_not]; omega, by simp [okI], ⟨show (-9223372036854775808 : Int) ≤ 0 by decide, show (0 : Int) ≤ 9223372036854775807 by decide⟩⟩
       refine ⟨by simp; omega, ?_, ?_⟩
       ·intro i hi
        rcases List.mem_cons.1 hi with rfl | hi
        ·exact hg
        ·exact h6 i hi
       ·rw [encAll_cons, h7, ← renc1_eq hg.2.1 hg.2.2, renc1, if_neg (show ¬ ((2 : Int) = 1) by decide)]
        have e0 : k = 2 := UInt8.toNat_inj.1 hk2.1
        have e1 : (ByteArray.mk (r'.take c).toArray).data.toList = r'.take c := rfl
        show 2 :: (cnt (ByteArray.mk (r'.take c).toArray).size ++ (ByteArray.mk (r'.take c).toArray).data.toList) ++ r'.drop c = k :: r
        rw [hsz, e1, e0, h1]
        simp
      ·cases h
theorem enc_dec : ∀ (l : List Item) (n : Nat), n + l.length ≤ 2000 → (∀ i ∈ l, Good i) → dec n (encAll l) = some l
 |[], n, _, _ => dec_nil n
 |i :: l, n, hn, hg => by
  obtain ⟨h1, h2, h3⟩ := hg i (by simp)
  have ih := enc_dec l (n + 1) (by simp at hn; omega) (fun j hj => hg j (by simp [hj]))
  simp at hn
  rw [encAll_cons, ← renc1_eq h2 h3, renc1]
  simp only [okI, decide_eq_true_eq] at h2
  split
  ·rename_i hk
   have hs : i.s = ⟨#[]⟩ := by
    rcases h2 with h2 | h2
    ·exact h2.2
    ·omega
   rw [List.cons_append, dec_some (cnt_ctd (zig i.n) 0 (encAll l) (by omega) (zig_lt h3) (by omega)), if_neg (by omega), if_pos (show UInt8.toNat 1 = 1 from rfl), ih, unz_zig]
   obtain ⟨k, m, s⟩ := i
   simp only at hk hs
   subst hk; subst hs
   rfl
  ·rename_i hk
   have hk2 : i.kind = 2 ∧ i.n = 0 := by omega
   have hsz : i.s.data.toList.length = i.s.size := by simp
   have h4 : i.s.size ≤ 4000 := by simp only [longI, decide_eq_false_iff_not] at h1; omega
   rw [List.cons_append, List.append_assoc, dec_some (cnt_ctd i.s.size 0 (i.s.data.toList ++ encAll l) (by omega) (by simp; omega) (by omega)), if_neg (by omega), if_neg (by decide), if_pos ⟨rfl, h4, by simp⟩]
   rw [List.drop_append_of_le_length (by omega), List.drop_eq_nil_of_le (by omega), List.nil_append, ih, List.take_append_of_le_length (by omega), List.take_of_length_le (by omega)]
   obtain ⟨k, m, s⟩ := i
   simp only at hk2
   obtain ⟨e1, e2⟩ := hk2
   subst e1; subst e2
   simp
end Go.Proofs.YtjeldcjchipdgaaGreatDoor
namespace Go.Proofs.YtjeldcjchipdgaaGreatDoor
open Go.RowKit Go.HL
set_option maxRecDepth 100000
structure V8 where
 a : UInt32
 b : UInt32
 c : UInt32
 d : UInt32
 e : UInt32
 f : UInt32
 g : UInt32
 h : UInt32
def rotr (x : UInt32) (n : Nat) : UInt32 := (x <<< UInt32.ofNat (32 - n)) ||| (x >>> UInt32.ofNat n)
def wordAt (b : List UInt8) (t : Nat) : UInt32 := (((b.getD (4 * t) 0).toUInt32 <<< UInt32.ofNat 24 ||| (b.getD (4 * t + 1) 0).toUInt32 <<< UInt32.ofNat 16) ||| (b.getD (4 * t + 2) 0).toUInt32 <<< UInt32.ofNat 8) ||| (b.getD (4 * t + 3) 0).toUInt32
def nextW (b : List UInt8) (ws : List UInt32) (t : Nat) : UInt32 :=
 if t < 16 then wordAt b t
 else ws.getD (t - 16) 0 + ((rotr (ws.getD (t - 15) 0) 7 ^^^ rotr (ws.getD (t - 15) 0) 18) ^^^ (ws.getD (t - 15) 0) >>> UInt32.ofNat 3) + ws.getD (t - 7) 0 + ((rotr (ws.getD (t - 2) 0) 17 ^^^ rotr (ws.getD (t - 2) 0) 19) ^^^ (ws.getD (t - 2) 0) >>> UInt32.ofNat 10)
def sch (b : List UInt8) : Nat → List UInt32
 |0 => []
 |t + 1 => let ws := sch b t; ws ++ [nextW b ws t]
def K256 : List UInt32 := [
 0x428a2f98, 0x71374491, 0xb5c0fbcf, 0xe9b5dba5, 0x3956c25b, 0x59f111f1, 0x923f82a4, 0xab1c5ed5,
 0xd807aa98, 0x12835b01, 0x243185be, 0x550c7dc3, 0x72be5d74, 0x80deb1fe, 0x9bdc06a7, 0xc19bf174,
 0xe49b69c1, 0xefbe4786, 0x0fc19dc6, 0x240ca1cc, 0x2de92c6f, 0x4a7484aa, 0x5cb0a9dc, 0x76f988da,
 0x983e5152, 0xa831c66d, 0xb00327c8, 0xbf597fc7, 0xc6e00bf3, 0xd5a79147, 0x06ca6351, 0x14292967,
 0x27b70a85, 0x2e1b2138, 0x4d2c6dfc, 0x53380d13, 0x650a7354, 0x766a0abb, 0x81c2c92e, 0x92722c85,
 0xa2bfe8a1, 0xa81a664b, 0xc24b8b70, 0xc76c51a3, 0xd192e819, 0xd6990624, 0xf40e3585, 0x106aa070,
 0x19a4c116, 0x1e376c08, 0x2748774c, 0x34b0bcb5, 0x391c0cb3, 0x4ed8aa4a, 0x5b9cca4f, 0x682e6ff3,
 0x748f82ee, 0x78a5636f, 0x84c87814, 0x8cc70208, 0x90befffa, 0xa4506ceb, 0xbef9a3f7, 0xc67178f2]
def round1 (v : V8) (k w : UInt32) : V8 :=
 let t1 := v.h + ((rotr v.e 6 ^^^ rotr v.e 11) ^^^ rotr v.e 25) + ((v.e &&& v.f) ^^^ (~~~v.e &&& v.g)) + k + w
 let t2 := ((rotr v.a 2 ^^^ rotr v.a 13) ^^^ rotr v.a 22) + (((v.a &&& v.b) ^^^ (v.a &&& v.c)) ^^^ (v.b &&& v.c))
 ⟨t1 + t2, v.a, v.b, v.c, v.d + t1, v.e, v.f, v.g⟩
def roundsN (w : List UInt32) (v : V8) : Nat → V8
 |0 => v
 |t + 1 => round1 (roundsN w v t) (K256.getD t 0) (w.getD t 0)
def mix (s : V8) (b : List UInt8) : V8 :=
 let v := roundsN (sch b 64) s 64
 ⟨s.a + v.a, s.b + v.b, s.c + v.c, s.d + v.d, s.e + v.e, s.f + v.f, s.g + v.g, s.h + v.h⟩
def st0 : V8 := ⟨0x6a09e667, 0xbb67ae85, 0x3c6ef372, 0xa54ff53a, 0x510e527f, 0x9b05688c, 0x1f83d9ab, 0x5be0cd19⟩
def be8 (n : UInt64) (i : Nat) : List UInt8 := (List.range i).map fun q => (n >>> UInt64.ofNat (56 - 8 * q)).toUInt8
def padded (b : List UInt8) : List UInt8 := b ++ [128] ++ List.replicate ((120 - (b.length + 1) % 64) % 64) 0 ++ be8 (UInt64.ofNat b.length <<< UInt64.ofNat 3) 8
theorem rot_cnt {n : Nat} (h : 1 ≤ n ∧ n ≤ 31) : (B64 (-(n : Int)) &&& 31).toNat = 32 - n ∧ (32 - (B64 (-(n : Int)) &&& 31)).toNat = n := by
 have : ∀ m : Fin 32, 1 ≤ m.1 → (B64 (-(m.1 : Int)) &&& 31).toNat = 32 - m.1 ∧ (32 - (B64 (-(m.1 : Int)) &&& 31)).toNat = m.1 := by decide +kernel
 exact this ⟨n, by omega⟩ h.1
theorem rotl_calls (x : UInt32) (n : Nat) (w : World) (h : 1 ≤ n ∧ n ≤ 31) : Calls Tryz.prog 144 [v32 x, vi (-(n : Int))].toArray w (Ret fun v w' => v = v32 (rotr x n) ∧ Chg Nob w w') := by
 have hw := Chg.refl Nob w
 have hc := rot_cnt h
 refine Calls.of_WC Tryz.func144 rfl Tryz.ntmps144 (by simp) ?_
 refine WC.sr (WL.assign rfl rfl (WL.t (WC.sr (WL.move rfl rfl (WL.qt Tryz.underlying3 Tryz.underlying167 rfl rfl (WL.num rfl rfl (n_and64 _ _ _ 31) rfl (WL.assign rfl rfl (WL.t (WC.sr (WL.move rfl rfl (WL.move rfl rfl (WL.shl32v (32 - n) rfl rfl ⟨by rw [hc.1], by omega⟩ rfl ?_))))))))))))
 refine WL.move rfl rfl (WL.move rfl rfl (WL.num rfl rfl (n_sub64 _ _ 32 _) rfl (WL.shr32v n rfl rfl ⟨by rw [hc.2], by omega⟩ rfl ?_)))
 refine WL.num rfl rfl (n_or32 _ _ _ _) rfl (WL.assign rfl rfl (WL.t (WC.ret (WX.qg (.inl rfl) Tryz.results144 rfl ?_))))
 exact ⟨_, rfl, rfl, hw⟩
theorem ror_calls (x : UInt32) (n : Nat) (w : World) (h : 1 ≤ n ∧ n ≤ 31) : Calls Tryz.prog 139 [v32 x, vi (n : Int)].toArray w (Ret fun v w' => v = v32 (rotr x n) ∧ Chg Nob w w') := by
 have hw := Chg.refl Nob w
 refine Calls.of_WC Tryz.func139 rfl Tryz.ntmps139 (by simp) ?_
 refine WC.sr (WL.assign rfl rfl (WL.t (WC.sr (WL.move rfl rfl (WL.move rfl rfl (WL.neg64 rfl (by omega) rfl (?_)))))))
 refine WL.call eg_144 rfl rfl (rotl_calls x n _ h) ?_
 rintro v w1 ⟨rfl, k⟩
 replace hw := hw.pure k
 refine WL.assign rfl rfl (WL.t (WC.ret (WX.qg (.inl rfl) Tryz.results139 rfl ?_)))
 exact ⟨_, rfl, rfl, hw⟩
theorem clone_calls {S : Nat → Prop} {w : World} {ao : Option Addr} {c : Nat} {b : List UInt8} (hr : RSl S w eb ao c b) (hl : b.length ≤ 140737488351232) :
 Calls Tryz.prog 112 [.slice ao b.length c].toArray w (Ret fun v w' => (∃ (ao' : Option Addr) (c' : Nat), v = .slice ao' b.length c' ∧ Row (w.heap.size ≤ ·) w' 5 eb ao' c' b) ∧ Chg Nob w w') := by
 replace hr := hr.old
 have hw := Chg.refl Nob w
 refine Calls.of_WC Tryz.func112 rfl Tryz.ntmps112 (by simp) ?_
 refine WC.sr (WL.assign rfl rfl (WL.t (WC.seq (WC.sr (WL.move rfl rfl (WL.isNil? Tryz.underlying51 rfl rfl rfl (fun h4 => ?_) (fun h4 => ?_)))))))
 ·refine WL.t (WC.qb rfl (WC.sr (WL.assign rfl rfl (WL.t (WC.ret (WX.qb (WX.qg (.inl rfl) Tryz.results112 rfl ?_)))))))
  subst h4
  have hn := hr.none_nil
  subst hn
  exact ⟨_, rfl, ⟨none, 0, rfl, Row.nil _ _ _ _⟩, hw⟩
 ·refine WL.t (WC.qa rfl (WC.skip (WX.qa (WC.sr (?_)))))
  refine WL.build (e := eb) [] Tryz.underlying51 Tryz.sizeOf5 Tryz.zeroValue5 rfl rfl rfl (by simp [Value.cells]; done) (by decide) rfl ?_
  intro a_hq w_hq hq l_hq z_hq k_hq
  replace hr := hr.pure k_hq
  replace hw := hw.pure k_hq
  refine WL.move rfl rfl (?_)
  refine WL.append (e := eb) info_5 rfl Tryz.underlying51 rfl rfl hq (hr.src Tryz.underlying51) (by (try simp only [List.length_append, List.length_cons, List.length_nil] at *); omega) (by intro b hb; first | (apply hS; omega) | ((try dsimp only); omega)) rfl ?_
  intro a_hq2 c_hq2 w_hq2 hq2 g_hq2 n_hq2
  replace hw := hw.chg g_hq2.chg (by intros; exfalso; (try dsimp only at *); omega)
  refine WL.assign rfl rfl (WL.t (WC.ret (WX.qg (.inl rfl) Tryz.results112 rfl ?_)))
  exact ⟨_, rfl, ⟨_, _, rfl, hq2⟩, hw⟩
theorem pad_calls {S : Nat → Prop} {w : World} {ao : Option Addr} {c : Nat} {b : List UInt8} (hr : RSl S w eb ao c b) (hl : b.length ≤ 140737488351232) :
 Calls Tryz.prog 125 [.slice ao b.length c].toArray w (Ret fun v w' => (∃ (ao' : Option Addr) (c' : Nat), v = .slice ao' (padded b).length c' ∧ Row (w.heap.size ≤ ·) w' 5 eb ao' c' (padded b)) ∧ Chg Nob w w') := by
 replace hr := hr.old
 have hw := Chg.refl Nob w
 refine Calls.of_WC Tryz.func125 rfl Tryz.ntmps125 (by simp) ?_
 refine WC.sr (WL.assign rfl rfl (WL.t (WC.sr (WL.move rfl rfl (WL.call eg_112 rfl rfl (clone_calls hr hl) ?_)))))
 rintro v w1 ⟨⟨a1, c1, rfl, hq⟩, k⟩
 have zs_k := k.size
 replace hr := hr.pure k
 replace hw := hw.pure k
 refine WL.build (e := eb) [128] Tryz.underlying51 Tryz.sizeOf5 Tryz.zeroValue5 rfl rfl rfl (by simp [Value.cells] <;> rfl) (by decide) rfl ?_
 intro a_hn w_hn hn l_hn z_hn k_hn
 replace hr := hr.pure k_hn
 replace hw := hw.pure k_hn
 replace hq := hq.pure k_hn
 refine WL.append (e := eb) info_5 rfl Tryz.underlying51 rfl rfl hq (hn.rsl.src Tryz.underlying51) (by (try simp only [List.length_append, List.length_cons, List.length_nil] at *); omega) (by intro b hb; first | (apply hS; omega) | ((try dsimp only); omega)) rfl ?_
 intro a_hq1 c_hq1 w_hq1 hq1 g_hq1 n_hq1
 replace hr := hr.chg g_hq1.chg (by intros; exfalso; (try dsimp only at *); omega)
 replace hw := hw.chg g_hq1.chg (by intros; exfalso; (try dsimp only at *); omega)
 refine WL.assign rfl rfl (WL.t (WC.seq (WC.block (?_))))
 refine WC.loop (σ := Nat × Option Addr × Nat) (fun s => [(3, .slice s.2.1 (b ++ [128] ++ List.replicate s.1 0).length s.2.2), (0, .slice ao b.length c)])
  (fun s w' => s.1 ≤ (120 - (b.length + 1) % 64) % 64 ∧ Row (w.heap.size ≤ ·) w' 5 eb s.2.1 s.2.2 (b ++ [128] ++ List.replicate s.1 0) ∧ RSl (· < w.heap.size) w' eb ao c b ∧ Chg Nob w w') (fun s => 64 - s.1) (0, a_hq1, c_hq1) ⟨by rw [show List.replicate 0 (0 : UInt8) = [] from rfl, List.append_nil]; rfl, rfl, trivial⟩ ⟨by simp, by simpa using hq1, hr, hw⟩ ?_
 clear hr hw hn hq1 hq
 rintro ⟨j, a1, c1⟩ w2 ⟨hj, hq, hr, hw⟩
 dsimp only at hj hq hr hw ⊢
 have zw := hw.size
 have hlen : (b ++ [128] ++ List.replicate j 0).length = b.length + 1 + j := by simp; omega
 refine WC.seq (WC.sr (WL.move rfl rfl (WL.len Tryz.underlying51 rfl rfl (WL.rem64i rfl rfl (by constructor <;> omega) rfl (?_)))))
 refine WL.qo rfl rfl rfl (fun h13 => ?_) (fun h13 => ?_)
 ·refine WL.t (WC.qb rfl (WC.skip (WX.qa (WC.block (WC.region (WL.move rfl rfl (?_)))))))
  refine WL.build (e := eb) [0] Tryz.underlying51 Tryz.sizeOf5 Tryz.zeroValue5 rfl rfl rfl (by simp [Value.cells] <;> rfl) (by decide) rfl ?_
  intro a_hn w_hn hn l_hn z_hn k_hn
  replace hq := hq.pure k_hn
  replace hr := hr.pure k_hn
  replace hw := hw.pure k_hn
  refine WL.append (e := eb) info_5 rfl Tryz.underlying51 rfl rfl hq (hn.rsl.src Tryz.underlying51) (by (try simp only [List.length_append, List.length_cons, List.length_nil] at *); omega) (by intro b hb; first | (apply hS; omega) | ((try dsimp only); omega)) rfl ?_
  intro a_hq2 c_hq2 w_hq2 hq2 g_hq2 n_hq2
  replace hr := hr.chg g_hq2.chg (by intros; exfalso; (try dsimp only at *); omega)
  replace hw := hw.chg g_hq2.chg (by intros; exfalso; (try dsimp only at *); omega)
  refine WL.assign rfl rfl (WL.nil (WX.qc (?_)))
  have e1 : b ++ [128] ++ List.replicate (j + 1) 0 = b ++ [128] ++ List.replicate j 0 ++ [0] := by rw [List.replicate_succ', List.append_assoc, List.append_assoc, List.append_assoc]
  refine WX.qf (j + 1, a_hq2, c_hq2) ⟨?_, rfl, trivial⟩ ⟨by dsimp only; omega, ?_, hr, hw⟩ (by show _ - _ < _ - _; omega)
  ·dsimp only; rw [e1]; rfl
  ·dsimp only; rw [e1]; exact hq2
 ·refine WL.t (WC.qa rfl (WC.exit (WX.qd (WX.qd (WX.qh (WX.qa (WC.sr (WL.move rfl rfl (WL.len Tryz.underlying51 rfl rfl (WL.qt Tryz.underlying3 Tryz.underlying24 rfl rfl (WL.num rfl rfl (n_shl64 _ _ _ _ 3 (by decide)) rfl (WL.assign rfl rfl (WL.nil (?_))))))))))))))
  refine WX.qa (WC.seq (WC.sr (WL.assign rfl rfl (WL.t (WC.block (?_))))))
  have hz : j = (120 - (b.length + 1) % 64) % 64 := by omega
  have hn8 : (B64 (b.length : Int)) = UInt64.ofNat b.length := by
   apply UInt64.toNat_inj.1
   rw [B64_nat (by omega)]
   simp
   omega
  rw [hn8]
  refine WC.loop (σ := Nat × Option Addr × Nat) (fun s => [(3, .slice s.2.1 (b ++ [128] ++ List.replicate j 0 ++ be8 (UInt64.ofNat b.length <<< UInt64.ofNat 3) s.1).length s.2.2), (4, v64 (UInt64.ofNat b.length <<< UInt64.ofNat 3)), (5, vi (56 - 8 * (s.1 : Int)))])
   (fun s w' => s.1 ≤ 8 ∧ Row (w.heap.size ≤ ·) w' 5 eb s.2.1 s.2.2 (b ++ [128] ++ List.replicate j 0 ++ be8 (UInt64.ofNat b.length <<< UInt64.ofNat 3) s.1) ∧ Chg Nob w w') (fun s => 8 - s.1) (0, a1, c1) ⟨by rw [show be8 (UInt64.ofNat b.length <<< UInt64.ofNat 3) 0 = [] from rfl, List.append_nil]; rfl, rfl, rfl, trivial⟩ ⟨by simp, by simpa [be8] using hq, hw⟩ ?_
  clear hr hw hq
  rintro ⟨i, a2, c2⟩ w3 ⟨hi, hq, hw⟩
  dsimp only at hi hq hw ⊢
  have zw3 := hw.size
  have hlen3 : (b ++ [128] ++ List.replicate j 0 ++ be8 (UInt64.ofNat b.length <<< UInt64.ofNat 3) i).length = b.length + 1 + j + i := by simp [be8]; omega
  refine WC.seq (WC.sr (WL.move rfl rfl (WL.za rfl rfl rfl (fun h22 => ?_) (fun h22 => ?_))))
  ·refine WL.t (WC.qb rfl (WC.skip (WX.qa (WC.seq (WC.block (WC.region (WL.move rfl rfl (WL.move rfl rfl (WL.move rfl rfl (WL.shrv (56 - 8 * i) rfl rfl ⟨by omega, by omega⟩ rfl ?_))))))))))
   refine WL.c_u64_u8 Tryz.underlying24 Tryz.underlying5 rfl rfl (?_)
   refine WL.build (e := eb) [((UInt64.ofNat b.length <<< UInt64.ofNat 3) >>> UInt64.ofNat (56 - 8 * i)).toUInt8] Tryz.underlying51 Tryz.sizeOf5 Tryz.zeroValue5 rfl rfl rfl (by simp [Value.cells] <;> rfl) (by decide) rfl ?_
   intro a_hn w_hn hn l_hn z_hn k_hn
   replace hq := hq.pure k_hn
   replace hw := hw.pure k_hn
   refine WL.append (e := eb) info_5 rfl Tryz.underlying51 rfl rfl hq (hn.rsl.src Tryz.underlying51) (by (try simp only [List.length_append, List.length_cons, List.length_nil] at *); omega) (by intro b hb; first | (apply hS; omega) | ((try dsimp only); omega)) rfl ?_
   intro a_hq2 c_hq2 w_hq2 hq2 g_hq2 n_hq2
   replace hw := hw.chg g_hq2.chg (by intros; exfalso; (try dsimp only at *); omega)
   refine WL.assign rfl rfl (WL.nil (WX.qc (WX.qa (WC.region (WL.move rfl rfl (WL.qj rfl rfl (by omega) rfl (WL.assign rfl rfl (?_))))))))
   refine WL.nil (?_)
   have e1 : be8 (UInt64.ofNat b.length <<< UInt64.ofNat 3) (i + 1) = be8 (UInt64.ofNat b.length <<< UInt64.ofNat 3) i ++ [((UInt64.ofNat b.length <<< UInt64.ofNat 3) >>> UInt64.ofNat (56 - 8 * i)).toUInt8] := by simp [be8, List.range_succ]
   refine WX.qf (i + 1, a_hq2, c_hq2) ⟨?_, rfl, ?_, trivial⟩ ⟨by dsimp only; omega, ?_, hw⟩ (by show _ - _ < _ - _; omega)
   ·dsimp only; rw [e1, ← List.append_assoc]; rfl
   ·dsimp only
    have e2 : 56 - 8 * ((i + 1 : Nat) : Int) = 56 - 8 * (i : Int) - 8 := by omega
    rw [e2]; rfl
   ·dsimp only; rw [e1, ← List.append_assoc]; exact hq2
  ·refine WL.t (WC.qa rfl (WC.exit (WX.qd (WX.qd (WX.qh (WX.qa (WC.sr (WL.move rfl rfl (WL.assign rfl rfl (WL.t (WC.ret (WX.qg (.inl rfl) Tryz.results125 rfl ?_))))))))))))
   have hi8 : i = 8 := by omega
   have e1 : padded b = b ++ [128] ++ List.replicate j 0 ++ be8 (UInt64.ofNat b.length <<< UInt64.ofNat 3) i := by rw [hi8, hz]; rfl
   rw [e1]
   exact ⟨_, rfl, ⟨a2, c2, rfl, hq⟩, hw⟩
end Go.Proofs.YtjeldcjchipdgaaGreatDoor
namespace Go.Proofs.YtjeldcjchipdgaaGreatDoor
open Go.RowKit Go.HL
set_option maxRecDepth 100000
def V8.cells (v : V8) : List Value := [v32 v.a, v32 v.b, v32 v.c, v32 v.d, v32 v.e, v32 v.f, v32 v.g, v32 v.h]
theorem begin_calls (w : World) : Calls Tryz.prog 123 [].toArray w (Ret fun v w' => v = .agg (st0.cells).toArray ∧ Chg Nob w w') := by
 have hw := Chg.refl Nob w
 refine Calls.of_WC Tryz.func123 rfl Tryz.ntmps123 (by simp) ?_
 refine WC.sr (WL.alloc Tryz.zeroValue186 rfl ?_)
 intro g_1 w_1 hge_1 hlt_1 hb_1 k_1
 replace hw := hw.pure k_1
 refine WL.t (WC.sr (WL.bld rfl (bld_186_0_1_2_3_4_5_6_7 _ _ _ _ _ _ _ _) rfl (?_)))
 refine WL.ql Tryz.sizeOf186 hb_1 rfl rfl (by simp; done) (by simp [Value.oneCell']; done) (by simp [Value.cells]; done) rfl ?_
 intro w_2 hs_2 hn_2 k_2
 replace hw := hw.chg k_2 (by intro x h1 h2; have h3 : _ = _ := h2; exfalso; omega)
 replace hb_1 := hn_2
 refine WL.t (WC.ret (WX.ret1c (.inl rfl) Tryz.results123 Tryz.isAgg186 Tryz.sizeOf186 hb_1 rfl (by rfl) ?_))
 exact ⟨_, rfl, rfl, hw⟩
theorem rounds_calls (w : World) : Calls Tryz.prog 124 [].toArray w (Ret fun v w' => v = .agg (K256.map v32).toArray ∧ Chg Nob w w') := by
 have hw := Chg.refl Nob w
 refine Calls.of_WC Tryz.func124 rfl Tryz.ntmps124 (by simp) ?_
 refine WC.sr (WL.alloc Tryz.zeroValue188 rfl ?_)
 intro g_1 w_1 hge_1 hlt_1 hb_1 k_1
 replace hw := hw.pure k_1
 refine WL.t (WC.sr (?_))
 refine WL.buildArr (K256.map v32) Tryz.underlying188 Tryz.sizeOf184 Tryz.zeroValue188 rfl rfl rfl (by intro v hv; obtain ⟨x, _, rfl⟩ := List.mem_map.1 hv; rfl) rfl ?_
 refine WL.ql Tryz.sizeOf188 hb_1 rfl rfl (by rfl) (by intro u hu; obtain ⟨x, _, rfl⟩ := List.mem_map.1 hu; rfl) (by exact Nat.le_of_ble_eq_true rfl) rfl ?_
 intro w_2 hs_2 hn_2 k_2
 replace hw := hw.chg k_2 (by intro x h1 h2; have h3 : _ = _ := h2; exfalso; omega)
 replace hb_1 := hn_2
 refine WL.t (WC.ret (WX.ret1c (.inl rfl) Tryz.results124 Tryz.isAgg188 Tryz.sizeOf188 hb_1 rfl (by rfl) ?_))
 exact ⟨_, rfl, rfl, hw⟩
end Go.Proofs.YtjeldcjchipdgaaGreatDoor
namespace Go.Proofs.YtjeldcjchipdgaaGreatDoor
open Go.RowKit Go.HL
set_option maxRecDepth 100000
theorem sch_len (b : List UInt8) (t : Nat) : (sch b t).length = t := by
 induction t with
 |zero => rfl
 |succ t ih => simp [sch, ih]
theorem sch_at {b : List UInt8} {t i : Nat} (h : i < t) : (sch b t ++ List.replicate (64 - t) 0)[i]? = some ((sch b t).getD i 0) := by
 have hl := sch_len b t
 rw [List.getElem?_append_left (by omega), List.getD_eq_getElem?_getD, List.getElem?_eq_getElem (by omega)]
 rfl
theorem sch_set {b : List UInt8} {t : Nat} (h : t < 64) : ((sch b t ++ List.replicate (64 - t) 0).map v32).set t (v32 (nextW b (sch b t) t)) = (sch b (t + 1) ++ List.replicate (64 - (t + 1)) 0).map v32 := by
 have hl := sch_len b t
 rw [← List.map_set]
 congr 1
 rw [List.set_append_right _ _ (by omega), hl, Nat.sub_self, show 64 - t = (64 - (t + 1)) + 1 from by omega, List.replicate_succ, List.set_cons_zero]
 simp [sch]
theorem byte_at {b : List UInt8} {i : Nat} (h : i < b.length) : b[i]? = some (b.getD i 0) := by
 rw [List.getD_eq_getElem?_getD, List.getElem?_eq_getElem h]
 rfl
def JS (b : List UInt8) (t g : Nat) (w' : World) : Prop := ∃ cs, Blk w' g 188 cs ∧ ∀ j, j < t → cs[j]? = some (v32 ((sch b t).getD j 0))
theorem JS.pure {b : List UInt8} {t g : Nat} (w1 w2 : World) (h : JS b t g w1) (k : Chg Nob w1 w2) : JS b t g w2 := by
 obtain ⟨cs, h1, h2⟩ := h
 exact ⟨cs, h1.pure k, h2⟩
theorem JS.init {b : List UInt8} {t g : Nat} {w1 : World} (h : Blk w1 g 188 ((sch b t ++ List.replicate (64 - t) 0).map v32)) : JS b t g w1 := ⟨_, h, fun j hj => map_at _ (sch_at hj)⟩
theorem JS.set {b : List UInt8} {t g : Nat} {w1 : World} {v : Value} (h : Blk w1 g 188 (((sch b t ++ List.replicate (64 - t) 0).map v32).set t v)) : JS b t g w1 := ⟨_, h, fun j hj => by
 rw [List.getElem?_set_ne (by omega)]
 exact map_at _ (sch_at hj)⟩
set_option maxHeartbeats 1000000 in
theorem schedule_calls {S : Nat → Prop} {w : World} {ao : Option Addr} {c : Nat} {b : List UInt8} (hr : RSl S w eb ao c b) (hl : b.length = 64) :
 Calls Tryz.prog 138 [.slice ao b.length c].toArray w (Ret fun v w' => v = .agg ((sch b 64).map v32).toArray ∧ Chg Nob w w') := by
 replace hr := hr.old
 have hw := Chg.refl Nob w
 obtain ⟨bp, op, rfl⟩ := hr.place (byte_at (b := b) (i := 0) (by omega))
 refine Calls.of_WC Tryz.func138 rfl Tryz.ntmps138 (by simp) ?_
 refine WC.sr (WL.alloc Tryz.zeroValue188 rfl ?_)
 intro g_1 w_1 hge_1 hlt_1 hb_1 k_1
 replace hr := hr.pure k_1
 replace hw := hw.pure k_1
 refine WL.t (WC.sr (WL.alloc Tryz.zeroValue188 rfl ?_))
 intro g_2 w_2 hge_2 hlt_2 hb_2 k_2
 replace hr := hr.pure k_2
 replace hw := hw.pure k_2
 replace hb_1 := hb_1.pure k_2
 refine WL.t (WC.seq (WC.sr (WL.move rfl rfl (WL.t (WC.block (?_))))))
 refine WC.loop (σ := Nat) (fun t => [(0, .slice (some ⟨bp, op, none⟩) b.length c), (2, .pointer (some ⟨g_1, 0, none⟩)), (3, .pointer (some ⟨g_2, 0, none⟩)), (7, vi t)])
  (fun t w' => t ≤ 64 ∧ RSl (· < w.heap.size) w' eb (some ⟨bp, op, none⟩) c b ∧ Blk w' g_1 188 ((List.replicate 64 0).map v32) ∧ Blk w' g_2 188 ((sch b t ++ List.replicate (64 - t) 0).map v32) ∧ Chg Nob w w') (fun t => 64 - t) 0 ⟨rfl, rfl, rfl, rfl, trivial⟩ ⟨by omega, hr, hb_1, hb_2, hw⟩ ?_
 clear hr hb_1 hb_2 hw
 rintro t w3 ⟨ht, hr, hb1, hb2, hw⟩
 have hsl := sch_len b t
 refine WC.sr (WL.qh rfl rfl rfl (fun h8 => ?_) (fun h8 => ?_))
 ·refine WL.t (WC.seq (WC.qb rfl (WC.skip (WX.qa (WC.seq (WC.block (WC.sr (WL.move rfl rfl (WL.assign rfl rfl (WL.t (WC.seq (WC.seq (WC.region (WL.move rfl rfl (WL.qh rfl rfl rfl (fun h11 => ?_) (fun h11 => ?_))))))))))))))))
  ·refine WL.t (WC.qb rfl (WC.seq (?_)))
   have e0 := byte_at (b := b) (i := 4 * t) (by omega)
   have e1 := byte_at (b := b) (i := 4 * t + 1) (by omega)
   have e2 := byte_at (b := b) (i := 4 * t + 2) (by omega)
   have e3 := byte_at (b := b) (i := 4 * t + 3) (by omega)
   refine WC.qc (fun x => x = g_2) [0, 1, 2, 3, 4, 5, 6, 7, 8, 9, 10, 11, 12, 13, 14, 15, 16, 17, 18, 19, 20, 21, 22, 23, 24, 25, 26, 27, 28, 29, 30, 31, 32, 33, 34] [35] mixed rfl rfl (fun wd_3 kd_3 zd_3 => ?_)
   replace hr := hr.pure kd_3
   replace hb1 := hb1.pure kd_3
   replace hb2 := hb2.pure kd_3
   replace hw := hw.pure kd_3
   apply DQ.step [(4, _)] rfl ⟨rfl, trivial⟩ rfl (fun _ _ => WL.move rfl rfl  WL.q)
   apply DQ.step [(0, _)] rfl ⟨rfl, trivial⟩ rfl (fun _ _ => WL.move rfl rfl  WL.q)
   apply DQ.step [(4, _)] rfl ⟨rfl, trivial⟩ rfl (fun _ _ => WL.move rfl rfl  WL.q)
   apply DQ.step [(14, _)] rfl ⟨rfl, trivial⟩ rfl (fun _ _ => WL.qy rfl rfl (by omega) rfl  WL.q)
   apply DQ.step [(13, _), (15, _)] rfl ⟨rfl, rfl, trivial⟩ rfl
   ·intro wq_9 kq_9
    replace hr := hr.chg kq_9 (by intro b h1 h2 h3; have h4 : _ = _ := h3; (try dsimp only at h2); exfalso; omega)
    refine WL.qf hr Tryz.underlying51 Tryz.sizeOf5 rfl rfl ⟨e0, rfl⟩ rfl (WL.q)
   apply DQ.step [(16, _)] rfl ⟨rfl, trivial⟩ rfl
   ·intro wq_10 kq_10
    replace hr := hr.chg kq_10 (by intro b h1 h2 h3; have h4 : _ = _ := h3; (try dsimp only at h2); exfalso; omega)
    refine WL.load Tryz.isAgg5 rfl ((hr.cellsAt e0) 0 _ rfl) rfl (WL.q)
   apply DQ.step [(17, _)] rfl ⟨rfl, trivial⟩ rfl (fun _ _ => WL.c_u8_u32 Tryz.underlying5 Tryz.underlying184 rfl rfl  WL.q)
   apply DQ.step [(18, _)] rfl ⟨rfl, trivial⟩ rfl (fun _ _ => WL.num rfl rfl (n_shl32 _ _ _ _ 24 (by decide)) rfl  WL.q)
   apply DQ.step [(0, _)] rfl ⟨rfl, trivial⟩ rfl (fun _ _ => WL.move rfl rfl  WL.q)
   apply DQ.step [(4, _)] rfl ⟨rfl, trivial⟩ rfl (fun _ _ => WL.move rfl rfl  WL.q)
   apply DQ.step [(21, _)] rfl ⟨rfl, trivial⟩ rfl (fun _ _ => WL.qy rfl rfl (by omega) rfl  WL.q)
   apply DQ.step [(22, _)] rfl ⟨rfl, trivial⟩ rfl (fun _ _ => WL.qe rfl rfl (by omega) rfl  WL.q)
   apply DQ.step [(20, _), (23, _)] rfl ⟨rfl, rfl, trivial⟩ rfl
   ·intro wq_17 kq_17
    replace hr := hr.chg kq_17 (by intro b h1 h2 h3; have h4 : _ = _ := h3; (try dsimp only at h2); exfalso; omega)
    refine WL.qf hr Tryz.underlying51 Tryz.sizeOf5 rfl rfl ⟨e1, rfl⟩ rfl (WL.q)
   apply DQ.step [(24, _)] rfl ⟨rfl, trivial⟩ rfl
   ·intro wq_18 kq_18
    replace hr := hr.chg kq_18 (by intro b h1 h2 h3; have h4 : _ = _ := h3; (try dsimp only at h2); exfalso; omega)
    refine WL.load Tryz.isAgg5 rfl ((hr.cellsAt e1) 0 _ rfl) rfl (WL.q)
   apply DQ.step [(25, _)] rfl ⟨rfl, trivial⟩ rfl (fun _ _ => WL.c_u8_u32 Tryz.underlying5 Tryz.underlying184 rfl rfl  WL.q)
   apply DQ.step [(26, _)] rfl ⟨rfl, trivial⟩ rfl (fun _ _ => WL.num rfl rfl (n_shl32 _ _ _ _ 16 (by decide)) rfl  WL.q)
   apply DQ.step [(19, _), (27, _)] rfl ⟨rfl, rfl, trivial⟩ rfl (fun _ _ => WL.num rfl rfl (n_or32 _ _ _ _) rfl  WL.q)
   apply DQ.step [(0, _)] rfl ⟨rfl, trivial⟩ rfl (fun _ _ => WL.move rfl rfl  WL.q)
   apply DQ.step [(4, _)] rfl ⟨rfl, trivial⟩ rfl (fun _ _ => WL.move rfl rfl  WL.q)
   apply DQ.step [(30, _)] rfl ⟨rfl, trivial⟩ rfl (fun _ _ => WL.qy rfl rfl (by omega) rfl  WL.q)
   apply DQ.step [(31, _)] rfl ⟨rfl, trivial⟩ rfl (fun _ _ => WL.qe rfl rfl (by omega) rfl  WL.q)
   apply DQ.step [(29, _), (32, _)] rfl ⟨rfl, rfl, trivial⟩ rfl
   ·intro wq_26 kq_26
    replace hr := hr.chg kq_26 (by intro b h1 h2 h3; have h4 : _ = _ := h3; (try dsimp only at h2); exfalso; omega)
    refine WL.qf hr Tryz.underlying51 Tryz.sizeOf5 rfl rfl ⟨e2, rfl⟩ rfl (WL.q)
   apply DQ.step [(33, _)] rfl ⟨rfl, trivial⟩ rfl
   ·intro wq_27 kq_27
    replace hr := hr.chg kq_27 (by intro b h1 h2 h3; have h4 : _ = _ := h3; (try dsimp only at h2); exfalso; omega)
    refine WL.load Tryz.isAgg5 rfl ((hr.cellsAt e2) 0 _ rfl) rfl (WL.q)
   apply DQ.step [(34, _)] rfl ⟨rfl, trivial⟩ rfl (fun _ _ => WL.c_u8_u32 Tryz.underlying5 Tryz.underlying184 rfl rfl  WL.q)
   apply DQ.step [(35, _)] rfl ⟨rfl, trivial⟩ rfl (fun _ _ => WL.num rfl rfl (n_shl32 _ _ _ _ 8 (by decide)) rfl  WL.q)
   apply DQ.step [(28, _), (36, _)] rfl ⟨rfl, rfl, trivial⟩ rfl (fun _ _ => WL.num rfl rfl (n_or32 _ _ _ _) rfl  WL.q)
   apply DQ.step [(0, _)] rfl ⟨rfl, trivial⟩ rfl (fun _ _ => WL.move rfl rfl  WL.q)
   apply DQ.step [(4, _)] rfl ⟨rfl, trivial⟩ rfl (fun _ _ => WL.move rfl rfl  WL.q)
   apply DQ.step [(39, _)] rfl ⟨rfl, trivial⟩ rfl (fun _ _ => WL.qy rfl rfl (by omega) rfl  WL.q)
   apply DQ.step [(40, _)] rfl ⟨rfl, trivial⟩ rfl (fun _ _ => WL.qe rfl rfl (by omega) rfl  WL.q)
   apply DQ.step [(38, _), (41, _)] rfl ⟨rfl, rfl, trivial⟩ rfl
   ·intro wq_35 kq_35
    replace hr := hr.chg kq_35 (by intro b h1 h2 h3; have h4 : _ = _ := h3; (try dsimp only at h2); exfalso; omega)
    refine WL.qf hr Tryz.underlying51 Tryz.sizeOf5 rfl rfl ⟨e3, rfl⟩ rfl (WL.q)
   apply DQ.step [(42, _)] rfl ⟨rfl, trivial⟩ rfl
   ·intro wq_36 kq_36
    replace hr := hr.chg kq_36 (by intro b h1 h2 h3; have h4 : _ = _ := h3; (try dsimp only at h2); exfalso; omega)
    refine WL.load Tryz.isAgg5 rfl ((hr.cellsAt e3) 0 _ rfl) rfl (WL.q)
   apply DQ.step [(43, _)] rfl ⟨rfl, trivial⟩ rfl (fun _ _ => WL.c_u8_u32 Tryz.underlying5 Tryz.underlying184 rfl rfl  WL.q)
   apply DQ.step [(37, _), (44, _)] rfl ⟨rfl, rfl, trivial⟩ rfl (fun _ _ => WL.num rfl rfl (n_or32 _ _ _ _) rfl  WL.q)
   apply DQ.step [(3, _), (12, _)] rfl ⟨rfl, rfl, trivial⟩ rfl
   ·intro wq_39 kq_39
    refine WL.qm (t) Tryz.underlying188 Tryz.sizeOf184 rfl rfl ⟨by omega, by omega⟩ rfl ?_
    exact WL.q
   refine DQ.done (fun hd_4 => ?_)
   refine DL.step [(46, _), (45, _)] rfl ⟨rfl, rfl, trivial⟩ rfl (fun wq_40 kq_40 => ?_)
   replace hr := hr.pure kq_40
   replace hb1 := hb1.pure kq_40
   replace hb2 := hb2.pure kq_40
   replace hw := hw.pure kq_40
   replace hd_4 := hd_4.pure kq_40
   refine WL.store Tryz.sizeOf184 hb2 rfl rfl rfl (by simp; omega) ?_
   intro w_41 hs_41 hn_41 k_41
   replace hr := hr.chg k_41 (by intro b h1 h2 h3; have h4 : _ = _ := h3; (try dsimp only at h2); exfalso; omega)
   replace hb1 := hb1.chg k_41 (by intro h1; have h2 : _ = _ := h1; exfalso; omega)
   replace hw := hw.chg k_41 (by intro x h1 h2; have h3 : _ = _ := h2; exfalso; omega)
   replace hd_4 := hd_4.chg k_41 (by intro x h1 h2; exact h2)
   replace hb2 := hn_41
   refine WL.nil (WX.qk (v := undef) ⟨hd_4, ?_⟩)
   refine DL.done (fun we_42 ke_42 => ?_)
   replace hr := hr.pure ke_42
   replace hb1 := hb1.pure ke_42
   replace hb2 := hb2.pure ke_42
   replace hw := hw.pure ke_42
   refine WX.qa (WC.exit (WX.qd (WX.qh (WX.qa (WC.region (WL.qe rfl rfl (by omega) rfl (WL.move rfl rfl (?_))))))))
   refine WL.nil (?_)
   refine WX.qf (t + 1) ⟨rfl, rfl, rfl, rfl, trivial⟩ ⟨by omega, hr, hb1, ?_, hw⟩ (by show _ - _ < _ - _; omega)
   rw [← sch_set (b := b) (t := t) (by omega)]
   first
    |(rw [nextW, if_pos (by omega)]; exact hb2)
    |(rw [nextW, if_neg (by omega)]; exact hb2)
  ·refine WL.t (WC.qa rfl (WC.skip (WX.qa (WC.seq (?_)))))
   have f15 := sch_at (b := b) (t := t) (i := t - 15) (by omega)
   have f2 := sch_at (b := b) (t := t) (i := t - 2) (by omega)
   refine WC.qc (Nob) [0, 1, 2, 3, 4, 5, 6, 7, 8, 9] [] mixed rfl rfl (fun wd_3 kd_3 zd_3 => ?_)
   replace hr := hr.pure kd_3
   replace hb1 := hb1.pure kd_3
   replace hb2 := hb2.pure kd_3
   replace hw := hw.pure kd_3
   apply DQ.step [(4, _)] rfl ⟨rfl, trivial⟩ rfl (fun _ _ => WL.move rfl rfl  WL.q)
   apply DQ.step [(47, _)] rfl ⟨rfl, trivial⟩ rfl (fun _ _ => WL.qj rfl rfl (by omega) rfl  WL.q)
   apply DQ.step [(3, _), (48, _)] rfl ⟨rfl, rfl, trivial⟩ rfl
   ·intro wq_6 kq_6
    refine WL.qm (t - 15) Tryz.underlying188 Tryz.sizeOf184 rfl rfl ⟨by omega, by omega⟩ rfl ?_
    exact WL.q
   apply DQ.step [(49, _)] rfl ⟨rfl, trivial⟩ rfl
   ·intro wq_7 kq_7
    replace hb2 := hb2.pure kq_7
    refine WL.qb Tryz.isAgg184 hb2 rfl (map_at _ f15) rfl (WL.q)
   apply DQ.step [(4, _)] rfl ⟨rfl, trivial⟩ rfl (fun _ _ => WL.move rfl rfl  WL.q)
   apply DQ.step [(51, _)] rfl ⟨rfl, trivial⟩ rfl (fun _ _ => WL.qj rfl rfl (by omega) rfl  WL.q)
   apply DQ.step [(3, _), (52, _)] rfl ⟨rfl, rfl, trivial⟩ rfl
   ·intro wq_10 kq_10
    refine WL.qm (t - 2) Tryz.underlying188 Tryz.sizeOf184 rfl rfl ⟨by omega, by omega⟩ rfl ?_
    exact WL.q
   apply DQ.step [(53, _)] rfl ⟨rfl, trivial⟩ rfl
   ·intro wq_11 kq_11
    replace hb2 := hb2.pure kq_11
    refine WL.qb Tryz.isAgg184 hb2 rfl (map_at _ f2) rfl (WL.q)
   apply DQ.step [(50, _)] rfl ⟨rfl, trivial⟩ rfl (fun _ _ => WL.assign rfl rfl  WL.q)
   apply DQ.step [(54, _)] rfl ⟨rfl, trivial⟩ rfl (fun _ _ => WL.assign rfl rfl  WL.q)
   refine DQ.done (fun _ => ?_)
   refine DL.done (fun we_14 ke_14 => ?_)
   replace hr := hr.pure ke_14
   replace hb1 := hb1.pure ke_14
   replace hb2 := hb2.pure ke_14
   replace hw := hw.pure ke_14
   refine WX.qa (WC.drawJ (fun x => x = g_2) (JS b t g_2) JS.pure [0, 1, 2, 3, 4, 5, 6, 7, 8, 9, 10, 11, 12, 13, 14, 15, 16, 17, 18, 19, 20, 21, 22, 23, 24, 25, 26, 27, 28] [29] mixed rfl rfl (JS.init hb2) (fun wd_15 kd_15 zd_15 => ?_))
   replace hr := hr.pure kd_15
   replace hb1 := hb1.pure kd_15
   replace hb2 := hb2.pure kd_15
   replace hw := hw.pure kd_15
   apply DQ.step [(4, _)] rfl ⟨rfl, trivial⟩ rfl
   ·rintro wq_17 ⟨kq_17, jq⟩
    refine WL.move rfl rfl (WL.q)
   apply DQ.step [(4, _)] rfl ⟨rfl, trivial⟩ rfl
   ·rintro wq_18 ⟨kq_18, jq⟩
    refine WL.move rfl rfl (WL.q)
   apply DQ.step [(56, _)] rfl ⟨rfl, trivial⟩ rfl
   ·rintro wq_19 ⟨kq_19, jq⟩
    refine WL.qj rfl rfl (by omega) rfl (?_)
    exact WL.q
   apply DQ.step [(3, _), (57, _)] rfl ⟨rfl, rfl, trivial⟩ rfl
   ·rintro wq_20 ⟨kq_20, jq⟩
    refine WL.qm (t - 16) Tryz.underlying188 Tryz.sizeOf184 rfl rfl ⟨by omega, by omega⟩ rfl ?_
    exact WL.q
   apply DQ.step [(58, _)] rfl ⟨rfl, trivial⟩ rfl
   ·rintro wq_21 ⟨kq_21, jq⟩
    obtain ⟨cs, hq, hcs⟩ := jq
    refine WL.qb Tryz.isAgg184 hq rfl (hcs (t - 16) (by omega)) rfl ?_
    exact WL.q
   apply DQ.step [(5, _)] rfl ⟨rfl, trivial⟩ rfl
   ·rintro wq_22 ⟨kq_22, jq⟩
    refine WL.move rfl rfl (WL.q)
   apply DQ.step [(60, _)] rfl ⟨rfl, trivial⟩ rfl
   ·rintro wq_23 ⟨kq_23, jq⟩
    refine WL.call eg_139 rfl rfl (ror_calls ((sch b t).getD (t - 15) 0) 7 _ (by decide)) ?_
    rintro v w4 ⟨rfl, k4⟩
    refine WL.nil (WX.one ⟨rfl, by assumption⟩)
   apply DQ.step [(5, _)] rfl ⟨rfl, trivial⟩ rfl
   ·rintro wq_24 ⟨kq_24, jq⟩
    refine WL.move rfl rfl (WL.q)
   apply DQ.step [(62, _)] rfl ⟨rfl, trivial⟩ rfl
   ·rintro wq_25 ⟨kq_25, jq⟩
    refine WL.call eg_139 rfl rfl (ror_calls ((sch b t).getD (t - 15) 0) 18 _ (by decide)) ?_
    rintro v w4 ⟨rfl, k4⟩
    refine WL.nil (WX.one ⟨rfl, by assumption⟩)
   apply DQ.step [(61, _), (63, _)] rfl ⟨rfl, rfl, trivial⟩ rfl
   ·rintro wq_26 ⟨kq_26, jq⟩
    refine WL.num rfl rfl (n_xor32 _ _ _ _) rfl (WL.q)
   apply DQ.step [(5, _)] rfl ⟨rfl, trivial⟩ rfl
   ·rintro wq_27 ⟨kq_27, jq⟩
    refine WL.move rfl rfl (WL.q)
   apply DQ.step [(65, _)] rfl ⟨rfl, trivial⟩ rfl
   ·rintro wq_28 ⟨kq_28, jq⟩
    refine WL.num rfl rfl (n_shr32 _ _ _ _ 3 (by decide)) rfl (?_)
    exact WL.q
   apply DQ.step [(64, _), (66, _)] rfl ⟨rfl, rfl, trivial⟩ rfl
   ·rintro wq_29 ⟨kq_29, jq⟩
    refine WL.num rfl rfl (n_xor32 _ _ _ _) rfl (WL.q)
   apply DQ.step [(59, _), (67, _)] rfl ⟨rfl, rfl, trivial⟩ rfl
   ·rintro wq_30 ⟨kq_30, jq⟩
    refine WL.num rfl rfl (n_add32 _ _ _ _) rfl (WL.q)
   apply DQ.step [(4, _)] rfl ⟨rfl, trivial⟩ rfl
   ·rintro wq_31 ⟨kq_31, jq⟩
    refine WL.move rfl rfl (WL.q)
   apply DQ.step [(69, _)] rfl ⟨rfl, trivial⟩ rfl
   ·rintro wq_32 ⟨kq_32, jq⟩
    refine WL.qj rfl rfl (by omega) rfl (?_)
    exact WL.q
   apply DQ.step [(3, _), (70, _)] rfl ⟨rfl, rfl, trivial⟩ rfl
   ·rintro wq_33 ⟨kq_33, jq⟩
    refine WL.qm (t - 7) Tryz.underlying188 Tryz.sizeOf184 rfl rfl ⟨by omega, by omega⟩ rfl ?_
    exact WL.q
   apply DQ.step [(71, _)] rfl ⟨rfl, trivial⟩ rfl
   ·rintro wq_34 ⟨kq_34, jq⟩
    obtain ⟨cs, hq, hcs⟩ := jq
    refine WL.qb Tryz.isAgg184 hq rfl (hcs (t - 7) (by omega)) rfl ?_
    exact WL.q
   apply DQ.step [(68, _), (72, _)] rfl ⟨rfl, rfl, trivial⟩ rfl
   ·rintro wq_35 ⟨kq_35, jq⟩
    refine WL.num rfl rfl (n_add32 _ _ _ _) rfl (WL.q)
   apply DQ.step [(6, _)] rfl ⟨rfl, trivial⟩ rfl
   ·rintro wq_36 ⟨kq_36, jq⟩
    refine WL.move rfl rfl (WL.q)
   apply DQ.step [(74, _)] rfl ⟨rfl, trivial⟩ rfl
   ·rintro wq_37 ⟨kq_37, jq⟩
    refine WL.call eg_139 rfl rfl (ror_calls ((sch b t).getD (t - 2) 0) 17 _ (by decide)) ?_
    rintro v w4 ⟨rfl, k4⟩
    refine WL.nil (WX.one ⟨rfl, by assumption⟩)
   apply DQ.step [(6, _)] rfl ⟨rfl, trivial⟩ rfl
   ·rintro wq_38 ⟨kq_38, jq⟩
    refine WL.move rfl rfl (WL.q)
   apply DQ.step [(76, _)] rfl ⟨rfl, trivial⟩ rfl
   ·rintro wq_39 ⟨kq_39, jq⟩
    refine WL.call eg_139 rfl rfl (ror_calls ((sch b t).getD (t - 2) 0) 19 _ (by decide)) ?_
    rintro v w4 ⟨rfl, k4⟩
    refine WL.nil (WX.one ⟨rfl, by assumption⟩)
   apply DQ.step [(75, _), (77, _)] rfl ⟨rfl, rfl, trivial⟩ rfl
   ·rintro wq_40 ⟨kq_40, jq⟩
    refine WL.num rfl rfl (n_xor32 _ _ _ _) rfl (WL.q)
   apply DQ.step [(6, _)] rfl ⟨rfl, trivial⟩ rfl
   ·rintro wq_41 ⟨kq_41, jq⟩
    refine WL.move rfl rfl (WL.q)
   apply DQ.step [(79, _)] rfl ⟨rfl, trivial⟩ rfl
   ·rintro wq_42 ⟨kq_42, jq⟩
    refine WL.num rfl rfl (n_shr32 _ _ _ _ 10 (by decide)) rfl (?_)
    exact WL.q
   apply DQ.step [(78, _), (80, _)] rfl ⟨rfl, rfl, trivial⟩ rfl
   ·rintro wq_43 ⟨kq_43, jq⟩
    refine WL.num rfl rfl (n_xor32 _ _ _ _) rfl (WL.q)
   apply DQ.step [(73, _), (81, _)] rfl ⟨rfl, rfl, trivial⟩ rfl
   ·rintro wq_44 ⟨kq_44, jq⟩
    refine WL.num rfl rfl (n_add32 _ _ _ _) rfl (WL.q)
   apply DQ.step [(3, _), (55, _)] rfl ⟨rfl, rfl, trivial⟩ rfl
   ·rintro wq_45 ⟨kq_45, jq⟩
    refine WL.qm (t) Tryz.underlying188 Tryz.sizeOf184 rfl rfl ⟨by omega, by omega⟩ rfl ?_
    exact WL.q
   refine DQ.doneJ (fun hd_16 => ?_)
   refine DL.step [(83, _), (82, _)] rfl ⟨rfl, rfl, trivial⟩ rfl (fun wq_46 kq_46 => ?_)
   replace hr := hr.pure kq_46
   replace hb1 := hb1.pure kq_46
   replace hb2 := hb2.pure kq_46
   replace hw := hw.pure kq_46
   replace hd_16 := hd_16.pure kq_46
   refine WL.store Tryz.sizeOf184 hb2 rfl rfl rfl (by simp; omega) ?_
   intro w_47 hs_47 hn_47 k_47
   replace hr := hr.chg k_47 (by intro b h1 h2 h3; have h4 : _ = _ := h3; (try dsimp only at h2); exfalso; omega)
   replace hb1 := hb1.chg k_47 (by intro h1; have h2 : _ = _ := h1; exfalso; omega)
   replace hw := hw.chg k_47 (by intro x h1 h2; have h3 : _ = _ := h2; exfalso; omega)
   replace hd_16 := hd_16.chg k_47 (by intro x h1 h2; exact h2)
   replace hb2 := hn_47
   refine WL.nil (WX.qk (v := undef) ⟨⟨hd_16, (by exact JS.set hb2)⟩, ?_⟩)
   refine DL.done (fun we_48 ke_48 => ?_)
   replace hr := hr.pure ke_48
   replace hb1 := hb1.pure ke_48
   replace hb2 := hb2.pure ke_48
   replace hw := hw.pure ke_48
   refine WX.qc (WX.qa (WC.region (WL.qe rfl rfl (by omega) rfl (WL.move rfl rfl (WL.nil (?_))))))
   refine WX.qf (t + 1) ⟨rfl, rfl, rfl, rfl, trivial⟩ ⟨by omega, hr, hb1, ?_, hw⟩ (by show _ - _ < _ - _; omega)
   rw [← sch_set (b := b) (t := t) (by omega)]
   first
    |(rw [nextW, if_pos (by omega)]; exact hb2)
    |(rw [nextW, if_neg (by omega)]; exact hb2)
 ·refine WL.t (WC.seq (WC.qa rfl (WC.exit (WX.qd (WX.qd (WX.qh (?_)))))))
  refine WX.qa (WC.sr (WL.qz Tryz.isAgg188 Tryz.sizeOf188 hb2 rfl (by simp; omega) rfl (?_)))
  refine WL.ql Tryz.sizeOf188 hb1 rfl rfl (by simp; omega) (by intro u hu; obtain ⟨x, _, rfl⟩ := List.mem_map.1 hu; rfl) (by simp; omega) rfl ?_
  intro w_3 hs_3 hn_3 k_3
  replace hb2 := hb2.chg k_3 (by intro h1; have h2 : _ = _ := h1; exfalso; omega)
  replace hw := hw.chg k_3 (by intro x h1 h2; have h3 : _ = _ := h2; exfalso; omega)
  replace hb1 := hn_3
  refine WL.t (WC.ret (?_))
  refine WX.ret1c (.inl rfl) Tryz.results138 Tryz.isAgg188 Tryz.sizeOf188 hb1 rfl (by simp; omega) ?_
  have ht64 : t = 64 := by omega
  subst ht64
  refine ⟨_, rfl, ?_, hw⟩
  simp
  omega
end Go.Proofs.YtjeldcjchipdgaaGreatDoor
namespace Go.Proofs.YtjeldcjchipdgaaGreatDoor
open Go.RowKit Go.HL
set_option maxRecDepth 100000
def V8.add (s v : V8) : V8 := ⟨s.a + v.a, s.b + v.b, s.c + v.c, s.d + v.d, s.e + v.e, s.f + v.f, s.g + v.g, s.h + v.h⟩
def V8.list (v : V8) : List UInt32 := [v.a, v.b, v.c, v.d, v.e, v.f, v.g, v.h]
theorem V8.cells_eq (v : V8) : v.cells = v.list.map v32 := rfl
theorem mix_eq (s : V8) (b : List UInt8) : mix s b = s.add (roundsN (sch b 64) s 64) := rfl
def addTo (s v : V8) (i : Nat) : List UInt32 := (s.add v).list.take i ++ s.list.drop i
theorem addTo_len (s v : V8) (i : Nat) (h : i ≤ 8) : (addTo s v i).length = 8 := by
 simp [addTo, V8.list]
 omega
theorem addTo_at {s v : V8} {i : Nat} (h : i < 8) : (addTo s v i)[i]? = some (s.list.getD i 0) ∧ v.list[i]? = some (v.list.getD i 0) ∧ (addTo s v i).set i (s.list.getD i 0 + v.list.getD i 0) = addTo s v (i + 1) := by
 have h8 : i = 0 ∨ i = 1 ∨ i = 2 ∨ i = 3 ∨ i = 4 ∨ i = 5 ∨ i = 6 ∨ i = 7 := by omega
 rcases h8 with rfl | rfl | rfl | rfl | rfl | rfl | rfl | rfl <;> exact ⟨rfl, rfl, rfl⟩
theorem getD_at {xs : List UInt32} {i : Nat} (h : i < xs.length) : xs[i]? = some (xs.getD i 0) := by
 rw [List.getD_eq_getElem?_getD, List.getElem?_eq_getElem h]
 rfl
set_option maxHeartbeats 1000000 in
theorem mix_calls {S : Nat → Prop} {w : World} {gs gk : Nat} {s : V8} {ao : Option Addr} {c : Nat} {b : List UInt8} (hs : Blk w gs 186 s.cells) (hk : Blk w gk 188 (K256.map v32)) (hr : RSl S w eb ao c b) (hl : b.length = 64) (hsk : gs ≠ gk) :
 Calls Tryz.prog 126 [.pointer (some ⟨gs, 0, none⟩), .slice ao b.length c, .pointer (some ⟨gk, 0, none⟩)].toArray w (Ret fun v w' => v = .tuple #[] ∧ Blk w' gs 186 (mix s b).cells ∧ Chg (fun x => x = gs) w w') := by
 have hw := Chg.refl Nob w
 replace hs : Blk w gs 186 [v32 s.a, v32 s.b, v32 s.c, v32 s.d, v32 s.e, v32 s.f, v32 s.g, v32 s.h] := hs
 have ls := hs.lt
 have lk := hk.lt
 refine Calls.of_WC Tryz.func126 rfl Tryz.ntmps126 (by simp) ?_
 refine WC.sr (WL.move rfl rfl (WL.call eg_138 rfl rfl (schedule_calls hr hl) ?_))
 rintro v w1 ⟨rfl, k⟩
 obtain ⟨ws, hws⟩ : ∃ ws, ws = sch b 64 := ⟨_, rfl⟩
 have hsl : ws.length = 64 := by rw [hws]; exact sch_len b 64
 rw [← hws]
 have zs_k := k.size
 replace hs := hs.pure k
 replace hk := hk.pure k
 replace hw := hw.pure k
 refine WL.alloc Tryz.zeroValue188 rfl ?_
 intro g_1 w_1 hge_1 hlt_1 hb_1 k_1
 replace hs := hs.pure k_1
 replace hk := hk.pure k_1
 replace hw := hw.pure k_1
 refine WL.ql Tryz.sizeOf188 hb_1 rfl rfl (by simp; omega) (by intro u hu; obtain ⟨x, _, rfl⟩ := List.mem_map.1 hu; rfl) (by simp [Value.cells]; omega) rfl ?_
 intro w_2 hs_2 hn_2 k_2
 replace hs := hs.chg k_2 (by intro h1; have h2 : _ = _ := h1; exfalso; omega)
 replace hk := hk.chg k_2 (by intro h1; have h2 : _ = _ := h1; exfalso; omega)
 replace hw := hw.chg k_2 (by intro x h1 h2; have h3 : _ = _ := h2; exfalso; omega)
 replace hb_1 := hn_2
 refine WL.t (WC.sr (WL.move rfl rfl (WL.nilCheck rfl rfl (WL.qz Tryz.isAgg186 Tryz.sizeOf186 hs rfl (by simp; done) rfl (?_)))))
 refine WL.alloc Tryz.zeroValue186 rfl ?_
 intro g_3 w_3 hge_3 hlt_3 hb_3 k_3
 replace hs := hs.pure k_3
 replace hk := hk.pure k_3
 replace hw := hw.pure k_3
 replace hb_1 := hb_1.pure k_3
 refine WL.ql Tryz.sizeOf186 hb_3 rfl rfl (by simp; done) (by simp [Value.oneCell']; done) (by simp [Value.cells]; done) rfl ?_
 intro w_4 hs_4 hn_4 k_4
 replace hs := hs.chg k_4 (by intro h1; have h2 : _ = _ := h1; exfalso; omega)
 replace hk := hk.chg k_4 (by intro h1; have h2 : _ = _ := h1; exfalso; omega)
 replace hw := hw.chg k_4 (by intro x h1 h2; have h3 : _ = _ := h2; exfalso; omega)
 replace hb_1 := hb_1.chg k_4 (by intro h1; have h2 : _ = _ := h1; exfalso; omega)
 replace hb_3 := hn_4
 refine WL.t (WC.seq (WC.sr (WL.move rfl rfl (WL.t (WC.block (?_))))))
 have e6 : ∀ zs : List Value, zs.length = 64 → List.take 0 zs ++ List.map v32 ws ++ List.drop (0 + (List.map v32 ws).length) zs = List.map v32 ws := by
  intro zs hz
  rw [List.drop_eq_nil_of_le (by simp; omega)]
  simp
 rw [e6 _ rfl] at hb_1
 refine WC.loop (σ := Nat) (fun t => [(0, .pointer (some ⟨gs, 0, none⟩)), (2, .pointer (some ⟨gk, 0, none⟩)), (6, .pointer (some ⟨g_1, 0, none⟩)), (7, .pointer (some ⟨g_3, 0, none⟩)), (19, vi t)])
  (fun t w' => t ≤ 64 ∧ Blk w' gs 186 [v32 s.a, v32 s.b, v32 s.c, v32 s.d, v32 s.e, v32 s.f, v32 s.g, v32 s.h] ∧ Blk w' gk 188 (K256.map v32) ∧ Blk w' g_1 188 (ws.map v32) ∧ Blk w' g_3 186 (roundsN ws s t).cells ∧ Chg Nob w w') (fun t => 64 - t) 0 ⟨rfl, rfl, rfl, rfl, rfl, trivial⟩ ⟨by omega, hs, hk, ?_, hb_3, hw⟩ ?_
 ·exact hb_1
 clear hs hk hb_1 hb_3 hw
 rintro t w9 ⟨ht, hs, hk, h6, h7, hw⟩
 obtain ⟨V, hV⟩ : ∃ V, V = roundsN ws s t := ⟨_, rfl⟩
 rw [← hV] at h7
 replace h7 : Blk w9 g_3 186 [v32 V.a, v32 V.b, v32 V.c, v32 V.d, v32 V.e, v32 V.f, v32 V.g, v32 V.h] := h7
 refine WC.sr (WL.qh rfl rfl rfl (fun h20 => ?_) (fun h20 => ?_))
 ·refine WL.t (WC.seq (WC.qb rfl (WC.skip (WX.qa (WC.seq (WC.block (WC.sr (WL.move rfl rfl (WL.assign rfl rfl (WL.t (WC.seq (WC.qc (Nob) [0, 1, 2, 3, 4, 5] [] mixed rfl rfl (fun wd_5 kd_5 zd_5 => ?_)))))))))))))
  replace hs := hs.pure kd_5
  replace hk := hk.pure kd_5
  replace h6 := h6.pure kd_5
  replace h7 := h7.pure kd_5
  replace hw := hw.pure kd_5
  apply DQ.step [(7, _)] rfl ⟨rfl, trivial⟩ rfl (fun _ _ => WL.qm 4 Tryz.underlying186 Tryz.sizeOf184 rfl rfl ⟨rfl, by decide⟩ rfl  WL.q)
  apply DQ.step [(22, _)] rfl ⟨rfl, trivial⟩ rfl
  ·intro wq_7 kq_7
   replace h7 := h7.pure kq_7
   refine WL.qb Tryz.isAgg184 h7 rfl rfl rfl (WL.q)
  apply DQ.step [(7, _)] rfl ⟨rfl, trivial⟩ rfl (fun _ _ => WL.qm 0 Tryz.underlying186 Tryz.sizeOf184 rfl rfl ⟨rfl, by decide⟩ rfl  WL.q)
  apply DQ.step [(24, _)] rfl ⟨rfl, trivial⟩ rfl
  ·intro wq_9 kq_9
   replace h7 := h7.pure kq_9
   refine WL.qb Tryz.isAgg184 h7 rfl rfl rfl (WL.q)
  apply DQ.step [(23, _)] rfl ⟨rfl, trivial⟩ rfl (fun _ _ => WL.assign rfl rfl  WL.q)
  apply DQ.step [(25, _)] rfl ⟨rfl, trivial⟩ rfl (fun _ _ => WL.assign rfl rfl  WL.q)
  refine DQ.done (fun _ => ?_)
  refine DL.done (fun we_12 ke_12 => ?_)
  replace hs := hs.pure ke_12
  replace hk := hk.pure ke_12
  replace h6 := h6.pure ke_12
  replace h7 := h7.pure ke_12
  replace hw := hw.pure ke_12
  refine WX.qa (WC.seq (?_))
  have fk := getD_at (xs := K256) (i := t) (by show t < 64; omega)
  have fw := getD_at (xs := ws) (i := t) (by omega)
  refine WC.qc (Nob) [0, 1, 2, 3, 4, 5, 6, 7, 8, 9, 10, 11, 12, 13, 14, 15, 16, 17, 18, 19, 20, 21, 22, 23, 24, 25, 26, 27, 28, 29, 30, 31, 32] [] mixed rfl rfl (fun wd_13 kd_13 zd_13 => ?_)
  replace hs := hs.pure kd_13
  replace hk := hk.pure kd_13
  replace h6 := h6.pure kd_13
  replace h7 := h7.pure kd_13
  replace hw := hw.pure kd_13
  apply DQ.step [(7, _)] rfl ⟨rfl, trivial⟩ rfl (fun _ _ => WL.qm 7 Tryz.underlying186 Tryz.sizeOf184 rfl rfl ⟨rfl, by decide⟩ rfl  WL.q)
  apply DQ.step [(26, _)] rfl ⟨rfl, trivial⟩ rfl
  ·intro wq_15 kq_15
   replace h7 := h7.pure kq_15
   refine WL.qb Tryz.isAgg184 h7 rfl rfl rfl (WL.q)
  apply DQ.step [(9, _)] rfl ⟨rfl, trivial⟩ rfl (fun _ _ => WL.move rfl rfl  WL.q)
  apply DQ.step [(28, _)] rfl ⟨rfl, trivial⟩ rfl
  ·intro wq_17 kq_17
   refine WL.call eg_139 rfl rfl (ror_calls V.e 6 _ (by decide)) ?_
   rintro v w4 ⟨rfl, k4⟩
   refine WL.nil (WX.one ⟨rfl, by assumption⟩)
  apply DQ.step [(9, _)] rfl ⟨rfl, trivial⟩ rfl (fun _ _ => WL.move rfl rfl  WL.q)
  apply DQ.step [(30, _)] rfl ⟨rfl, trivial⟩ rfl
  ·intro wq_19 kq_19
   refine WL.call eg_139 rfl rfl (ror_calls V.e 11 _ (by decide)) ?_
   rintro v w4 ⟨rfl, k4⟩
   refine WL.nil (WX.one ⟨rfl, by assumption⟩)
  apply DQ.step [(29, _), (31, _)] rfl ⟨rfl, rfl, trivial⟩ rfl (fun _ _ => WL.num rfl rfl (n_xor32 _ _ _ _) rfl  WL.q)
  apply DQ.step [(9, _)] rfl ⟨rfl, trivial⟩ rfl (fun _ _ => WL.move rfl rfl  WL.q)
  apply DQ.step [(33, _)] rfl ⟨rfl, trivial⟩ rfl
  ·intro wq_22 kq_22
   refine WL.call eg_139 rfl rfl (ror_calls V.e 25 _ (by decide)) ?_
   rintro v w4 ⟨rfl, k4⟩
   refine WL.nil (WX.one ⟨rfl, by assumption⟩)
  apply DQ.step [(32, _), (34, _)] rfl ⟨rfl, rfl, trivial⟩ rfl (fun _ _ => WL.num rfl rfl (n_xor32 _ _ _ _) rfl  WL.q)
  apply DQ.step [(27, _), (35, _)] rfl ⟨rfl, rfl, trivial⟩ rfl (fun _ _ => WL.num rfl rfl (n_add32 _ _ _ _) rfl  WL.q)
  apply DQ.step [(9, _)] rfl ⟨rfl, trivial⟩ rfl (fun _ _ => WL.move rfl rfl  WL.q)
  apply DQ.step [(7, _)] rfl ⟨rfl, trivial⟩ rfl (fun _ _ => WL.qm 5 Tryz.underlying186 Tryz.sizeOf184 rfl rfl ⟨rfl, by decide⟩ rfl  WL.q)
  apply DQ.step [(38, _)] rfl ⟨rfl, trivial⟩ rfl
  ·intro wq_27 kq_27
   replace h7 := h7.pure kq_27
   refine WL.qb Tryz.isAgg184 h7 rfl rfl rfl (WL.q)
  apply DQ.step [(37, _), (39, _)] rfl ⟨rfl, rfl, trivial⟩ rfl (fun _ _ => WL.num rfl rfl (n_and32 _ _ _ _) rfl  WL.q)
  apply DQ.step [(9, _)] rfl ⟨rfl, trivial⟩ rfl (fun _ _ => WL.move rfl rfl  WL.q)
  apply DQ.step [(41, _)] rfl ⟨rfl, trivial⟩ rfl (fun _ _ => WL.not32 rfl rfl  WL.q)
  apply DQ.step [(7, _)] rfl ⟨rfl, trivial⟩ rfl (fun _ _ => WL.qm 6 Tryz.underlying186 Tryz.sizeOf184 rfl rfl ⟨rfl, by decide⟩ rfl  WL.q)
  apply DQ.step [(43, _)] rfl ⟨rfl, trivial⟩ rfl
  ·intro wq_32 kq_32
   replace h7 := h7.pure kq_32
   refine WL.qb Tryz.isAgg184 h7 rfl rfl rfl (WL.q)
  apply DQ.step [(42, _), (44, _)] rfl ⟨rfl, rfl, trivial⟩ rfl (fun _ _ => WL.num rfl rfl (n_and32 _ _ _ _) rfl  WL.q)
  apply DQ.step [(40, _), (45, _)] rfl ⟨rfl, rfl, trivial⟩ rfl (fun _ _ => WL.num rfl rfl (n_xor32 _ _ _ _) rfl  WL.q)
  apply DQ.step [(36, _), (46, _)] rfl ⟨rfl, rfl, trivial⟩ rfl (fun _ _ => WL.num rfl rfl (n_add32 _ _ _ _) rfl  WL.q)
  apply DQ.step [(2, _)] rfl ⟨rfl, trivial⟩ rfl (fun _ _ => WL.move rfl rfl  WL.q)
  apply DQ.step [(8, _)] rfl ⟨rfl, trivial⟩ rfl (fun _ _ => WL.move rfl rfl  WL.q)
  apply DQ.step [(48, _)] rfl ⟨rfl, trivial⟩ rfl (fun _ _ => WL.nilCheck rfl rfl  WL.q)
  apply DQ.step [(50, _), (49, _)] rfl ⟨rfl, rfl, trivial⟩ rfl
  ·intro wq_39 kq_39
   refine WL.qm (t) Tryz.underlying188 Tryz.sizeOf184 rfl rfl ⟨by omega, by omega⟩ rfl ?_
   exact WL.q
  apply DQ.step [(51, _)] rfl ⟨rfl, trivial⟩ rfl
  ·intro wq_40 kq_40
   replace hk := hk.pure kq_40
   refine WL.qb Tryz.isAgg184 hk rfl (map_at _ fk) rfl (WL.q)
  apply DQ.step [(47, _), (52, _)] rfl ⟨rfl, rfl, trivial⟩ rfl (fun _ _ => WL.num rfl rfl (n_add32 _ _ _ _) rfl  WL.q)
  apply DQ.step [(8, _)] rfl ⟨rfl, trivial⟩ rfl (fun _ _ => WL.move rfl rfl  WL.q)
  apply DQ.step [(6, _), (54, _)] rfl ⟨rfl, rfl, trivial⟩ rfl
  ·intro wq_43 kq_43
   refine WL.qm (t) Tryz.underlying188 Tryz.sizeOf184 rfl rfl ⟨by omega, by omega⟩ rfl ?_
   exact WL.q
  apply DQ.step [(55, _)] rfl ⟨rfl, trivial⟩ rfl
  ·intro wq_44 kq_44
   replace h6 := h6.pure kq_44
   refine WL.qb Tryz.isAgg184 h6 rfl (map_at _ fw) rfl (WL.q)
  apply DQ.step [(53, _), (56, _)] rfl ⟨rfl, rfl, trivial⟩ rfl (fun _ _ => WL.num rfl rfl (n_add32 _ _ _ _) rfl  WL.q)
  apply DQ.step [(57, _)] rfl ⟨rfl, trivial⟩ rfl (fun _ _ => WL.assign rfl rfl  WL.q)
  refine DQ.done (fun _ => ?_)
  refine DL.done (fun we_47 ke_47 => ?_)
  replace hs := hs.pure ke_47
  replace hk := hk.pure ke_47
  replace h6 := h6.pure ke_47
  replace h7 := h7.pure ke_47
  replace hw := hw.pure ke_47
  refine WX.qa (WC.seq (WC.qc (Nob) [0, 1, 2, 3, 4, 5, 6, 7, 8, 9, 10, 11, 12, 13, 14, 15, 16, 17, 18, 19, 20, 21, 22, 23, 24] [] mixed rfl rfl (fun wd_48 kd_48 zd_48 => ?_)))
  replace hs := hs.pure kd_48
  replace hk := hk.pure kd_48
  replace h6 := h6.pure kd_48
  replace h7 := h7.pure kd_48
  replace hw := hw.pure kd_48
  apply DQ.step [(10, _)] rfl ⟨rfl, trivial⟩ rfl (fun _ _ => WL.move rfl rfl  WL.q)
  apply DQ.step [(58, _)] rfl ⟨rfl, trivial⟩ rfl
  ·intro wq_50 kq_50
   refine WL.call eg_139 rfl rfl (ror_calls V.a 2 _ (by decide)) ?_
   rintro v w4 ⟨rfl, k4⟩
   refine WL.nil (WX.one ⟨rfl, by assumption⟩)
  apply DQ.step [(10, _)] rfl ⟨rfl, trivial⟩ rfl (fun _ _ => WL.move rfl rfl  WL.q)
  apply DQ.step [(60, _)] rfl ⟨rfl, trivial⟩ rfl
  ·intro wq_52 kq_52
   refine WL.call eg_139 rfl rfl (ror_calls V.a 13 _ (by decide)) ?_
   rintro v w4 ⟨rfl, k4⟩
   refine WL.nil (WX.one ⟨rfl, by assumption⟩)
  apply DQ.step [(59, _), (61, _)] rfl ⟨rfl, rfl, trivial⟩ rfl (fun _ _ => WL.num rfl rfl (n_xor32 _ _ _ _) rfl  WL.q)
  apply DQ.step [(10, _)] rfl ⟨rfl, trivial⟩ rfl (fun _ _ => WL.move rfl rfl  WL.q)
  apply DQ.step [(63, _)] rfl ⟨rfl, trivial⟩ rfl
  ·intro wq_55 kq_55
   refine WL.call eg_139 rfl rfl (ror_calls V.a 22 _ (by decide)) ?_
   rintro v w4 ⟨rfl, k4⟩
   refine WL.nil (WX.one ⟨rfl, by assumption⟩)
  apply DQ.step [(62, _), (64, _)] rfl ⟨rfl, rfl, trivial⟩ rfl (fun _ _ => WL.num rfl rfl (n_xor32 _ _ _ _) rfl  WL.q)
  apply DQ.step [(10, _)] rfl ⟨rfl, trivial⟩ rfl (fun _ _ => WL.move rfl rfl  WL.q)
  apply DQ.step [(7, _)] rfl ⟨rfl, trivial⟩ rfl (fun _ _ => WL.qm 1 Tryz.underlying186 Tryz.sizeOf184 rfl rfl ⟨rfl, by decide⟩ rfl  WL.q)
  apply DQ.step [(67, _)] rfl ⟨rfl, trivial⟩ rfl
  ·intro wq_59 kq_59
   replace h7 := h7.pure kq_59
   refine WL.qb Tryz.isAgg184 h7 rfl rfl rfl (WL.q)
  apply DQ.step [(66, _), (68, _)] rfl ⟨rfl, rfl, trivial⟩ rfl (fun _ _ => WL.num rfl rfl (n_and32 _ _ _ _) rfl  WL.q)
  apply DQ.step [(10, _)] rfl ⟨rfl, trivial⟩ rfl (fun _ _ => WL.move rfl rfl  WL.q)
  apply DQ.step [(7, _)] rfl ⟨rfl, trivial⟩ rfl (fun _ _ => WL.qm 2 Tryz.underlying186 Tryz.sizeOf184 rfl rfl ⟨rfl, by decide⟩ rfl  WL.q)
  apply DQ.step [(71, _)] rfl ⟨rfl, trivial⟩ rfl
  ·intro wq_63 kq_63
   replace h7 := h7.pure kq_63
   refine WL.qb Tryz.isAgg184 h7 rfl rfl rfl (WL.q)
  apply DQ.step [(70, _), (72, _)] rfl ⟨rfl, rfl, trivial⟩ rfl (fun _ _ => WL.num rfl rfl (n_and32 _ _ _ _) rfl  WL.q)
  apply DQ.step [(69, _), (73, _)] rfl ⟨rfl, rfl, trivial⟩ rfl (fun _ _ => WL.num rfl rfl (n_xor32 _ _ _ _) rfl  WL.q)
  apply DQ.step [(7, _)] rfl ⟨rfl, trivial⟩ rfl (fun _ _ => WL.qm 1 Tryz.underlying186 Tryz.sizeOf184 rfl rfl ⟨rfl, by decide⟩ rfl  WL.q)
  apply DQ.step [(75, _)] rfl ⟨rfl, trivial⟩ rfl
  ·intro wq_67 kq_67
   replace h7 := h7.pure kq_67
   refine WL.qb Tryz.isAgg184 h7 rfl rfl rfl (WL.q)
  apply DQ.step [(7, _)] rfl ⟨rfl, trivial⟩ rfl (fun _ _ => WL.qm 2 Tryz.underlying186 Tryz.sizeOf184 rfl rfl ⟨rfl, by decide⟩ rfl  WL.q)
  apply DQ.step [(77, _)] rfl ⟨rfl, trivial⟩ rfl
  ·intro wq_69 kq_69
   replace h7 := h7.pure kq_69
   refine WL.qb Tryz.isAgg184 h7 rfl rfl rfl (WL.q)
  apply DQ.step [(76, _), (78, _)] rfl ⟨rfl, rfl, trivial⟩ rfl (fun _ _ => WL.num rfl rfl (n_and32 _ _ _ _) rfl  WL.q)
  apply DQ.step [(74, _), (79, _)] rfl ⟨rfl, rfl, trivial⟩ rfl (fun _ _ => WL.num rfl rfl (n_xor32 _ _ _ _) rfl  WL.q)
  apply DQ.step [(65, _), (80, _)] rfl ⟨rfl, rfl, trivial⟩ rfl (fun _ _ => WL.num rfl rfl (n_add32 _ _ _ _) rfl  WL.q)
  apply DQ.step [(81, _)] rfl ⟨rfl, trivial⟩ rfl (fun _ _ => WL.assign rfl rfl  WL.q)
  refine DQ.done (fun _ => ?_)
  refine DL.done (fun we_74 ke_74 => ?_)
  replace hs := hs.pure ke_74
  replace hk := hk.pure ke_74
  replace h6 := h6.pure ke_74
  replace h7 := h7.pure ke_74
  replace hw := hw.pure ke_74
  refine WX.qa (WC.region (WL.move rfl rfl (WL.move rfl rfl (WL.num rfl rfl (n_add32 _ _ _ _) rfl (WL.qm 0 Tryz.underlying186 Tryz.sizeOf184 rfl rfl ⟨rfl, by decide⟩ rfl (WL.qb Tryz.isAgg184 h7 rfl rfl rfl (WL.qm 1 Tryz.underlying186 Tryz.sizeOf184 rfl rfl ⟨rfl, by decide⟩ rfl (?_))))))))
  refine WL.qb Tryz.isAgg184 h7 rfl rfl rfl (WL.qm 2 Tryz.underlying186 Tryz.sizeOf184 rfl rfl ⟨rfl, by decide⟩ rfl (WL.qb Tryz.isAgg184 h7 rfl rfl rfl (WL.qm 3 Tryz.underlying186 Tryz.sizeOf184 rfl rfl ⟨rfl, by decide⟩ rfl (WL.qb Tryz.isAgg184 h7 rfl rfl rfl (WL.move rfl rfl (WL.num rfl rfl (n_add32 _ _ _ _) rfl (WL.qm 4 Tryz.underlying186 Tryz.sizeOf184 rfl rfl ⟨rfl, by decide⟩ rfl (?_))))))))
  refine WL.qb Tryz.isAgg184 h7 rfl rfl rfl (WL.qm 5 Tryz.underlying186 Tryz.sizeOf184 rfl rfl ⟨rfl, by decide⟩ rfl (WL.qb Tryz.isAgg184 h7 rfl rfl rfl (WL.qm 6 Tryz.underlying186 Tryz.sizeOf184 rfl rfl ⟨rfl, by decide⟩ rfl (WL.qb Tryz.isAgg184 h7 rfl rfl rfl (WL.bld rfl (bld_186_0_1_2_3_4_5_6_7 _ _ _ _ _ _ _ _) rfl (?_))))))
  refine WL.ql Tryz.sizeOf186 h7 rfl rfl (by simp; done) (by simp [Value.oneCell']; done) (by simp; done) rfl ?_
  intro w_75 hs_75 hn_75 k_75
  replace hs := hs.chg k_75 (by intro h1; have h2 : _ = _ := h1; exfalso; omega)
  replace hk := hk.chg k_75 (by intro h1; have h2 : _ = _ := h1; exfalso; omega)
  replace h6 := h6.chg k_75 (by intro h1; have h2 : _ = _ := h1; exfalso; omega)
  replace hw := hw.chg k_75 (by intro x h1 h2; have h3 : _ = _ := h2; exfalso; omega)
  replace h7 := hn_75
  refine WL.nil (WX.qc (WX.qa (WC.region (WL.qe rfl rfl (by omega) rfl (WL.move rfl rfl (WL.nil (?_)))))))
  first
   |(refine WX.qf (t + 1) ⟨rfl, rfl, rfl, rfl, rfl, trivial⟩ ⟨by omega, hs, hk, h6, ?_, hw⟩ (by show _ - _ < _ - _; omega)
     rw [roundsN, ← hV]
     exact h7)
   |(refine WX.qf (i + 1) ⟨rfl, rfl, rfl, trivial⟩ ⟨by omega, ?_, h7, hw⟩ (by show _ - _ < _ - _; omega)
     rw [← f3, List.map_set]
     exact hs)
 ·refine WL.t (WC.seq (WC.qa rfl (WC.exit (WX.qd (WX.qd (WX.qh (WX.qa (WC.sr (WL.move rfl rfl (WL.t (WC.block (?_))))))))))))
  have ht64 : t = 64 := by omega
  rw [ht64] at hV
  refine WC.loop (σ := Nat) (fun i => [(0, .pointer (some ⟨gs, 0, none⟩)), (7, .pointer (some ⟨g_3, 0, none⟩)), (103, vi i)])
   (fun i w' => i ≤ 8 ∧ Blk w' gs 186 ((addTo s V i).map v32) ∧ Blk w' g_3 186 (V.list.map v32) ∧ Chg (fun x => x = gs) w w') (fun i => 8 - i) 0 ⟨rfl, rfl, rfl, trivial⟩ ⟨by omega, hs, h7, hw.mono (fun _ _ h => h.elim)⟩ ?_
  clear hs hk h6 h7 hw
  rintro i w9 ⟨hi, hs, h7, hw⟩
  refine WC.sr (WL.qh rfl rfl rfl (fun h104 => ?_) (fun h104 => ?_))
  ·refine WL.t (WC.seq (WC.qb rfl (WC.skip (WX.qa (WC.seq (WC.block (WC.sr (WL.move rfl rfl (WL.assign rfl rfl (WL.t (?_)))))))))))
   obtain ⟨f1, f2, f3⟩ := addTo_at (s := s) (v := V) (i := i) (by omega)
   have hal := addTo_len s V i (by omega)
   refine WC.qc (fun x => x = gs) [0, 1, 2, 3, 5, 6, 7, 9, 10] [4, 8, 11] mixed rfl rfl (fun wd_5 kd_5 zd_5 => ?_)
   replace hs := hs.pure kd_5
   replace h7 := h7.pure kd_5
   replace hw := hw.pure kd_5
   apply DQ.step [(0, _)] rfl ⟨rfl, trivial⟩ rfl (fun _ _ => WL.move rfl rfl  WL.q)
   apply DQ.step [(13, _)] rfl ⟨rfl, trivial⟩ rfl (fun _ _ => WL.move rfl rfl  WL.q)
   apply DQ.step [(106, _)] rfl ⟨rfl, trivial⟩ rfl (fun _ _ => WL.nilCheck rfl rfl  WL.q)
   apply DQ.step [(108, _), (107, _)] rfl ⟨rfl, rfl, trivial⟩ rfl
   ·intro wq_10 kq_10
    refine WL.qm (i) Tryz.underlying186 Tryz.sizeOf184 rfl rfl ⟨by omega, by omega⟩ rfl ?_
    exact WL.q
   apply DQ.step [(13, _)] rfl ⟨rfl, trivial⟩ rfl (fun _ _ => WL.move rfl rfl  WL.q)
   apply DQ.step [(7, _), (111, _)] rfl ⟨rfl, rfl, trivial⟩ rfl
   ·intro wq_12 kq_12
    refine WL.qm (i) Tryz.underlying186 Tryz.sizeOf184 rfl rfl ⟨by omega, by omega⟩ rfl ?_
    exact WL.q
   apply DQ.step [(112, _)] rfl ⟨rfl, trivial⟩ rfl
   ·intro wq_13 kq_13
    replace h7 := h7.chg kq_13 (by intro h1; have h2 : _ = _ := h1; exfalso; omega)
    refine WL.qb Tryz.isAgg184 h7 rfl (map_at _ f2) rfl (WL.q)
   apply DQ.step [(106, _)] rfl ⟨rfl, trivial⟩ rfl (fun _ _ => WL.nilCheck rfl rfl  WL.q)
   apply DQ.step [(115, _), (107, _)] rfl ⟨rfl, rfl, trivial⟩ rfl
   ·intro wq_15 kq_15
    refine WL.qm (i) Tryz.underlying186 Tryz.sizeOf184 rfl rfl ⟨by omega, by omega⟩ rfl ?_
    exact WL.q
   refine DQ.done (fun hd_6 => ?_)
   refine DL.step [(109, _)] rfl ⟨rfl, trivial⟩ rfl (fun wq_16 kq_16 => ?_)
   replace hs := hs.pure kq_16
   replace h7 := h7.pure kq_16
   replace hw := hw.pure kq_16
   replace hd_6 := hd_6.pure kq_16
   refine WL.qb Tryz.isAgg184 hs rfl (map_at _ f1) rfl (WL.nil ?_)
   refine WX.one ⟨hd_6, ?_⟩
   refine DL.step [(110, _), (113, _)] rfl ⟨rfl, rfl, trivial⟩ rfl (fun wq_17 kq_17 => ?_)
   replace hs := hs.pure kq_17
   replace h7 := h7.pure kq_17
   replace hw := hw.pure kq_17
   replace hd_6 := hd_6.pure kq_17
   refine WL.num rfl rfl (n_add32 _ _ _ _) rfl (WL.nil ?_)
   refine WX.one ⟨hd_6, ?_⟩
   refine DL.step [(116, _), (114, _)] rfl ⟨rfl, rfl, trivial⟩ rfl (fun wq_18 kq_18 => ?_)
   replace hs := hs.pure kq_18
   replace h7 := h7.pure kq_18
   replace hw := hw.pure kq_18
   replace hd_6 := hd_6.pure kq_18
   refine WL.store Tryz.sizeOf184 hs rfl rfl rfl (by simp; omega) ?_
   intro w_19 hs_19 hn_19 k_19
   replace h7 := h7.chg k_19 (by intro h1; have h2 : _ = _ := h1; exfalso; omega)
   replace hw := hw.chg k_19 (by intro x h1 h2; exact h2)
   replace hd_6 := hd_6.chg k_19 (by intro x h1 h2; exact h2)
   replace hs := hn_19
   refine WL.nil (WX.qk (v := undef) ⟨hd_6, ?_⟩)
   refine DL.done (fun we_20 ke_20 => ?_)
   replace hs := hs.pure ke_20
   replace h7 := h7.pure ke_20
   replace hw := hw.pure ke_20
   refine WX.qc (WX.qa (WC.region (WL.qe rfl rfl (by omega) rfl (WL.move rfl rfl (WL.nil (?_))))))
   first
    |(refine WX.qf (t + 1) ⟨rfl, rfl, rfl, rfl, rfl, trivial⟩ ⟨by omega, hs, hk, h6, ?_, hw⟩ (by show _ - _ < _ - _; omega)
      rw [roundsN, ← hV]
      exact h7)
    |(refine WX.qf (i + 1) ⟨rfl, rfl, rfl, trivial⟩ ⟨by omega, ?_, h7, hw⟩ (by show _ - _ < _ - _; omega)
      rw [← f3, List.map_set]
      exact hs)
  ·refine WL.t (WC.seq (WC.qa rfl (WC.exit (WX.qd (WX.qd (WX.qh (WX.ql (.inr rfl) Tryz.results126 ?_)))))))
   have hi8 : i = 8 := by omega
   subst hi8
   refine ⟨_, rfl, rfl, ?_, hw⟩
   rw [mix_eq, ← hws, ← hV]
   exact hs
end Go.Proofs.YtjeldcjchipdgaaGreatDoor
namespace Go.Proofs.YtjeldcjchipdgaaGreatDoor
open Go.RowKit Go.HL
set_option maxRecDepth 100000
def comp (s : V8) (ms : List UInt8) : V8 := if 64 ≤ ms.length then comp (mix s (ms.take 64)) (ms.drop 64) else s
termination_by ms.length
decreasing_by simp; omega
theorem comp_more {s : V8} {ms : List UInt8} (h : 64 ≤ ms.length) : comp s ms = comp (mix s (ms.take 64)) (ms.drop 64) := by rw [comp, if_pos h]
theorem comp_end {s : V8} {ms : List UInt8} (h : ms.length < 64) : comp s ms = s := by rw [comp, if_neg (by omega)]
def bytes4 (x : UInt32) : List UInt8 := [(x >>> UInt32.ofNat 24).toUInt8, (x >>> UInt32.ofNat 16).toUInt8, (x >>> UInt32.ofNat 8).toUInt8, x.toUInt8]
def sumB (b : List UInt8) : List UInt8 := (comp st0 (padded b)).list.flatMap bytes4
theorem sumB_len (b : List UInt8) : (sumB b).length = 32 := by simp [sumB, V8.list, bytes4]
theorem padded_len (b : List UInt8) : (padded b).length % 64 = 0 := by
 simp [padded, be8]
 omega
set_option maxHeartbeats 1000000 in
theorem sum_calls {S : Nat → Prop} {w : World} {ao : Option Addr} {c : Nat} {b : List UInt8} (hr : RSl S w eb ao c b) (hl : b.length ≤ 140737488351232) :
 Calls Tryz.prog 113 [.slice ao b.length c].toArray w (Ret fun v w' => v = .string ⟨(sumB b).toArray⟩ ∧ Chg Nob w w') := by
 replace hr := hr.old
 have hw := Chg.refl Nob w
 refine Calls.of_WC Tryz.func113 rfl Tryz.ntmps113 (by simp) ?_
 refine WC.sr (WL.assign rfl rfl (WL.t (WC.sr (WL.call eg_123 rfl rfl (begin_calls _) ?_))))
 rintro v w1 ⟨rfl, k⟩
 rw [V8.cells_eq]
 have zs_k := k.size
 replace hr := hr.pure k
 replace hw := hw.pure k
 refine WL.call eg_124 rfl rfl (rounds_calls _) ?_
 rintro v w1 ⟨rfl, k⟩
 have zs_k := k.size
 replace hr := hr.pure k
 replace hw := hw.pure k
 refine WL.alloc Tryz.zeroValue186 rfl ?_
 intro g_1 w_1 hge_1 hlt_1 hb_1 k_1
 replace hr := hr.pure k_1
 replace hw := hw.pure k_1
 refine WL.alloc Tryz.zeroValue188 rfl ?_
 intro g_2 w_2 hge_2 hlt_2 hb_2 k_2
 replace hr := hr.pure k_2
 replace hw := hw.pure k_2
 replace hb_1 := hb_1.pure k_2
 refine WL.ql Tryz.sizeOf186 hb_1 rfl rfl (by rfl) (by intro u hu; obtain ⟨x, _, rfl⟩ := List.mem_map.1 hu; rfl) (by exact Nat.le_of_ble_eq_true rfl) rfl ?_
 intro w_3 hs_3 hn_3 k_3
 replace hr := hr.chg k_3 (by intro b h1 h2 h3; have h4 : _ = _ := h3; (try dsimp only at h2); exfalso; omega)
 replace hw := hw.chg k_3 (by intro x h1 h2; have h3 : _ = _ := h2; exfalso; omega)
 replace hb_2 := hb_2.chg k_3 (by intro h1; have h2 : _ = _ := h1; exfalso; omega)
 replace hb_1 := hn_3
 refine WL.ql Tryz.sizeOf188 hb_2 rfl rfl (by rfl) (by intro u hu; obtain ⟨x, _, rfl⟩ := List.mem_map.1 hu; rfl) (by exact Nat.le_of_ble_eq_true rfl) rfl ?_
 intro w_4 hs_4 hn_4 k_4
 replace hr := hr.chg k_4 (by intro b h1 h2 h3; have h4 : _ = _ := h3; (try dsimp only at h2); exfalso; omega)
 replace hw := hw.chg k_4 (by intro x h1 h2; have h3 : _ = _ := h2; exfalso; omega)
 replace hb_1 := hb_1.chg k_4 (by intro h1; have h2 : _ = _ := h1; exfalso; omega)
 replace hb_2 := hn_4
 refine WL.t (WC.seq (WC.sr (WL.move rfl rfl (?_))))
 have hr2 := hr.old
 refine WL.call eg_125 rfl rfl (pad_calls hr2 hl) ?_
 rintro v w1 ⟨⟨a1, c1, rfl, hq⟩, k⟩
 replace hw := hw.pure k
 replace hb_1 := hb_1.pure k
 replace hb_2 := hb_2.pure k
 refine WL.assign rfl rfl (WL.t (WC.block (?_)))
 have e6 : ∀ zs : List Value, zs.length = 64 → List.take 0 zs ++ List.map v32 K256 ++ List.drop (0 + (List.map v32 K256).length) zs = List.map v32 K256 := by
  intro zs hz
  rw [List.drop_eq_nil_of_le (by simp [K256]; omega)]
  simp
 rw [e6 _ rfl] at hb_2
 have hm : RSl (fun x => g_1 < x ∧ g_2 < x) _ eb a1 c1 (padded b) := hq.rsl.mono (fun x h => by constructor <;> omega)
 refine WC.loop (σ := V8 × List UInt8 × Option Addr × Nat) (fun q => [(3, .pointer (some ⟨g_1, 0, none⟩)), (4, .pointer (some ⟨g_2, 0, none⟩)), (5, .slice q.2.2.1 q.2.1.length q.2.2.2)])
  (fun q w' => comp q.1 q.2.1 = comp st0 (padded b) ∧ q.2.1.length % 64 = 0 ∧ q.2.1.length ≤ 140737488355328 ∧ Blk w' g_1 186 q.1.cells ∧ Blk w' g_2 188 (K256.map v32) ∧ RSl (fun x => g_1 < x ∧ g_2 < x) w' eb q.2.2.1 q.2.2.2 q.2.1 ∧ Chg Nob w w') (fun q => q.2.1.length) (st0, padded b, a1, c1) ⟨rfl, rfl, rfl, trivial⟩ ⟨rfl, padded_len b, by simp [padded, be8]; omega, hb_1, hb_2, hm, hw⟩ ?_
 clear hr hw hq hm hb_1 hb_2
 rintro ⟨s, ms, am, cm⟩ w9 ⟨hcm, hm64, hmle, hb1, hb2, hm, hw⟩
 dsimp only at hcm hm64 hmle hb1 hb2 hm hw ⊢
 refine WC.seq (WC.sr (WL.move rfl rfl (WL.len Tryz.underlying51 rfl rfl (WL.qn rfl rfl rfl (fun h15 => ?_) (fun h15 => ?_)))))
 ·refine WL.t (WC.qb rfl (WC.skip (WX.qa (WC.seq (WC.block (WC.region (WL.move rfl rfl (?_))))))))
  refine WL.slice (l := 0) (h := 64) (k := .i64) Tryz.underlying51 Tryz.sizeOf5 hm rfl (.inr ⟨rfl, rfl⟩) (.inl rfl) (by constructor <;> omega) rfl ?_
  intro a_hc c_hc hc n_hc
  rw [List.drop_zero] at hc ⊢
  refine WL.call eg_126 rfl rfl (mix_calls hb1 hb2 hc (by simp; omega) (by omega)) ?_
  rintro v w1 ⟨rfl, hb1', k⟩
  replace hb2 := hb2.chg k (by intro h1; have h2 : _ = _ := h1; exfalso; omega)
  replace hm := hm.chg k (by intro b h1 h2 h3; have h4 : _ = _ := h3; (try dsimp only at h2); exfalso; omega)
  replace hw := hw.chg k (by intro x h1 h2; have h3 : _ = _ := h2; exfalso; omega)
  replace hb1 := hb1'
  refine WL.nil (WX.qc (WX.qa (WC.region (WL.move rfl rfl (?_)))))
  refine WL.slice (l := 64) (h := ms.length) (j := .i64) Tryz.underlying51 Tryz.sizeOf5 hm rfl (.inl rfl) (.inr ⟨rfl, rfl⟩) (by constructor <;> omega) rfl ?_
  intro a_hm2 c_hm2 hm2 n_hm2
  refine WL.assign rfl rfl (WL.nil (?_))
  first
   |(rw [List.take_length] at hm2 ⊢
     have hml : 64 ≤ ms.length := by omega
     refine WX.qf (mix s (ms.take 64), ms.drop 64, a_hm2, c_hm2) ⟨rfl, rfl, rfl, trivial⟩ ⟨by rw [← hcm, comp_more hml], by simp; omega, by simp; omega, hb1, hb2, hm2, hw⟩ (by show (ms.drop 64).length < ms.length; simp; omega))
   |(have e1 : (s.list.take (i + 1)).flatMap bytes4 = (s.list.take i).flatMap bytes4 ++ bytes4 (s.list.getD i 0) := by
      rw [List.take_add_one, fv, List.flatMap_append]
      simp
     refine WX.qf (i + 1, a_hq2, c_hq2) ⟨rfl, rfl, ?_, trivial⟩ ⟨by dsimp only; omega, ?_, hw⟩ (by show _ - _ < _ - _; omega)
     ·dsimp only; rw [e1]; rfl
     ·dsimp only; rw [e1]; exact hq2)
 ·refine WL.t (WC.qa rfl (WC.exit (WX.qd (WX.qd (WX.qh (WX.qa (WC.sr (?_))))))))
  have zw9 := hw.size
  refine WL.make (e := eb) (0 : UInt8) 0 32 Tryz.underlying51 info_5 rfl rfl rfl ⟨rfl, rfl, by decide⟩ (by decide) rfl ?_
  intro gq wq hq kq zq eq_
  rw [show List.replicate 0 (0 : UInt8) = [] from rfl] at hq ⊢
  replace hb1 := hb1.pure kq
  replace hb2 := hb2.pure kq
  replace hm := hm.pure kq
  replace hw := hw.pure kq
  refine WL.assign rfl rfl (WL.t (WC.seq (WC.sr (WL.qz Tryz.isAgg186 Tryz.sizeOf186 hb1 rfl (by rfl) rfl (WL.move rfl rfl (?_))))))
  refine WL.t (WC.block (?_))
  have hs0 : s = comp st0 (padded b) := by rw [← hcm, comp_end (by omega)]
  have hq0 : Row (w.heap.size ≤ ·) wq 5 eb (some ⟨gq, 0, none⟩) 32 ([] : List UInt8) := hq.mono (fun b h => by omega)
  refine WC.loop (σ := Nat × Option Addr × Nat) (fun q => [(22, .agg s.cells.toArray), (23, vi q.1), (6, .slice q.2.1 ((s.list.take q.1).flatMap bytes4).length q.2.2)])
   (fun q w' => q.1 ≤ 8 ∧ Row (w.heap.size ≤ ·) w' 5 eb q.2.1 q.2.2 ((s.list.take q.1).flatMap bytes4) ∧ Chg Nob w w') (fun q => 8 - q.1) (0, some ⟨gq, 0, none⟩, 32) ⟨rfl, rfl, rfl, trivial⟩ ⟨by simp, by simpa using hq0, hw⟩ ?_
  clear hm hb1 hb2 hq hw hq0
  rintro ⟨i, ai, ci⟩ w8 ⟨hi, hq, hw⟩
  dsimp only at hi hq hw ⊢
  have zw := hw.size
  have hlen : ((s.list.take i).flatMap bytes4).length = 4 * i := by
   have h9 : i = 0 ∨ i = 1 ∨ i = 2 ∨ i = 3 ∨ i = 4 ∨ i = 5 ∨ i = 6 ∨ i = 7 ∨ i = 8 := by omega
   rcases h9 with rfl | rfl | rfl | rfl | rfl | rfl | rfl | rfl | rfl <;> rfl
  refine WC.sr (WL.qh rfl rfl rfl (fun h24 => ?_) (fun h24 => ?_))
  ·refine WL.t (WC.seq (WC.qb rfl (WC.skip (WX.qa (WC.seq (WC.block (WC.sr (?_))))))))
   have fv := getD_at (xs := s.list) (i := i) (by show i < 8; omega)
   refine WL.indexV i Tryz.underlying186 Tryz.sizeOf184 Tryz.isAgg184 rfl rfl ⟨rfl, by omega⟩ (map_at v32 fv) rfl ?_
   refine WL.assign rfl rfl (WL.t (WC.region (WL.move rfl rfl (WL.move rfl rfl (WL.num rfl rfl (n_shr32 _ _ _ _ 24 (by decide)) rfl (WL.c_u32_u8 Tryz.underlying184 Tryz.underlying5 rfl rfl (?_)))))))
   refine WL.move rfl rfl (WL.num rfl rfl (n_shr32 _ _ _ _ 16 (by decide)) rfl (WL.c_u32_u8 Tryz.underlying184 Tryz.underlying5 rfl rfl (WL.move rfl rfl (WL.num rfl rfl (n_shr32 _ _ _ _ 8 (by decide)) rfl (WL.c_u32_u8 Tryz.underlying184 Tryz.underlying5 rfl rfl (WL.move rfl rfl (WL.c_u32_u8 Tryz.underlying184 Tryz.underlying5 rfl rfl (?_))))))))
   refine WL.build (e := eb) (bytes4 (s.list.getD i 0)) Tryz.underlying51 Tryz.sizeOf5 Tryz.zeroValue5 rfl rfl rfl (by simp [Value.cells] <;> rfl) (by decide) rfl ?_
   intro a_hn w_hn hn l_hn z_hn k_hn
   replace hq := hq.pure k_hn
   replace hw := hw.pure k_hn
   refine WL.append (e := eb) info_5 rfl Tryz.underlying51 rfl rfl hq (hn.rsl.src Tryz.underlying51) (by (try simp only [List.length_append, List.length_cons, List.length_nil] at *); omega) (by intro b hb; first | (apply hS; omega) | ((try dsimp only); omega)) rfl ?_
   intro a_hq2 c_hq2 w_hq2 hq2 g_hq2 n_hq2
   replace hw := hw.chg g_hq2.chg (by intros; exfalso; (try dsimp only at *); omega)
   refine WL.assign rfl rfl (WL.nil (WX.qc (WX.qa (WC.region (WL.qe rfl rfl (by omega) rfl (WL.move rfl rfl (WL.nil (?_))))))))
   first
    |(rw [List.take_length] at hm2 ⊢
      have hml : 64 ≤ ms.length := by omega
      refine WX.qf (mix s (ms.take 64), ms.drop 64, a_hm2, c_hm2) ⟨rfl, rfl, rfl, trivial⟩ ⟨by rw [← hcm, comp_more hml], by simp; omega, by simp; omega, hb1, hb2, hm2, hw⟩ (by show (ms.drop 64).length < ms.length; simp; omega))
    |(have e1 : (s.list.take (i + 1)).flatMap bytes4 = (s.list.take i).flatMap bytes4 ++ bytes4 (s.list.getD i 0) := by
       rw [List.take_add_one, fv, List.flatMap_append]
       simp
      refine WX.qf (i + 1, a_hq2, c_hq2) ⟨rfl, rfl, ?_, trivial⟩ ⟨by dsimp only; omega, ?_, hw⟩ (by show _ - _ < _ - _; omega)
      ·dsimp only; rw [e1]; rfl
      ·dsimp only; rw [e1]; exact hq2)
  ·refine WL.t (WC.seq (WC.qa rfl (WC.exit (WX.qd (WX.qd (WX.qh (WX.qa (WC.sr (WL.move rfl rfl (WL.qp Tryz.underlying51 Tryz.underlying5 Tryz.underlying9 hq.rsl rfl rfl (WL.assign rfl rfl (WL.t (WC.ret (WX.qg (.inl rfl) Tryz.results113 rfl ?_))))))))))))))
   have h8 : i = 8 := by omega
   subst h8
   rw [hs0]
   exact ⟨_, rfl, rfl, hw⟩
end Go.Proofs.YtjeldcjchipdgaaGreatDoor
namespace Go.Proofs.YtjeldcjchipdgaaGreatDoor
open Go.RowKit Go.HL
set_option maxRecDepth 100000
theorem sum_calls' {S : Nat → Prop} {w : World} {ao : Option Addr} {c : Nat} {b : List UInt8} (hr : RSl S w eb ao c b) (hl : b.length ≤ 4000) :
 Calls Tryz.prog 113 [.slice ao b.length c].toArray w (Ret fun v w' => v = .string ⟨(sumB b).toArray⟩ ∧ Chg Nob w w') := sum_calls hr (by omega)
theorem seal_calls {S : Nat → Prop} {w : World} {ao : Option Addr} {c : Nat} {b : List UInt8} (hr : RSl S w eb ao c b) (hl : b.length ≤ 4000) :
 Calls Tryz.prog 95 [.slice ao b.length c].toArray w (Ret fun v w' => (∃ (ao' : Option Addr) (c' : Nat), v = .slice ao' (b ++ sumB b).length c' ∧ Row (w.heap.size ≤ ·) w' 5 eb ao' c' (b ++ sumB b)) ∧ Chg Nob w w') := by
 replace hr := hr.old
 have hw := Chg.refl Nob w
 have hsl := sumB_len b
 refine Calls.of_WC Tryz.func95 rfl Tryz.ntmps95 (by simp) ?_
 refine WC.sr (WL.assign rfl rfl (WL.t (WC.sr (WL.move rfl rfl (WL.call eg_112 rfl rfl (clone_calls hr (by omega)) ?_)))))
 rintro v w1 ⟨⟨a1, c1, rfl, hq⟩, k⟩
 have zs_k := k.size
 replace hr := hr.pure k
 replace hw := hw.pure k
 refine WL.move rfl rfl (?_)
 have hr2 := hr.old
 refine WL.call eg_113 rfl rfl (sum_calls' hr2 hl) ?_
 rintro v w2 ⟨rfl, k⟩
 have zs_k := k.size
 replace hw := hw.pure k
 replace hq := hq.pure k
 refine WL.append (e := eb) info_5 rfl Tryz.underlying51 rfl rfl hq (src_string _ Tryz.underlying9) (by (try simp only [List.length_append, List.length_cons, List.length_nil] at *); omega) (by intro b hb; first | (apply hS; omega) | ((try dsimp only); omega)) rfl ?_
 intro a_hq2 c_hq2 w_hq2 hq2 g_hq2 n_hq2
 replace hw := hw.chg g_hq2.chg (by intros; exfalso; (try dsimp only at *); omega)
 refine WL.assign rfl rfl (WL.t (WC.ret (WX.qg (.inl rfl) Tryz.results95 rfl ?_)))
 exact ⟨_, rfl, ⟨_, _, rfl, hq2⟩, hw⟩
def openR (b : List UInt8) : List UInt8 × Int := if 32 ≤ b.length ∧ sumB (b.take (b.length - 32)) = b.drop (b.length - 32) then (b.take (b.length - 32), 0) else ([], 2)
theorem open_bad {S : Nat → Prop} {w : World} {ao : Option Addr} {c : Nat} {b : List UInt8} (hr : RSl S w eb ao c b) (hl : b.length < 32) :
 Calls Tryz.prog 117 [.slice ao b.length c].toArray w (Ret fun v w' => (∃ (ao' : Option Addr) (c' : Nat), v = .tuple #[.slice ao' (openR b).1.length c', vi (openR b).2] ∧ Row (w.heap.size ≤ ·) w' 5 eb ao' c' (openR b).1) ∧ Chg Nob w w') := by
 have hw := Chg.refl Nob w
 refine Calls.of_WC Tryz.func117 rfl Tryz.ntmps117 (by simp) ?_
 refine WC.sr (WL.assign rfl rfl (WL.assign rfl rfl (WL.t (WC.sr (WL.move rfl rfl (WL.len Tryz.underlying51 rfl rfl (WL.qj rfl rfl (by omega) rfl (WL.assign rfl rfl (WL.t (WC.seq (WC.seq (?_))))))))))))
 refine WC.qc (Nob) [0, 1, 2, 3, 4, 5, 6, 7, 8, 9, 10, 11, 12] [] mixed rfl rfl (fun wd_1 kd_1 zd_1 => ?_)
 replace hw := hw.pure kd_1
 apply DQ.step [(4, _)] rfl ⟨rfl, trivial⟩ rfl (fun _ _ => WL.move rfl rfl  WL.q)
 apply DQ.step [(8, _)] rfl ⟨rfl, trivial⟩ rfl
 ·intro wq_3 kq_3
  refine WL.lss rfl rfl rfl ?_
  rw [show decide ((b.length : Int) - 32 < 0) = true from decide_eq_true (by omega)]
  exact WL.q
 apply DQ.step [(9, _)] rfl ⟨rfl, trivial⟩ rfl (fun _ _ => WL.move rfl rfl  WL.q)
 apply DQ.step [(0, _), (10, _)] rfl ⟨rfl, rfl, trivial⟩ rfl
 ·intro wq_5 kq_5
  refine WL.pass rfl rfl rfl rfl (WL.nil (WX.one ⟨rfl, by exact Chg.refl _ _⟩))
 apply DQ.step [(4, _), (10, _)] rfl ⟨rfl, rfl, trivial⟩ rfl
 ·intro wq_6 kq_6
  refine WL.pass rfl rfl rfl rfl (WL.nil (WX.one ⟨rfl, by exact Chg.refl _ _⟩))
 apply DQ.step [(11, _), (12, _), (10, _)] rfl ⟨rfl, rfl, rfl, trivial⟩ rfl
 ·intro wq_7 kq_7
  refine WL.pass rfl rfl rfl rfl (WL.nil (WX.one ⟨rfl, by exact Chg.refl _ _⟩))
 apply DQ.step [(13, _), (10, _)] rfl ⟨rfl, rfl, trivial⟩ rfl
 ·intro wq_8 kq_8
  refine WL.pass rfl rfl rfl rfl (WL.nil (WX.one ⟨rfl, by exact Chg.refl _ _⟩))
 apply DQ.step [(0, _), (10, _)] rfl ⟨rfl, rfl, trivial⟩ rfl
 ·intro wq_9 kq_9
  refine WL.pass rfl rfl rfl rfl (WL.nil (WX.one ⟨rfl, by exact Chg.refl _ _⟩))
 apply DQ.step [(4, _), (10, _)] rfl ⟨rfl, rfl, trivial⟩ rfl
 ·intro wq_10 kq_10
  refine WL.pass rfl rfl rfl rfl (WL.nil (WX.one ⟨rfl, by exact Chg.refl _ _⟩))
 apply DQ.step [(15, _), (16, _), (10, _)] rfl ⟨rfl, rfl, rfl, trivial⟩ rfl
 ·intro wq_11 kq_11
  refine WL.pass rfl rfl rfl rfl (WL.nil (WX.one ⟨rfl, by exact Chg.refl _ _⟩))
 apply DQ.step [(17, _), (10, _)] rfl ⟨rfl, rfl, trivial⟩ rfl
 ·intro wq_12 kq_12
  refine WL.pass rfl rfl rfl rfl (WL.nil (WX.one ⟨rfl, by exact Chg.refl _ _⟩))
 apply DQ.step [(14, _), (18, _), (10, _)] rfl ⟨rfl, rfl, rfl, trivial⟩ rfl
 ·intro wq_13 kq_13
  refine WL.pass rfl rfl rfl rfl (WL.nil (WX.one ⟨rfl, by exact Chg.refl _ _⟩))
 apply DQ.step [(10, _), (19, _)] rfl ⟨rfl, rfl, trivial⟩ rfl (fun _ _ => WL.qd rfl rfl rfl  WL.q)
 refine DQ.done (fun _ => ?_)
 refine DL.done (fun we_15 ke_15 => ?_)
 replace hw := hw.pure ke_15
 refine WX.qa (WC.qb rfl (WC.sr (WL.assign rfl rfl (WL.assign rfl rfl (WL.t (WC.ret (WX.qb (WX.qi (.inl rfl) Tryz.results117 rfl rfl ?_))))))))
 rw [openR, if_neg (by omega)]
 exact ⟨_, rfl, ⟨none, 0, rfl, Row.nil _ _ _ _⟩, hw⟩
theorem open_good {S : Nat → Prop} {w : World} {ao : Option Addr} {c : Nat} {b : List UInt8} (hr : RSl S w eb ao c b) (n : Nat) (hn : b.length = n + 32) (hl : b.length ≤ 4000) :
 Calls Tryz.prog 117 [.slice ao b.length c].toArray w (Ret fun v w' => (∃ (ao' : Option Addr) (c' : Nat), v = .tuple #[.slice ao' (openR b).1.length c', vi (openR b).2] ∧ Row (w.heap.size ≤ ·) w' 5 eb ao' c' (openR b).1) ∧ Chg Nob w w') := by
 replace hr := hr.old
 have hw := Chg.refl Nob w
 have hc1 := hr.cut 0 n ⟨by omega, by omega⟩
 have hc2 := hr.cut n b.length ⟨by omega, by omega⟩
 have e1 : (b.take n).drop 0 = b.take n := by simp
 have e2 : (b.take b.length).drop n = b.drop n := by simp
 have e3 : b.length - 32 = n := by omega
 refine Calls.of_WC Tryz.func117 rfl Tryz.ntmps117 (by simp) ?_
 refine WC.sr (WL.assign rfl rfl (WL.assign rfl rfl (WL.t (WC.sr (WL.move rfl rfl (WL.len Tryz.underlying51 rfl rfl (?_)))))))
 refine WL.qj rfl rfl (by constructor <;> omega) rfl ?_
 rw [show ((b.length : Int) - 32) = (n : Int) from by omega]
 refine WL.assign rfl rfl (WL.t (WC.seq (WC.seq (WC.qc (Nob) [0, 1, 2, 3, 4, 5, 6, 7, 8, 9, 10, 11, 12] [] mixed rfl rfl (fun wd_1 kd_1 zd_1 => ?_)))))
 replace hr := hr.pure kd_1
 replace hc1 := hc1.pure kd_1
 replace hc2 := hc2.pure kd_1
 replace hw := hw.pure kd_1
 apply DQ.step [(4, _)] rfl ⟨rfl, trivial⟩ rfl (fun _ _ => WL.move rfl rfl  WL.q)
 apply DQ.step [(8, _)] rfl ⟨rfl, trivial⟩ rfl
 ·intro wq_3 kq_3
  refine WL.lss rfl rfl rfl ?_
  rw [show decide ((n : Int) < 0) = false from decide_eq_false (by omega)]
  exact WL.q
 apply DQ.step [(9, _)] rfl ⟨rfl, trivial⟩ rfl (fun _ _ => WL.move rfl rfl  WL.q)
 apply DQ.step [(0, _), (10, _)] rfl ⟨rfl, rfl, trivial⟩ rfl (fun _ _ => WL.qa rfl rfl rfl (WL.move rfl rfl  WL.q))
 apply DQ.step [(4, _), (10, _)] rfl ⟨rfl, rfl, trivial⟩ rfl (fun _ _ => WL.qa rfl rfl rfl (WL.move rfl rfl  WL.q))
 apply DQ.step [(11, _), (12, _), (10, _)] rfl ⟨rfl, rfl, rfl, trivial⟩ rfl
 ·intro wq_7 kq_7
  replace hr := hr.pure kq_7
  refine WL.qa rfl rfl rfl (?_)
  refine WL.sliceC (l := 0) (h := n) (k := .i64) Tryz.underlying51 Tryz.sizeOf5 hr rfl (.inr ⟨rfl, rfl⟩) (.inl rfl) (by constructor <;> omega) rfl ?_
  exact WL.q
 apply DQ.step [(13, _), (10, _)] rfl ⟨rfl, rfl, trivial⟩ rfl
 ·intro wq_8 kq_8
  replace hc1 := hc1.pure kq_8
  refine WL.qa rfl rfl rfl (?_)
  have hc3 := hc1.old
  refine WL.call eg_113 rfl rfl (sum_calls' hc3 (by simp; omega)) ?_
  rintro v w2 ⟨rfl, k⟩
  refine WL.nil (WX.one ⟨rfl, by assumption⟩)
 apply DQ.step [(0, _), (10, _)] rfl ⟨rfl, rfl, trivial⟩ rfl (fun _ _ => WL.qa rfl rfl rfl (WL.move rfl rfl  WL.q))
 apply DQ.step [(4, _), (10, _)] rfl ⟨rfl, rfl, trivial⟩ rfl (fun _ _ => WL.qa rfl rfl rfl (WL.move rfl rfl  WL.q))
 apply DQ.step [(15, _), (16, _), (10, _)] rfl ⟨rfl, rfl, rfl, trivial⟩ rfl
 ·intro wq_11 kq_11
  replace hr := hr.pure kq_11
  refine WL.qa rfl rfl rfl (?_)
  refine WL.sliceC (l := n) (h := b.length) (j := .i64) Tryz.underlying51 Tryz.sizeOf5 hr rfl (.inl rfl) (.inr ⟨rfl, rfl⟩) (by constructor <;> omega) rfl ?_
  exact WL.q
 apply DQ.step [(17, _), (10, _)] rfl ⟨rfl, rfl, trivial⟩ rfl
 ·intro wq_12 kq_12
  replace hc2 := hc2.pure kq_12
  refine WL.qa rfl rfl rfl (WL.qp Tryz.underlying51 Tryz.underlying5 Tryz.underlying9 hc2 rfl rfl ?_)
  exact WL.q
 apply DQ.split (E' := [(14, _), (18, _), (10, _)])
 case ho => rfl
 case hs => exact ⟨rfl, rfl, rfl, trivial⟩
 case hk => rfl
 case h1 =>
  intro wq_13 kq_13
  refine WL.qa rfl rfl rfl (WL.sneq rfl rfl rfl ?_)
  exact WL.q
 case ht =>
  intro h19
  replace h19 := of_decide_eq_true h19
  apply DQ.step [(10, _), (19, _)] rfl ⟨rfl, rfl, trivial⟩ rfl (fun _ _ => WL.qc rfl rfl rfl  WL.q)
  refine DQ.done (fun _ => ?_)
  refine DL.done (fun we_15 ke_15 => ?_)
  replace hw := hw.pure ke_15
  refine WX.qa (WC.qb rfl (WC.sr (WL.assign rfl rfl (WL.assign rfl rfl (WL.t (WC.ret (WX.qb (WX.qi (.inl rfl) Tryz.results117 rfl rfl ?_))))))))
  simp only [openR, e3]
  first
   |(have h2 : sumB (b.take n) = b.drop n := by
      have h3 := congrArg (fun s : ByteArray => s.data.toList) (Classical.not_not.1 h19)
      rw [e1, e2] at h3
      exact h3
     rw [e1] at hq
     rw [if_pos ⟨by omega, h2⟩]
     exact ⟨_, rfl, ⟨_, _, by rw [e1], hq.mono (fun x hx => by omega)⟩, hw⟩)
   |(have h2 : ¬ sumB (b.take n) = b.drop n := fun h => h19 (by rw [e1, e2, h])
     rw [if_neg (fun h => h2 h.2)]
     exact ⟨_, rfl, ⟨none, 0, rfl, Row.nil _ _ _ _⟩, hw⟩)
 case hf =>
  intro h19
  replace h19 := of_decide_eq_false h19
  apply DQ.step [(10, _), (19, _)] rfl ⟨rfl, rfl, trivial⟩ rfl (fun _ _ => WL.qc rfl rfl rfl  WL.q)
  refine DQ.done (fun _ => ?_)
  refine DL.done (fun we_15 ke_15 => ?_)
  have zs_ke_15 := ke_15.size
  replace hr := hr.pure ke_15
  replace hc1 := hc1.pure ke_15
  replace hc2 := hc2.pure ke_15
  replace hw := hw.pure ke_15
  refine WX.qa (WC.qa rfl (WC.skip (WX.qa (WC.sr (WL.move rfl rfl (WL.move rfl rfl (?_)))))))
  refine WL.slice (l := 0) (h := n) (k := .i64) Tryz.underlying51 Tryz.sizeOf5 hr rfl (.inr ⟨rfl, rfl⟩) (.inl rfl) (by constructor <;> omega) rfl ?_
  intro a_hx c_hx hx n_hx
  have hx2 := hx.old
  refine WL.call eg_112 rfl rfl (clone_calls hx2 (by simp; omega)) ?_
  rintro v w1 ⟨⟨a1, c1, rfl, hq⟩, k⟩
  have zs_k := k.size
  replace hr := hr.pure k
  replace hc1 := hc1.pure k
  replace hc2 := hc2.pure k
  replace hw := hw.pure k
  replace hx := hx.pure k
  refine WL.assign rfl rfl (WL.assign rfl rfl (WL.t (WC.ret (WX.qi (.inl rfl) Tryz.results117 rfl rfl ?_))))
  simp only [openR, e3]
  first
   |(have h2 : sumB (b.take n) = b.drop n := by
      have h3 := congrArg (fun s : ByteArray => s.data.toList) (Classical.not_not.1 h19)
      rw [e1, e2] at h3
      exact h3
     rw [e1] at hq
     rw [if_pos ⟨by omega, h2⟩]
     exact ⟨_, rfl, ⟨_, _, by rw [e1], hq.mono (fun x hx => by omega)⟩, hw⟩)
   |(have h2 : ¬ sumB (b.take n) = b.drop n := fun h => h19 (by rw [e1, e2, h])
     rw [if_neg (fun h => h2 h.2)]
     exact ⟨_, rfl, ⟨none, 0, rfl, Row.nil _ _ _ _⟩, hw⟩)
theorem open_calls {S : Nat → Prop} {w : World} {ao : Option Addr} {c : Nat} {b : List UInt8} (hr : RSl S w eb ao c b) (hl : b.length ≤ 4000) :
 Calls Tryz.prog 117 [.slice ao b.length c].toArray w (Ret fun v w' => (∃ (ao' : Option Addr) (c' : Nat), v = .tuple #[.slice ao' (openR b).1.length c', vi (openR b).2] ∧ Row (w.heap.size ≤ ·) w' 5 eb ao' c' (openR b).1) ∧ Chg Nob w w') := by
 rcases Nat.lt_or_ge b.length 32 with h | h
 ·exact open_bad hr h
 ·exact open_good hr (b.length - 32) (by omega) hl
end Go.Proofs.YtjeldcjchipdgaaGreatDoor
namespace Go.Proofs.YtjeldcjchipdgaaGreatDoor
open Go.RowKit Go.HL
set_option maxRecDepth 100000
theorem m32 (y : UInt64) : y &&& 4294967295 = y.toUInt32.toUInt64 := by
 apply UInt64.toNat_inj.1
 rw [UInt64.toNat_and]
 show y.toNat &&& (2 ^ 32 - 1) = _
 rw [Nat.and_two_pow_sub_one_eq_mod]
 simp
theorem up_shl (x : UInt32) {k : Nat} (h : k < 32) : (x.toUInt64 <<< UInt64.ofNat k).toUInt32 = x <<< UInt32.ofNat k := by
 apply UInt32.toNat_inj.1
 have e1 : k % 18446744073709551616 % 64 = k := by omega
 have e2 : k % 4294967296 % 32 = k := by omega
 simp [UInt64.toNat_shiftLeft, UInt32.toNat_shiftLeft, e1, e2]
theorem up_shr (x : UInt32) {k : Nat} (h : k < 32) : (x.toUInt64 >>> UInt64.ofNat k).toUInt32 = x >>> UInt32.ofNat k := by
 apply UInt32.toNat_inj.1
 have e1 : k % 18446744073709551616 % 64 = k := by omega
 have e2 : k % 4294967296 % 32 = k := by omega
 have h3 : x.toNat >>> k < 4294967296 := Nat.lt_of_le_of_lt (by rw [Nat.shiftRight_eq_div_pow]; exact Nat.div_le_self _ _) x.toNat_lt
 simp [UInt64.toNat_shiftRight, UInt32.toNat_shiftRight, e1, e2, Nat.mod_eq_of_lt h3]
theorem up_down (x : UInt32) : x.toUInt64.toUInt32 = x := by
 apply UInt32.toNat_inj.1
 simp
theorem ror_up (x : UInt32) {n : Nat} (h : 1 ≤ n ∧ n ≤ 31) : ((x.toUInt64 >>> UInt64.ofNat n) ||| (x.toUInt64 <<< UInt64.ofNat (32 - n))) &&& 4294967295 = (rotr x n).toUInt64 := by
 rw [m32, UInt64.toUInt32_or, up_shr x (by omega), up_shl x (by omega), UInt32.or_comm]
 rfl
theorem ror64_calls (x : UInt32) (n : Nat) (w : World) (h : 1 ≤ n ∧ n ≤ 31) : Calls Tryz.prog 103 [v64 x.toUInt64, vi (n : Int)].toArray w (Ret fun v w' => v = v64 (rotr x n).toUInt64 ∧ Chg Nob w w') := by
 have hw := Chg.refl Nob w
 have he := ror_up x h
 refine Calls.of_WC Tryz.func103 rfl Tryz.ntmps103 (by simp) ?_
 refine WC.sr (WL.assign rfl rfl (WL.t (WC.seq (WC.qc (Nob) [0, 1, 2, 3, 4, 5, 6, 7, 8, 9] [] mixed rfl rfl (fun wd_1 kd_1 zd_1 => ?_)))))
 replace hw := hw.pure kd_1
 apply DQ.step [(0, _)] rfl ⟨rfl, trivial⟩ rfl (fun _ _ => WL.move rfl rfl  WL.q)
 apply DQ.step [(1, _)] rfl ⟨rfl, trivial⟩ rfl (fun _ _ => WL.move rfl rfl  WL.q)
 apply DQ.step [(5, _), (6, _)] rfl ⟨rfl, rfl, trivial⟩ rfl
 ·intro wq_4 kq_4
  refine WL.shrv n rfl rfl ⟨rfl, by omega⟩ rfl ?_
  exact WL.q
 apply DQ.step [(0, _)] rfl ⟨rfl, trivial⟩ rfl (fun _ _ => WL.move rfl rfl  WL.q)
 apply DQ.step [(1, _)] rfl ⟨rfl, trivial⟩ rfl (fun _ _ => WL.move rfl rfl  WL.q)
 apply DQ.step [(9, _)] rfl ⟨rfl, trivial⟩ rfl (fun _ _ => WL.qj rfl rfl (by omega) rfl  WL.q)
 apply DQ.step [(8, _), (10, _)] rfl ⟨rfl, rfl, trivial⟩ rfl
 ·intro wq_8 kq_8
  refine WL.shlv (32 - n) rfl rfl ⟨by omega, by omega⟩ rfl ?_
  exact WL.q
 apply DQ.step [(7, _), (11, _)] rfl ⟨rfl, rfl, trivial⟩ rfl (fun _ _ => WL.num rfl rfl (n_or64 _ _ _ _) rfl  WL.q)
 apply DQ.step [(12, _)] rfl ⟨rfl, trivial⟩ rfl (fun _ _ => WL.num rfl rfl (n_and64 _ _ _ 4294967295) rfl  WL.q)
 apply DQ.step [(13, _)] rfl ⟨rfl, trivial⟩ rfl (fun _ _ => WL.assign rfl rfl  WL.q)
 refine DQ.done (fun _ => ?_)
 refine DL.done (fun we_12 ke_12 => ?_)
 replace hw := hw.pure ke_12
 refine WX.qa (WC.ret (WX.qg (.inl rfl) Tryz.results103 rfl ?_))
 rw [← he]
 exact ⟨_, rfl, rfl, hw⟩
theorem mul8 {n : Nat} (h : n ≤ 4000) : B64 (n : Int) * 8 = UInt64.ofNat n <<< UInt64.ofNat 3 := by
 apply UInt64.toNat_inj.1
 rw [UInt64.toNat_mul, B64_nat (by omega), UInt64.toNat_shiftLeft]
 simp [Nat.shiftLeft_eq]
set_option maxHeartbeats 1000000 in
theorem message_calls (s : ByteArray) (w : World) (hl : s.size ≤ 4000) :
 Calls Tryz.prog 102 [.string s].toArray w (Ret fun v w' => (∃ (ao' : Option Addr) (c' : Nat), v = .slice ao' (padded s.data.toList).length c' ∧ Row (w.heap.size ≤ ·) w' 5 eb ao' c' (padded s.data.toList)) ∧ Chg Nob w w') := by
 have hw := Chg.refl Nob w
 have hsz : s.size = s.data.toList.length := by simp
 obtain ⟨b, eb0⟩ : ∃ b, b = s.data.toList := ⟨_, rfl⟩
 rw [← eb0] at hsz ⊢
 refine Calls.of_WC Tryz.func102 rfl Tryz.ntmps102 (by simp) ?_
 refine WC.sr (WL.assign rfl rfl (WL.t (WC.sr (WL.move rfl rfl (WL.toBytes Tryz.underlying9 Tryz.underlying51 Tryz.underlying5 rfl (by omega) rfl ?_)))))
 intro a_hq c_hq w_hq hq k_hq z_hq
 have zs_k_hq := k_hq.size
 replace hw := hw.pure k_hq
 rw [← eb0] at hq ⊢
 refine WL.build (e := eb) [128] Tryz.underlying51 Tryz.sizeOf5 Tryz.zeroValue5 rfl rfl rfl (by simp [Value.cells] <;> rfl) (by decide) rfl ?_
 intro a_hn w_hn hn l_hn z_hn k_hn
 replace hw := hw.pure k_hn
 replace hq := hq.pure k_hn
 refine WL.append (e := eb) info_5 rfl Tryz.underlying51 rfl rfl hq (hn.rsl.src Tryz.underlying51) (by (try simp only [List.length_append, List.length_cons, List.length_nil] at *); omega) (by intro b hb; first | (apply hS; omega) | ((try dsimp only); omega)) rfl ?_
 intro a_hq1 c_hq1 w_hq1 hq1 g_hq1 n_hq1
 replace hw := hw.chg g_hq1.chg (by intros; exfalso; (try dsimp only at *); omega)
 refine WL.assign rfl rfl (WL.t (WC.seq (WC.block (?_))))
 have hq1' : Row (w.heap.size ≤ ·) _ 5 eb a_hq1 c_hq1 (b ++ [128]) := hq1.mono (fun x hx => by omega)
 refine WC.loop (σ := Nat × Option Addr × Nat) (fun q => [(3, .slice q.2.1 (b ++ [128] ++ List.replicate q.1 0).length q.2.2), (0, .string s)])
  (fun q w' => q.1 ≤ (120 - (b.length + 1) % 64) % 64 ∧ Row (w.heap.size ≤ ·) w' 5 eb q.2.1 q.2.2 (b ++ [128] ++ List.replicate q.1 0) ∧ Chg Nob w w') (fun q => 64 - q.1) (0, a_hq1, c_hq1) ⟨by rw [show List.replicate 0 (0 : UInt8) = [] from rfl, List.append_nil]; rfl, rfl, trivial⟩ ⟨by simp, by simpa using hq1', hw⟩ ?_
 clear hw hn hq1 hq hq1'
 rintro ⟨j, a1, c1⟩ w2 ⟨hj, hq, hw⟩
 dsimp only at hj hq hw ⊢
 have zw := hw.size
 have hlen : (b ++ [128] ++ List.replicate j 0).length = b.length + 1 + j := by simp; omega
 refine WC.seq (WC.sr (WL.move rfl rfl (WL.len Tryz.underlying51 rfl rfl (WL.rem64i rfl rfl (by constructor <;> omega) rfl (?_)))))
 refine WL.qo rfl rfl rfl (fun h13 => ?_) (fun h13 => ?_)
 ·refine WL.t (WC.qb rfl (WC.skip (WX.qa (WC.block (WC.region (WL.move rfl rfl (?_)))))))
  refine WL.build (e := eb) [0] Tryz.underlying51 Tryz.sizeOf5 Tryz.zeroValue5 rfl rfl rfl (by simp [Value.cells] <;> rfl) (by decide) rfl ?_
  intro a_hn w_hn hn l_hn z_hn k_hn
  replace hq := hq.pure k_hn
  replace hw := hw.pure k_hn
  refine WL.append (e := eb) info_5 rfl Tryz.underlying51 rfl rfl hq (hn.rsl.src Tryz.underlying51) (by (try simp only [List.length_append, List.length_cons, List.length_nil] at *); omega) (by intro b hb; first | (apply hS; omega) | ((try dsimp only); omega)) rfl ?_
  intro a_hq2 c_hq2 w_hq2 hq2 g_hq2 n_hq2
  replace hw := hw.chg g_hq2.chg (by intros; exfalso; (try dsimp only at *); omega)
  refine WL.assign rfl rfl (WL.nil (WX.qc (?_)))
  have e1 : b ++ [128] ++ List.replicate (j + 1) 0 = b ++ [128] ++ List.replicate j 0 ++ [0] := by rw [List.replicate_succ', List.append_assoc, List.append_assoc, List.append_assoc]
  refine WX.qf (j + 1, a_hq2, c_hq2) ⟨?_, rfl, trivial⟩ ⟨by dsimp only; omega, ?_, hw⟩ (by show _ - _ < _ - _; omega)
  ·dsimp only; rw [e1]; rfl
  ·dsimp only; rw [e1]; exact hq2
 ·refine WL.t (WC.qa rfl (WC.exit (WX.qd (WX.qd (WX.qh (WX.qa (WC.sr (WL.move rfl rfl (WL.qr Tryz.underlying9 rfl rfl (WL.qt Tryz.underlying3 Tryz.underlying24 rfl rfl (WL.num rfl rfl (n_mul64 _ _ _ 8) rfl (WL.assign rfl rfl (WL.nil (WX.qa (WC.seq (WC.sr (WL.assign rfl rfl (WL.t (WC.block (?_))))))))))))))))))))
  have hz : j = (120 - (b.length + 1) % 64) % 64 := by omega
  rw [show B64 (s.size : Int) * 8 = UInt64.ofNat b.length <<< UInt64.ofNat 3 from by rw [hsz]; exact mul8 (by omega)]
  refine WC.loop (σ := Nat × Option Addr × Nat) (fun q => [(3, .slice q.2.1 (b ++ [128] ++ List.replicate j 0 ++ be8 (UInt64.ofNat b.length <<< UInt64.ofNat 3) q.1).length q.2.2), (4, v64 (UInt64.ofNat b.length <<< UInt64.ofNat 3)), (5, vi (56 - 8 * (q.1 : Int)))])
   (fun q w' => q.1 ≤ 8 ∧ Row (w.heap.size ≤ ·) w' 5 eb q.2.1 q.2.2 (b ++ [128] ++ List.replicate j 0 ++ be8 (UInt64.ofNat b.length <<< UInt64.ofNat 3) q.1) ∧ Chg Nob w w') (fun q => 8 - q.1) (0, a1, c1) ⟨by rw [show be8 (UInt64.ofNat b.length <<< UInt64.ofNat 3) 0 = [] from rfl, List.append_nil]; rfl, rfl, rfl, trivial⟩ ⟨by simp, by simpa [be8] using hq, hw⟩ ?_
  clear hw hq
  rintro ⟨i, a2, c2⟩ w3 ⟨hi, hq, hw⟩
  dsimp only at hi hq hw ⊢
  have zw3 := hw.size
  have hlen3 : (b ++ [128] ++ List.replicate j 0 ++ be8 (UInt64.ofNat b.length <<< UInt64.ofNat 3) i).length = b.length + 1 + j + i := by simp [be8]; omega
  refine WC.seq (WC.sr (WL.move rfl rfl (WL.za rfl rfl rfl (fun h22 => ?_) (fun h22 => ?_))))
  ·refine WL.t (WC.qb rfl (WC.skip (WX.qa (WC.seq (WC.block (WC.region (WL.move rfl rfl (WL.move rfl rfl (WL.move rfl rfl (WL.shrv (56 - 8 * i) rfl rfl ⟨by omega, by omega⟩ rfl ?_))))))))))
   refine WL.c_u64_u8 Tryz.underlying24 Tryz.underlying5 rfl rfl (?_)
   refine WL.build (e := eb) [((UInt64.ofNat b.length <<< UInt64.ofNat 3) >>> UInt64.ofNat (56 - 8 * i)).toUInt8] Tryz.underlying51 Tryz.sizeOf5 Tryz.zeroValue5 rfl rfl rfl (by simp [Value.cells] <;> rfl) (by decide) rfl ?_
   intro a_hn w_hn hn l_hn z_hn k_hn
   replace hq := hq.pure k_hn
   replace hw := hw.pure k_hn
   refine WL.append (e := eb) info_5 rfl Tryz.underlying51 rfl rfl hq (hn.rsl.src Tryz.underlying51) (by (try simp only [List.length_append, List.length_cons, List.length_nil] at *); omega) (by intro b hb; first | (apply hS; omega) | ((try dsimp only); omega)) rfl ?_
   intro a_hq2 c_hq2 w_hq2 hq2 g_hq2 n_hq2
   replace hw := hw.chg g_hq2.chg (by intros; exfalso; (try dsimp only at *); omega)
   refine WL.assign rfl rfl (WL.nil (WX.qc (WX.qa (WC.region (WL.move rfl rfl (WL.qj rfl rfl (by omega) rfl (WL.assign rfl rfl (?_))))))))
   refine WL.nil (?_)
   have e1 : be8 (UInt64.ofNat b.length <<< UInt64.ofNat 3) (i + 1) = be8 (UInt64.ofNat b.length <<< UInt64.ofNat 3) i ++ [((UInt64.ofNat b.length <<< UInt64.ofNat 3) >>> UInt64.ofNat (56 - 8 * i)).toUInt8] := by simp [be8, List.range_succ]
   refine WX.qf (i + 1, a_hq2, c_hq2) ⟨?_, rfl, ?_, trivial⟩ ⟨by dsimp only; omega, ?_, hw⟩ (by show _ - _ < _ - _; omega)
   ·dsimp only; rw [e1, ← List.append_assoc]; rfl
   ·dsimp only
    have e2 : 56 - 8 * ((i + 1 : Nat) : Int) = 56 - 8 * (i : Int) - 8 := by omega
    rw [e2]; rfl
   ·dsimp only; rw [e1, ← List.append_assoc]; exact hq2
  ·refine WL.t (WC.qa rfl (WC.exit (WX.qd (WX.qd (WX.qh (WX.qa (WC.sr (WL.move rfl rfl (WL.assign rfl rfl (WL.t (WC.ret (WX.qg (.inl rfl) Tryz.results102 rfl ?_))))))))))))
   have hi8 : i = 8 := by omega
   have e1 : padded b = b ++ [128] ++ List.replicate j 0 ++ be8 (UInt64.ofNat b.length <<< UInt64.ofNat 3) i := by rw [hi8, hz]; rfl
   rw [e1]
   exact ⟨_, rfl, ⟨a2, c2, rfl, hq⟩, hw⟩
def okT (out : List UInt64) (p : UInt64) (i : Nat) : Bool := (out.take i).all fun x => decide (((p % x).toNat : Int) ≠ 0)
def stepP (out : List UInt64) (p : UInt64) : List UInt64 := if okT out p out.length then out ++ [p] else out
def outAt : Nat → List UInt64
 |0 => []
 |j + 1 => stepP (outAt j) (UInt64.ofNat (2 + j))
def P64 : List UInt64 := [2, 3, 5, 7, 11, 13, 17, 19, 23, 29, 31, 37, 41, 43, 47, 53, 59, 61, 67, 71, 73, 79, 83, 89, 97, 101, 103, 107, 109, 113, 127, 131, 137, 139, 149, 151, 157, 163, 167, 173, 179, 181, 191, 193, 197, 199, 211, 223, 227, 229, 233, 239, 241, 251, 257, 263, 269, 271, 277, 281, 283, 293, 307, 311]
set_option maxRecDepth 10000 in
theorem outAt_310 : outAt 310 = P64 := by decide +kernel
theorem outAt_pre (k : Nat) : ∀ j, j + k = 310 → outAt j <+: P64 := by
 induction k with
 |zero => intro j h; rw [show j = 310 from by omega, outAt_310]; exact List.prefix_refl _
 |succ k ih =>
  intro j h
  refine List.IsPrefix.trans ?_ (ih (j + 1) (by omega))
  rw [outAt, stepP]
  split
  ·exact List.prefix_append _ _
  ·exact List.prefix_refl _
theorem outAt_pos {j : Nat} (h : j ≤ 310) : ∀ x ∈ outAt j, x.toNat ≠ 0 := by
 have h1 : ∀ x ∈ P64, x.toNat ≠ 0 := by decide +kernel
 exact fun x hx => h1 x ((outAt_pre (310 - j) j (by omega)).mem hx)
theorem outAt_len {j : Nat} (h : j ≤ 310) : (outAt j).length ≤ 64 := (outAt_pre (310 - j) j (by omega)).length_le
theorem outAt_more {j : Nat} (h : j ≤ 310) (hl : (outAt j).length < 64) : j < 310 := by
 rcases Nat.lt_or_ge j 310 with h1 | h1
 ·exact h1
 ·rw [show j = 310 from by omega, outAt_310] at hl
  exact absurd hl (by decide)
theorem outAt_end {j : Nat} (h : j ≤ 310) (hl : 64 ≤ (outAt j).length) : outAt j = P64 := (outAt_pre (310 - j) j (by omega)).eq_of_length_le hl
theorem okT_next {out : List UInt64} {p x : UInt64} {i : Nat} (h : out[i]? = some x) : okT out p (i + 1) = (okT out p i && decide (((p % x).toNat : Int) ≠ 0)) := by
 rw [okT, okT, List.take_add_one, h, List.all_append]
 simp
theorem nextP {j : Nat} (h : j ≤ 310) : UInt64.ofNat (2 + j) + 1 = UInt64.ofNat (2 + (j + 1)) := by
 apply UInt64.toNat_inj.1
 rw [UInt64.toNat_add]
 simp
 omega
set_option maxHeartbeats 1000000 in
theorem primes_calls (w : World) : Calls Tryz.prog 100 [vi 64].toArray w (Ret fun v w' => (∃ (ao' : Option Addr) (c' : Nat), v = .slice ao' P64.length c' ∧ Row (w.heap.size ≤ ·) w' 24 e64 ao' c' P64) ∧ Chg Nob w w') := by
 have hw := Chg.refl Nob w
 refine Calls.of_WC Tryz.func100 rfl Tryz.ntmps100 (by simp) ?_
 refine WC.sr (WL.assign rfl rfl (WL.t (WC.sr (WL.assign rfl rfl (WL.t (WC.seq (WC.sr (WL.assign rfl rfl (WL.t (WC.block (?_)))))))))))
 refine WC.loop (σ := Nat × Option Addr × Nat) (fun q => [(0, vi 64), (3, .slice q.2.1 (outAt q.1).length q.2.2), (4, v64 (UInt64.ofNat (2 + q.1)))])
  (fun q w' => q.1 ≤ 310 ∧ Row (w.heap.size ≤ ·) w' 24 e64 q.2.1 q.2.2 (outAt q.1) ∧ Chg Nob w w') (fun q => 400 - q.1) (0, none, 0) ⟨rfl, rfl, rfl, trivial⟩ ⟨Nat.zero_le _, Row.nil _ _ _ _, hw⟩ ?_
 clear hw
 rintro ⟨j, ao, c⟩ w8 ⟨hj, hq, hw⟩
 dsimp only at hj hq hw ⊢
 have hol := outAt_len hj
 have zw := hw.size
 refine WC.seq (WC.sr (WL.move rfl rfl (WL.len Tryz.underlying162 rfl rfl (WL.move rfl rfl (WL.qh rfl rfl rfl (fun h10 => ?_) (fun h10 => ?_))))))
 ·refine WL.t (WC.qb rfl (WC.skip (WX.qa (WC.seq (WC.block (WC.seq (WC.region (WL.assign rfl rfl (WL.t (WC.seq (WC.sr (WL.assign rfl rfl (WL.t (WC.block (?_)))))))))))))))
  have hj2 : j < 310 := outAt_more hj (by omega)
  have hpos := outAt_pos hj
  refine WC.loop (σ := Nat) (fun i => [(0, vi 64), (3, .slice ao (outAt j).length c), (4, v64 (UInt64.ofNat (2 + j))), (5, .bool (okT (outAt j) (UInt64.ofNat (2 + j)) i)), (6, vi i)])
   (fun i w' => i ≤ (outAt j).length ∧ Row (w.heap.size ≤ ·) w' 24 e64 ao c (outAt j) ∧ Chg Nob w w') (fun i => (outAt j).length - i) 0 ⟨rfl, rfl, rfl, rfl, rfl, trivial⟩ ⟨Nat.zero_le _, hq, hw⟩ ?_
  clear hq hw
  rintro i w9 ⟨hi, hq, hw⟩
  have zw9 := hw.size
  obtain ⟨ok, hok⟩ : ∃ ok, ok = okT (outAt j) (UInt64.ofNat (2 + j)) i := ⟨_, rfl⟩
  rw [← hok]
  rcases ok with _ | _
  ·refine WC.seq (WC.sr (WL.move rfl rfl (WL.move rfl rfl (WL.len Tryz.underlying162 rfl rfl (WL.qh rfl rfl rfl (fun h16 => ?_) (fun h16 => ?_))))))
   ·refine WL.t (WC.qb rfl (WC.skip (WX.qa (WC.seq (WC.block (WC.region (WL.move rfl rfl (WL.move rfl rfl (WL.pass rfl rfl rfl rfl (WL.pass rfl rfl rfl rfl (WL.pass rfl rfl rfl rfl (WL.pass rfl rfl rfl rfl (WL.pass rfl rfl rfl rfl (WL.pass rfl rfl rfl rfl (WL.pass rfl rfl rfl rfl (WL.qc rfl rfl rfl (WL.assign rfl rfl (WL.nil (WX.qc (WX.qa (WC.region (WL.move rfl rfl (WL.qe rfl rfl (by omega) rfl (WL.assign rfl rfl (WL.nil (?_))))))))))))))))))))))))))
    refine WX.qf (i + 1) ⟨rfl, rfl, rfl, ?_, rfl, trivial⟩ ⟨by omega, hq, hw⟩ (by show _ - _ < _ - _; omega)
    rw [okT_next (List.getElem?_eq_getElem (show i < (outAt j).length by omega)), ← hok, Bool.false_and]
    try rfl
   ·refine WL.t (WC.qa rfl (WC.exit (WX.qd (WX.qd (WX.qh (WX.qa (WC.sr (WL.move rfl rfl (WL.t (WC.qa rfl (WC.skip (WX.qc (WX.qa (WC.region (WL.move rfl rfl (WL.num rfl rfl (n_add64 _ _ _ 1) rfl (WL.assign rfl rfl (WL.nil (?_)))))))))))))))))))
    have e1 : outAt (j + 1) = outAt j := by
     rw [outAt, stepP, if_neg]
     rw [show (outAt j).length = i from by omega, ← hok]
     decide
    refine WX.qf (j + 1, ao, c) ⟨rfl, ?_, ?_, trivial⟩ ⟨by dsimp only; omega, ?_, hw⟩ (by show _ - _ < _ - _; omega)
    ·dsimp only; rw [e1]; rfl
    ·dsimp only; rw [← nextP hj]; rfl
    ·dsimp only; rw [e1]; exact hq
  ·refine WC.seq (WC.sr (WL.move rfl rfl (WL.move rfl rfl (WL.len Tryz.underlying162 rfl rfl (WL.qh rfl rfl rfl (fun h16 => ?_) (fun h16 => ?_))))))
   ·refine WL.t (WC.qb rfl (WC.skip (WX.qa (WC.seq (WC.block (WC.region (WL.move rfl rfl (WL.move rfl rfl (WL.qa rfl rfl rfl (WL.move rfl rfl (WL.qa rfl rfl rfl (WL.move rfl rfl (WL.qa rfl rfl rfl (WL.move rfl rfl (WL.qa rfl rfl rfl (?_))))))))))))))))
    obtain ⟨x, hx⟩ : ∃ x, (outAt j)[i]? = some x := ⟨_, List.getElem?_eq_getElem (by omega)⟩
    have hne := hpos x (List.mem_of_getElem? hx)
    refine WL.qg Tryz.underlying162 Tryz.sizeOf24 hq.rsl rfl rfl ⟨hx, rfl⟩ rfl ?_
    intro b_1 o_1 hc_1
    refine WL.qa rfl rfl rfl (WL.load Tryz.isAgg24 rfl (hc_1 0 _ rfl) rfl (WL.qa rfl rfl rfl (WL.num rfl rfl (n_rem64 _ _ _ _ hne) rfl ?_)))
    refine WL.qa rfl rfl rfl (WL.qo rfl rfl rfl (fun h27 => ?_) (fun h27 => ?_))
    ·refine WL.qd rfl rfl rfl (WL.assign rfl rfl (WL.nil (WX.qc (WX.qa (WC.region (WL.move rfl rfl (WL.qe rfl rfl (by omega) rfl (?_))))))))
     refine WL.assign rfl rfl (WL.nil (?_))
     refine WX.qf (i + 1) ⟨rfl, rfl, rfl, ?_, rfl, trivial⟩ ⟨by omega, hq, hw⟩ (by show _ - _ < _ - _; omega)
     first
      |(rw [okT_next hx, ← hok, Bool.true_and, show decide (((UInt64.ofNat (2 + j) % x).toNat : Int) ≠ 0) = true from decide_eq_true h27]; done)
      |(rw [okT_next hx, ← hok, Bool.true_and, show decide (((UInt64.ofNat (2 + j) % x).toNat : Int) ≠ 0) = true from decide_eq_true h27]; rfl)
      |(rw [okT_next hx, ← hok, Bool.true_and, show decide (((UInt64.ofNat (2 + j) % x).toNat : Int) ≠ 0) = false from decide_eq_false (fun h => h h27)]; done)
      |(rw [okT_next hx, ← hok, Bool.true_and, show decide (((UInt64.ofNat (2 + j) % x).toNat : Int) ≠ 0) = false from decide_eq_false (fun h => h h27)]; rfl)
    ·refine WL.qd rfl rfl rfl (WL.assign rfl rfl (WL.nil (WX.qc (WX.qa (WC.region (WL.move rfl rfl (WL.qe rfl rfl (by omega) rfl (?_))))))))
     refine WL.assign rfl rfl (WL.nil (?_))
     refine WX.qf (i + 1) ⟨rfl, rfl, rfl, ?_, rfl, trivial⟩ ⟨by omega, hq, hw⟩ (by show _ - _ < _ - _; omega)
     first
      |(rw [okT_next hx, ← hok, Bool.true_and, show decide (((UInt64.ofNat (2 + j) % x).toNat : Int) ≠ 0) = true from decide_eq_true h27]; done)
      |(rw [okT_next hx, ← hok, Bool.true_and, show decide (((UInt64.ofNat (2 + j) % x).toNat : Int) ≠ 0) = true from decide_eq_true h27]; rfl)
      |(rw [okT_next hx, ← hok, Bool.true_and, show decide (((UInt64.ofNat (2 + j) % x).toNat : Int) ≠ 0) = false from decide_eq_false (fun h => h h27)]; done)
      |(rw [okT_next hx, ← hok, Bool.true_and, show decide (((UInt64.ofNat (2 + j) % x).toNat : Int) ≠ 0) = false from decide_eq_false (fun h => h h27)]; rfl)
   ·refine WL.t (WC.qa rfl (WC.exit (WX.qd (WX.qd (WX.qh (WX.qa (WC.sr (WL.move rfl rfl (WL.t (WC.qb rfl (WC.region (WL.move rfl rfl (WL.move rfl rfl (?_))))))))))))))
    refine WL.build (e := e64) [UInt64.ofNat (2 + j)] Tryz.underlying162 Tryz.sizeOf24 Tryz.zeroValue24 rfl rfl rfl (by simp [Value.cells] <;> rfl) (by decide) rfl ?_
    intro a_hn w_hn hn l_hn z_hn k_hn
    replace hq := hq.pure k_hn
    replace hw := hw.pure k_hn
    refine WL.append (e := e64) info_24 rfl Tryz.underlying162 rfl rfl hq (hn.rsl.src Tryz.underlying162) (by (try simp only [List.length_append, List.length_cons, List.length_nil] at *); omega) (by intro b hb; first | (apply hS; omega) | ((try dsimp only); omega)) rfl ?_
    intro a_hq2 c_hq2 w_hq2 hq2 g_hq2 n_hq2
    replace hw := hw.chg g_hq2.chg (by intros; exfalso; (try dsimp only at *); omega)
    refine WL.assign rfl rfl (WL.nil (WX.qc (WX.qa (WC.region (WL.move rfl rfl (WL.num rfl rfl (n_add64 _ _ _ 1) rfl (WL.assign rfl rfl (WL.nil (?_)))))))))
    have e1 : outAt (j + 1) = outAt j ++ [UInt64.ofNat (2 + j)] := by
     rw [outAt, stepP, if_pos]
     rw [show (outAt j).length = i from by omega, ← hok]
    refine WX.qf (j + 1, a_hq2, c_hq2) ⟨rfl, ?_, ?_, trivial⟩ ⟨by dsimp only; omega, ?_, hw⟩ (by show _ - _ < _ - _; omega)
    ·dsimp only; rw [e1]; rfl
    ·dsimp only; rw [← nextP hj]; rfl
    ·dsimp only; rw [e1]; exact hq2
 ·refine WL.t (WC.qa rfl (WC.exit (WX.qd (WX.qd (WX.qh (WX.qa (WC.sr (WL.move rfl rfl (WL.assign rfl rfl (WL.t (WC.ret (WX.qg (.inl rfl) Tryz.results100 rfl ?_))))))))))))
  have e1 := outAt_end hj (by omega)
  rw [e1] at hq ⊢
  exact ⟨_, rfl, ⟨_, _, rfl, hq⟩, hw⟩
end Go.Proofs.YtjeldcjchipdgaaGreatDoor
