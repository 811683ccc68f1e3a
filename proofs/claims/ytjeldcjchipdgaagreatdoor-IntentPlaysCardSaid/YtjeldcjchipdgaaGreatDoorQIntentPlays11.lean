import Derived.Test.YtjeldcjchipdgaaGreatDoorQIntentPlays10
namespace Go.Proofs.YtjeldcjchipdgaaGreatDoor
open Go.RowKit Go.HL
set_option maxRecDepth 100000
section
variable {L M : Nat → Prop} {w w' : World} {R D : Nat} {A B : Nat → Prop} {s s' t t' : RA}
theorem H2.leftM (h : H2 L w R D A B s t) (hL : ∀ x, w.heap.size ≤ x → L x) (hR : RK (fun x => A x ∨ w.heap.size ≤ x) w' R s') (k : Chg M w w') (hM : ∀ x, B x → M x → False) : H2 L w' R D (fun x => (A x ∨ w.heap.size ≤ x) ∧ x < w'.heap.size) B s' t := by
 have z := k.size
 refine ⟨hR.old, h.d.chg k (fun b _ h1 h2 => hM b h1 h2), fun x hx => ⟨hx.1.elim (fun h1 => (h.a x h1).1) (hL x), hx.2⟩, fun x hx => ⟨(h.b x hx).1, by have := (h.b x hx).2; omega⟩, fun x h1 h2 => ?_⟩
 rcases h1.1 with h3 | h3
 ·exact h.ne x h3 h2
 ·have := (h.b x h2).2
  omega
theorem H2.rightM (h : H2 L w R D A B s t) (hL : ∀ x, w.heap.size ≤ x → L x) (hR : RD (fun x => B x ∨ w.heap.size ≤ x) w' D t') (k : Chg M w w') (hM : ∀ x, A x → M x → False) : H2 L w' R D A (fun x => (B x ∨ w.heap.size ≤ x) ∧ x < w'.heap.size) s t' := by
 have z := k.size
 refine ⟨h.r.chg k (fun b _ h1 h2 => hM b h1 h2), hR.old, fun x hx => ⟨(h.a x hx).1, by have := (h.a x hx).2; omega⟩, fun x hx => ⟨hx.1.elim (fun h1 => (h.b x h1).1) (hL x), hx.2⟩, fun x h1 h2 => ?_⟩
 rcases h2.1 with h3 | h3
 ·exact h.ne x h1 h3
 ·have := (h.a x h1).2
  omega
end
theorem apS_len (s : RA) (l : LgV) (t : ByteArray) : (apS s l t).waits.length ≤ s.waits.length + s.dn * needN t ∧ (apS s l t).dn = s.dn ∧ (apS s l t).sn = s.sn := by
 unfold apS
 split
 ·obtain ⟨a1, a2, a3, a4, a5⟩ := apR_dn s l.f l.b l.nx t (needN t)
  exact ⟨a4, a1, a2⟩
 ·exact ⟨by omega, rfl, rfl⟩
theorem apL_ok {s : RA} {l : LgV} {t : ByteArray} {sn : Nat} (h : l.ok sn) : (apL s l t).ok sn ∧ (apL s l t).f = l.f ∧ (apL s l t).c = l.c := by
 unfold apL
 split
 ·rename_i h1
  have h0 : apE0 l t = 0 := by
   refine Classical.byContradiction (fun h2 => ?_)
   rw [apE, if_pos h2] at h1
   exact h2 h1
  have h3 : (needN t : Int) ≤ l.c - l.nx := by
   unfold apE0 at h0
   split at h0
   ·cases h0
   ·split at h0
    ·cases h0
    ·omega
  have h4 := h.nx
  exact ⟨⟨h.f, h.c, h.b, ⟨by show 0 ≤ l.nx + (needN t : Int); omega, by show l.nx + (needN t : Int) ≤ l.c; omega⟩, h.in_⟩, rfl, rfl⟩
 ·exact ⟨h, rfl, rfl⟩
theorem rsL_fc (l : LgV) (b : Int) : (rsL l b).f = l.f ∧ (rsL l b).c = l.c := by
 unfold rsL
 split <;> exact ⟨rfl, rfl⟩
theorem open_up {s : RA} {f c b : Int} (h : opOk s f c b) (ho : s.off = false) : openE s f c b = 0 := by
 have hn : ∀ n : Nat, (n : Int) < c → findE s f b n = 0 := fun n hn => findE_up (fun d hd => errS_on (inS_log h hd hn) (fun h9 => by rw [ho] at h9; cases h9))
 have h1 : ∀ k : Nat, (k : Int) ≤ c → (opA s f b k).err = 0 := by
  intro k
  induction k with
  |zero => intro _; rfl
  |succ k ih =>
   intro hk
   have h2 := ih (by omega)
   rw [opA]
   split
   ·exact h2
   ·rw [stA, if_neg (fun x => x (hn k (by omega)))]
    cases findP s f b k with
    |none => exact h2
    |some p =>
     dsimp only
     split <;> exact h2
 rw [openE, if_pos h]
 exact h1 _ (by have := h.2.1; omega)
theorem ok_op {l : LgV} {s : RA} (h : l.ok s.sn) : opOk s l.f l.c l.b := ⟨h.f, h.c.1, h.c.2, by have := h.in_; omega, h.b.1, h.b.2⟩
theorem short_need (s : ByteArray) : (s.extract 0 (min s.size 300)).size ≤ 300 ∧ needN (s.extract 0 (min s.size 300)) ≤ 6 := by
 have h1 : (s.extract 0 (min s.size 300)).size ≤ 300 := by rw [ByteArray.size_extract]; omega
 refine ⟨h1, ?_⟩
 unfold needN
 omega
theorem openL_len (s : RA) (f c b : Int) (hc : i64R c) : (openL s f c b).length ≤ 1000000 := by
 unfold openL
 split
 ·rename_i h
  have h1 : opOk s f c b := by
   refine Classical.byContradiction (fun h2 => ?_)
   rw [open_no h2] at h
   cases h
  obtain ⟨x1, x2, x3⟩ := opA_next (s := s) (f := f) (b := b) c.toNat
  obtain ⟨_, _, h3, _⟩ := h1
  omega
 ·simp
set_option maxHeartbeats 8000000 in
theorem intentPlays_calls {w : World} (x : CsV) (hx : CsS w x) (hl2 : ∀ o ∈ x.ops, o.picks.length * 8 ≤ 140737488351232 ∧ b64OpI o.n ∧ o.s.size ≤ 140737488351232) :
 Calls Tryz.prog 4 [csval x].toArray w (Ret fun v w' => v = .bool true ∧ Chg Nob w w') := by
 have hw := Chg.refl Nob w
 obtain ⟨dr, f, c, b, a2, c2, l2⟩ := x
 obtain ⟨hO, -, hfx, hc, hb⟩ := hx
 dsimp only at hO hfx hc hb hl2
 rw [show csval ⟨dr, f, c, b, a2, c2, l2⟩ = Value.agg #[vi dr, vi f, vi c, vi b, .slice a2 l2.length c2] from rfl]
 obtain ⟨d0, hd0⟩ : ∃ c, c = (B64 dr % 8).toNat := ⟨_, rfl⟩
 have hd5 : d0 < 8 := by rw [hd0, UInt64.toNat_mod]; exact Nat.mod_lt _ (by decide)
 obtain ⟨dn, hdn⟩ : ∃ c : Nat, c = d0 + 1 := ⟨_, rfl⟩
 refine Calls.of_WC Tryz.func4 rfl Tryz.ntmps4 (by simp) ?_
 refine WC.sr (WL.box rfl rfl ?_)
 intro g_1 w_1 hge_1 hlt_1 hb_1 k_1
 have zs_k_1 := k_1.size
 replace hO := hO.pure k_1
 replace hw := hw.pure k_1
 refine WL.assign rfl rfl (WL.t (WC.seq (WC.sr (?_))))
 have hC := Blk.eqc (cs' := [vi dr, vi f, vi c, vi b, .slice a2 l2.length c2]) hb_1 rfl
 refine WL.call eg_31 rfl rfl (known13_calls _) ?_
 rintro v w1 ⟨rfl, k1⟩
 have zs_k1 := k1.size
 replace hO := hO.pure k1
 replace hw := hw.pure k1
 replace hC := hC.pure k1
 refine WL.not rfl rfl (WL.move rfl rfl (WL.qa rfl rfl rfl (WL.call eg_32 rfl rfl (nobody_calls _) ?_)))
 rintro v w2 ⟨rfl, k2⟩
 have zs_k2 := k2.size
 replace hO := hO.pure k2
 replace hw := hw.pure k2
 replace hC := hC.pure k2
 refine WL.qa rfl rfl rfl (WL.call eg_33 rfl rfl (nilRoom_calls _) ?_)
 rintro v w2 ⟨rfl, k2⟩
 have zs_k2 := k2.size
 replace hO := hO.pure k2
 replace hw := hw.pure k2
 replace hC := hC.pure k2
 refine WL.qa rfl rfl rfl (WL.qs rfl rfl rfl (rfl) ?_)
 refine WL.qc rfl rfl rfl (WL.move rfl rfl (WL.qa rfl rfl rfl (WL.call eg_32 rfl rfl (nobody_calls _) ?_)))
 rintro v w2 ⟨rfl, k2⟩
 have zs_k2 := k2.size
 replace hO := hO.pure k2
 replace hw := hw.pure k2
 replace hC := hC.pure k2
 refine WL.qa rfl rfl rfl (WL.call eg_34 rfl rfl (nilAppend_calls _) ?_)
 rintro v w2 ⟨rfl, k2⟩
 have zs_k2 := k2.size
 replace hO := hO.pure k2
 replace hw := hw.pure k2
 replace hC := hC.pure k2
 refine WL.qa rfl rfl rfl (WL.qs rfl rfl rfl (rfl) ?_)
 refine WL.qc rfl rfl rfl (WL.move rfl rfl (WL.qa rfl rfl rfl (WL.call eg_32 rfl rfl (nobody_calls _) ?_)))
 rintro v w2 ⟨rfl, k2⟩
 have zs_k2 := k2.size
 replace hO := hO.pure k2
 replace hw := hw.pure k2
 replace hC := hC.pure k2
 refine WL.qa rfl rfl rfl (WL.call eg_35 rfl rfl (nilReset_calls _ 9) ?_)
 rintro v w2 ⟨rfl, k2⟩
 have zs_k2 := k2.size
 replace hO := hO.pure k2
 replace hw := hw.pure k2
 replace hC := hC.pure k2
 refine WL.qa rfl rfl rfl (WL.qs rfl rfl rfl (rfl) ?_)
 refine WL.qc rfl rfl rfl (WL.t (WC.qa rfl (WC.skip (WX.qa (WC.sr (WL.fieldAddr (fld_65_0) rfl rfl (WL.qb Tryz.isAgg3 hC rfl rfl rfl (WL.qt Tryz.underlying3 Tryz.underlying24 rfl rfl (WL.num rfl rfl (n_rem64 _ _ _ 8 (by decide)) rfl (?_))))))))))
 refine WL.c_u64_i64s (n := d0) Tryz.underlying24 Tryz.underlying3 rfl ⟨hd0.symm, by omega⟩ rfl ?_
 refine WL.qe rfl rfl (by constructor <;> omega) rfl ?_
 rw [show (1 : Int) + d0 = (dn : Int) from by omega]
 refine WL.assign rfl rfl (WL.t (WC.sr (WL.move rfl rfl (?_))))
 have hzw := hw.size
 have hCl := hC.lt
 refine WL.call eg_6 rfl rfl (New_calls _ (dn := dn) (sn := 16) (by omega) (by omega)) ?_
 rintro v w2 ⟨⟨R, rfl, hR⟩, k2⟩
 obtain ⟨n1, en1⟩ : ∃ n1, n1 = w_1.heap.size := ⟨_, rfl⟩
 have zs_k2 := k2.size
 replace hO := hO.pure k2
 replace hw := hw.pure k2
 replace hC := hC.pure k2
 refine WL.move rfl rfl (WL.extract rfl rfl rfl (WL.extract rfl rfl rfl (WL.assign rfl rfl (WL.assign rfl rfl (WL.t (WC.seq (WC.region (WL.move rfl rfl (WL.call eg_7 rfl rfl (dNew_calls _ (dn := dn) (sn := 16) (by omega) (by omega)) ?_)))))))))
 rintro v w3 ⟨⟨D, rfl, hD⟩, k3⟩
 have zs_k3 := k3.size
 replace hO := hO.pure k3
 replace hw := hw.pure k3
 replace hC := hC.pure k3
 have hH : HH (fun x => n1 ≤ x) w3 R D (newS dn 16) := ⟨_, _, ⟨hR.old.pure k3, hD.old, fun x hx => ⟨by have := hx.1; omega, by have := hx.2; have := k3.size; omega⟩, fun x hx => ⟨by have := hx.1; omega, hx.2⟩, fun x h1 h2 => by have := h1.2; have := h2.1; omega⟩⟩
 have hgC : g_1 < n1 := by omega
 have hwn : w.heap.size ≤ n1 := by omega
 refine WL.move rfl rfl (WL.extract rfl rfl rfl (WL.extract rfl rfl rfl (WL.assign rfl rfl (WL.assign rfl rfl (WL.t (WC.seq (WC.sr (WL.move rfl rfl (WL.qs rfl rfl rfl (rfl) ?_)))))))))
 refine WL.move rfl rfl (WL.qa rfl rfl rfl (WL.move rfl rfl (WL.qa rfl rfl rfl (WL.qs rfl rfl rfl (rfl) ?_))))
 refine WL.qc rfl rfl rfl (WL.t (WC.qa rfl (WC.skip (WX.qa (WC.sr (WL.move rfl rfl (WL.fieldAddr (fld_65_1) rfl rfl (WL.qb Tryz.isAgg3 hC rfl rfl rfl (WL.fieldAddr (fld_65_2) rfl rfl (WL.qb Tryz.isAgg3 hC rfl rfl rfl (WL.fieldAddr (fld_65_3) rfl rfl (WL.qb Tryz.isAgg3 hC rfl rfl rfl (?_)))))))))))))
 replace hH := hH.old
 refine WL.call eg_36 rfl rfl (iopen_calls hH.r f c b hfx hc) ?_
 rintro v w5 ⟨⟨pl, a9, c9, rfl, hq9, hn9, hs9⟩, k5⟩
 have zs_k5 := k5.size
 replace hO := hO.pure k5
 replace hw := hw.pure k5
 replace hC := hC.pure k5
 replace hH := hH.pure k5
 replace hq9 := hq9.lt
 refine WL.move rfl rfl (WL.extract rfl rfl rfl (WL.extract rfl rfl rfl (WL.extract rfl rfl rfl (WL.assign rfl rfl (WL.assign rfl rfl (WL.assign rfl rfl (WL.nil (WX.qa (WC.sr (WL.move rfl rfl (WL.fieldAddr (fld_65_1) rfl rfl (WL.qb Tryz.isAgg3 hC rfl rfl rfl (WL.fieldAddr (fld_65_2) rfl rfl (WL.qb Tryz.isAgg3 hC rfl rfl rfl (WL.fieldAddr (fld_65_3) rfl rfl (WL.qb Tryz.isAgg3 hC rfl rfl rfl (WL.call eg_37 rfl rfl (dopen_calls hH.d (Nat.zero_le _) f c b hfx hc) ?_)))))))))))))))))
 rintro v w6 ⟨⟨pm, a11, c11, rfl, hq11, hn11, hs11⟩, k6⟩
 have zk6 := k6.size
 have zs_k6 := k6.size
 replace hO := hO.pure k6
 replace hw := hw.pure k6
 replace hC := hC.pure k6
 replace hH := hH.pure k6
 replace hq9 := hq9.pure k6
 replace hq11 := hq11.lt
 obtain ⟨E0, eE0⟩ : ∃ E0, E0 = openE (newS dn 16) f c b := ⟨_, rfl⟩
 obtain ⟨N0, eN0⟩ : ∃ N0, N0 = openN (newS dn 16) f c b := ⟨_, rfl⟩
 obtain ⟨LL, eLL⟩ : ∃ LL, LL = openL (newS dn 16) f c b := ⟨_, rfl⟩
 have hLLl : LL.length ≤ 1000000 := by rw [eLL]; exact openL_len _ _ _ _ hc
 rw [← eE0, ← eN0] at hs9 hs11
 rw [← eE0] at hn9 hn11
 rw [← eLL] at hq9 hq11
 rw [← eE0, ← eLL]
 by_cases hE : E0 = 0
 ·obtain ⟨L0, rfl, hL1, -, hLB, hok0⟩ := hs9 hE
  obtain ⟨M0, rfl, hM1, -, hMB, -⟩ := hs11 hE
  have hLl := hLB.lt
  replace hLB := hLB.pure k6
  clear hn9 hn11 hs9 hs11
  refine WL.move rfl rfl (WL.extract rfl rfl rfl (WL.extract rfl rfl rfl (WL.extract rfl rfl rfl (WL.assign rfl rfl (WL.assign rfl rfl (WL.assign rfl rfl (WL.nil (WX.qa (WC.seq (WC.sr (WL.move rfl rfl (WL.move rfl rfl (WL.qs rfl rfl rfl (rfl) ?_)))))))))))))
  refine WL.move rfl rfl (WL.qa rfl rfl rfl (WL.move rfl rfl (WL.qa rfl rfl rfl (WL.qq Tryz.underlying66 rfl rfl rfl ?_))))
  refine WL.qa rfl rfl rfl (WL.move rfl rfl (WL.qa rfl rfl rfl (WL.qq Tryz.underlying73 rfl rfl rfl ?_)))
  refine WL.qa rfl rfl rfl (WL.bneq Tryz.underlying4 rfl rfl rfl ?_)
  refine WL.qc rfl rfl rfl (WL.move rfl rfl (WL.qa rfl rfl rfl (WL.move rfl rfl (WL.qa rfl rfl rfl (WL.move rfl rfl (WL.qa rfl rfl rfl (WL.call eg_38 rfl rfl (same13_calls hq9.rsl hq11.rsl hLLl) ?_)))))))
  rintro v w7 ⟨rfl, k7⟩
  rw [decide_eq_true rfl]
  have zs_k7 := k7.size
  replace hO := hO.pure k7
  replace hw := hw.pure k7
  replace hC := hC.pure k7
  replace hH := hH.pure k7
  replace hq9 := hq9.pure k7
  replace hq11 := hq11.pure k7
  replace hLB := hLB.pure k7
  replace hMB := hMB.pure k7
  refine WL.qa rfl rfl rfl (WL.not rfl rfl (WL.qc rfl rfl rfl (WL.t (WC.qa rfl (WC.skip (WX.qa (WC.seq (WC.sr (WL.assign rfl rfl (WL.t (WC.block (?_))))))))))))
  have hH0 : ∃ s : RA, HH (fun x => n1 ≤ x ∧ x ≠ L0 ∧ x ≠ M0) _ R D s ∧ s.waits.length ≤ 64 * 0 ∧ s.dn = dn ∧ s.sn = 16 := ⟨newS dn 16, hH.mono (fun x hx => ⟨hx.1, by omega, by omega⟩), Nat.zero_le _, rfl, rfl⟩
  refine WC.loop (σ := Nat × Nat × Nat × LgV) (fun q => [(1, ptr g_1), (4, ptr R), (6, ptr D), (8, ptr q.2.1), (10, ptr q.2.2.1), (12, vi (q.1 : Int))])
   (fun q w' => (q.1 ≤ 30 ∧ q.1 ≤ l2.length) ∧ Blk w' g_1 65 [vi dr, vi f, vi c, vi b, .slice a2 l2.length c2] ∧ OSI (· < w.heap.size) w' a2 c2 l2 ∧ Chg Nob w w' ∧ (n1 ≤ q.2.1 ∧ n1 ≤ q.2.2.1 ∧ q.2.1 ≠ q.2.2.1) ∧ Blk w' q.2.1 125 (lgC R q.2.2.2) ∧ Blk w' q.2.2.1 81 (lgC D q.2.2.2) ∧ (q.2.2.2.ok 16 ∧ q.2.2.2.f = f ∧ q.2.2.2.c = c) ∧ ∃ s : RA, HH (fun x => n1 ≤ x ∧ x ≠ q.2.1 ∧ x ≠ q.2.2.1) w' R D s ∧ s.waits.length ≤ 64 * q.1 ∧ s.dn = dn ∧ s.sn = 16) (fun q => 30 - q.1) (0, L0, M0, ⟨f, c, b, N0⟩) ⟨rfl, rfl, rfl, rfl, rfl, rfl, trivial⟩
   ⟨⟨by omega, by omega⟩, hC, hO, hw, ⟨by show n1 ≤ L0; omega, by show n1 ≤ M0; omega, by show L0 ≠ M0; omega⟩, hLB, hMB, ⟨hok0, rfl, rfl⟩, hH0⟩ ?_
  clear hC hO hw hH hH0 hR hD hLB hMB hq9 hq11 hok0
  rintro ⟨i, L, M, l⟩ w4 ⟨⟨hi1, hi2⟩, hC, hO, hw, ⟨hL9, hM9, hLM⟩, hLB, hMB, ⟨hok, hlf, hlc⟩, s, hH, hsl, hsd, hss⟩
  dsimp only at hi1 hi2 hL9 hM9 hLM hLB hMB hok hlf hlc hH hsl ⊢
  have zw := hw.size
  have hLl := hLB.lt
  have hMl := hMB.lt
  replace hH := hH.old
  refine WC.seq (WC.sr (WL.move rfl rfl (WL.fieldAddr (fld_65_4) rfl rfl (WL.qb Tryz.isAgg63 hC rfl rfl rfl (WL.len Tryz.underlying63 rfl rfl (WL.qh rfl rfl rfl (fun h99 => ?_) (fun h99 => ?_)))))))
  ·refine WL.move rfl rfl (WL.qa rfl rfl rfl (WL.move rfl rfl (WL.qa rfl rfl rfl (WL.qh rfl rfl rfl (fun h102 => ?_) (fun h102 => ?_)))))
   ·refine WL.qd rfl rfl rfl (WL.move rfl rfl (WL.qa rfl rfl rfl (WL.move rfl rfl (WL.qa rfl rfl rfl (WL.ptrSome Tryz.underlying73 rfl rfl rfl ?_)))))
    refine WL.qd rfl rfl rfl (WL.t (WC.qb rfl (WC.skip (WX.qa (WC.seq (WC.block (WC.sr (WL.fieldAddr (fld_65_4) rfl rfl (WL.qb Tryz.isAgg63 hC rfl rfl rfl (WL.move rfl rfl (?_)))))))))))
    obtain ⟨o, ho⟩ : ∃ o, l2[i]? = some o := ⟨_, List.getElem?_eq_getElem (by omega)⟩
    have hom := List.mem_of_getElem? ho
    obtain ⟨hpl, ⟨hon1, hon2⟩, hos⟩ := hl2 o hom
    have hOo := hO.outer
    refine WL.qg Tryz.underlying63 Tryz.sizeOf78 hOo rfl rfl ⟨ho, rfl⟩ rfl ?_
    intro b_2 o_2 hc_2
    refine WL.qw _ Tryz.isAgg78 Tryz.sizeOf78 rfl hc_2 rfl rfl (WL.alloc Tryz.zeroValue78 rfl ?_)
    intro g_3 w_3 hge_3 hlt_3 hb_3 k_3
    have zs_k_3 := k_3.size
    replace hC := hC.pure k_3
    replace hO := hO.pure k_3
    replace hw := hw.pure k_3
    replace hLB := hLB.pure k_3
    replace hMB := hMB.pure k_3
    replace hH := hH.pure k_3
    refine WL.ql Tryz.sizeOf78 hb_3 rfl rfl (by rfl) (by exact Enc.one _ _) (by exact Nat.le_of_ble_eq_true rfl) rfl ?_
    intro w_4 hs_4 hn_4 k_4
    have zs_k_4 := k_4.size
    replace hC := hC.chg k_4 (by intro h1; have h2 : _ = _ := h1; exfalso; omega)
    replace hO := hO.chg k_4 (by intro b h1 h2 h3; have h4 : _ = _ := h3; (try dsimp only at h2); exfalso; omega)
    replace hw := hw.chg k_4 (by intro x h1 h2; have h3 : _ = _ := h2; exfalso; omega)
    replace hLB := hLB.chg k_4 (by intro h1; have h2 : _ = _ := h1; exfalso; omega)
    replace hMB := hMB.chg k_4 (by intro h1; have h2 : _ = _ := h1; exfalso; omega)
    replace hH := hH.chg k_4 (by intro b h1 h2 h3; have h4 : _ = _ := h3; (try dsimp only at h2); exfalso; omega)
    replace hb_3 := hn_4
    refine WL.t (WC.seq (WC.sr (WL.fieldAddr (fld_78_0) rfl rfl (WL.qb Tryz.isAgg3 hb_3 rfl rfl rfl (WL.nil (WX.qa (?_)))))))
    have hX := Blk.eqc (cs' := eoi.f o) hb_3 rfl
    have hg2 : w4.heap.size ≤ g_3 := by omega
    have hgl := hX.lt
    replace hH := hH.mono (S' := fun x => n1 ≤ x ∧ x ≠ L ∧ x ≠ M ∧ x ≠ g_3) (fun x hx => ⟨hx.1.1, hx.1.2.1, hx.1.2.2, by omega⟩)
    have hp := hO.inner o hom
    have hlen : s.waits.length ≤ 1920 := by omega
    obtain ⟨hoks, hlb⟩ : l.ok s.sn ∧ (0 ≤ l.b ∧ l.b ≤ 1125899906842624) := ⟨by rw [hss]; exact hok, hok.b⟩
    refine WC.cutG (σ := Nat × Nat × LgV) (fun q => [(1, ptr g_1), (4, ptr R), (6, ptr D), (8, ptr q.1), (10, ptr q.2.1), (12, vi (i : Int)), (13, ptr g_3)])
     (fun q w' => (∃ t : RA, HH (fun x => n1 ≤ x ∧ x ≠ q.1 ∧ x ≠ q.2.1 ∧ x ≠ g_3) w' R D t ∧ t.waits.length ≤ 64 * (i + 1) ∧ t.dn = dn ∧ t.sn = 16) ∧ (n1 ≤ q.1 ∧ n1 ≤ q.2.1 ∧ q.1 ≠ q.2.1) ∧ Blk w' q.1 125 (lgC R q.2.2) ∧ Blk w' q.2.1 81 (lgC D q.2.2) ∧ (q.2.2.ok 16 ∧ q.2.2.f = f ∧ q.2.2.c = c) ∧ Blk w' g_3 78 (eoi.f o) ∧ Blk w' g_1 65 [vi dr, vi f, vi c, vi b, .slice a2 l2.length c2] ∧ OSI (· < w.heap.size) w' a2 c2 l2 ∧ Chg Nob w w') ?_ ?_
    rotate_left
    obtain ⟨A, B, h⟩ := hH.ex
    have hAB : ∀ x, A x ∨ B x → x < w_4.heap.size := fun x hx => hx.elim (fun h1 => (h.a x h1).2) (fun h1 => (h.b x h1).2)
    obtain ⟨tt, ett⟩ : ∃ tt, tt = o.s.extract 0 (min o.s.size 300) := ⟨_, rfl⟩
    obtain ⟨htt1, htt2⟩ : tt.size ≤ 300 ∧ needN tt ≤ 6 := by rw [ett]; exact short_need _
    ·clear hH hb_3
     refine WC.block (WC.sr (WL.qi rfl rfl rfl (fun h118 => ?_) (fun h118 => ?_)))
     ·refine WL.assign rfl rfl (WL.t (WC.qb rfl (WC.seq (WC.qc ((fun x => n1 ≤ x ∧ x ≠ g_3)) [0, 1, 2, 5, 6, 7] [3, 4, 8, 9, 10] mixed rfl rfl (fun wd_5 kd_5 zd_5 => ?_)))))
      have zs_kd_5 := kd_5.size
      replace h := h.pure kd_5
      replace hX := hX.pure kd_5
      replace hLB := hLB.pure kd_5
      replace hMB := hMB.pure kd_5
      replace hC := hC.pure kd_5
      replace hO := hO.pure kd_5
      replace hp := hp.pure kd_5
      replace hw := hw.pure kd_5
      apply DQ.step [(8, _)] rfl ⟨rfl, trivial⟩ rfl (fun _ _ => WL.move rfl rfl  WL.q)
      apply DQ.step [(13, _)] rfl ⟨rfl, trivial⟩ rfl (fun _ _ => WL.fieldAddr (fld_78_4) rfl rfl  WL.q)
      apply DQ.step [(120, _)] rfl ⟨rfl, trivial⟩ rfl
      ·intro wq_9 kq_9
       have zs_kq_9 := kq_9.size
       replace hX := hX.chg kq_9 (by intro h1; exfalso; have h4 := h1.2; (try dsimp only at *); omega)
       replace hC := hC.chg kq_9 (by intro h1; exfalso; have h4 := h1.2; (try dsimp only at *); omega)
       refine WL.qb Tryz.isAgg9 hX rfl rfl rfl (WL.q)
      apply DQ.step [(10, _)] rfl ⟨rfl, trivial⟩ rfl (fun _ _ => WL.move rfl rfl  WL.q)
      apply DQ.step [(13, _)] rfl ⟨rfl, trivial⟩ rfl (fun _ _ => WL.fieldAddr (fld_78_4) rfl rfl  WL.q)
      apply DQ.step [(125, _)] rfl ⟨rfl, trivial⟩ rfl
      ·intro wq_12 kq_12
       have zs_kq_12 := kq_12.size
       replace hX := hX.chg kq_12 (by intro h1; exfalso; have h4 := h1.2; (try dsimp only at *); omega)
       replace hC := hC.chg kq_12 (by intro h1; exfalso; have h4 := h1.2; (try dsimp only at *); omega)
       refine WL.qb Tryz.isAgg9 hX rfl rfl rfl (WL.q)
      refine DQ.done (fun hd_6 => ?_)
      refine DL.step [(121, _)] rfl ⟨rfl, trivial⟩ rfl (fun wq_13 kq_13 => ?_)
      have zs_kq_13 := kq_13.size
      replace h := h.pure kq_13
      replace hX := hX.pure kq_13
      replace hLB := hLB.pure kq_13
      replace hMB := hMB.pure kq_13
      replace hC := hC.pure kq_13
      replace hO := hO.pure kq_13
      replace hp := hp.pure kq_13
      replace hw := hw.pure kq_13
      replace hd_6 := hd_6.pure kq_13
      refine WL.call eg_39 rfl rfl (short_calls o.s _) ?_
      rintro v w7 ⟨rfl, k7⟩
      rw [← ett]
      have zs_k7 := k7.size
      replace h := h.pure k7
      replace hX := hX.pure k7
      replace hLB := hLB.pure k7
      replace hMB := hMB.pure k7
      replace hC := hC.pure k7
      replace hO := hO.pure k7
      replace hp := hp.pure k7
      replace hw := hw.pure k7
      replace hd_6 := hd_6.pure k7
      refine WL.nil (WX.one ⟨hd_6, ?_⟩)
      refine DL.step [(119, _), (122, _)] rfl ⟨rfl, rfl, trivial⟩ rfl (fun wq_14 kq_14 => ?_)
      have zs_kq_14 := kq_14.size
      replace h := h.pure kq_14
      replace hX := hX.pure kq_14
      replace hLB := hLB.pure kq_14
      replace hMB := hMB.pure kq_14
      replace hC := hC.pure kq_14
      replace hO := hO.pure kq_14
      replace hp := hp.pure kq_14
      replace hw := hw.pure kq_14
      replace hd_6 := hd_6.pure kq_14
      refine WL.call eg_34 rfl rfl (iappend_calls h.r hLB (fun m => (h.a _ m).1.2.1 rfl) hoks tt (by omega) (by omega)) ?_
      rintro v w8 ⟨rfl, hR8, hL8, k8⟩
      have h3 := h.leftM (fun x hx => ⟨by omega, by omega, by omega, by omega⟩) hR8 k8 (fun x h1 m => m.elim (fun h2 => h.ne x h2 h1) (fun e => (h.b x h1).1.2.1 e))
      have hM8 := hMB.chg k8 (fun m => m.elim (fun h2 => (h.a _ h2).1.2.2.1 rfl) (fun e => hLM e.symm))
      have hk8 := k8.mono (M' := fun x => n1 ≤ x ∧ x ≠ g_3) (fun x _ m => m.elim (fun h2 => ⟨(h.a x h2).1.1, (h.a x h2).1.2.2.2⟩) (fun e => ⟨by omega, by omega⟩))
      have z8 := k8.size
      have zs_hk8 := hk8.size
      replace hX := hX.chg hk8 (by intro h1; exfalso; have h4 := h1.2; (try dsimp only at *); omega)
      replace hC := hC.chg hk8 (by intro h1; exfalso; have h4 := h1.2; (try dsimp only at *); omega)
      replace hO := hO.chg hk8 (by intros; exfalso; (try dsimp only at *); omega)
      replace hp := hp.chg hk8 (by intros; exfalso; (try dsimp only at *); omega)
      replace hw := hw.chg hk8 (by intros; exfalso; (try dsimp only at *); omega)
      replace hd_6 := hd_6.chg hk8 (by intro x h1 h2; exact h2)
      refine WL.nil (WX.one ⟨hd_6, ?_⟩)
      refine DL.step [(126, _)] rfl ⟨rfl, trivial⟩ rfl (fun wq_15 kq_15 => ?_)
      have zs_kq_15 := kq_15.size
      replace hX := hX.pure kq_15
      replace hC := hC.pure kq_15
      replace hO := hO.pure kq_15
      replace hp := hp.pure kq_15
      replace hw := hw.pure kq_15
      replace hd_6 := hd_6.pure kq_15
      replace h3 := h3.pure kq_15
      replace hL8 := hL8.pure kq_15
      replace hM8 := hM8.pure kq_15
      refine WL.call eg_39 rfl rfl (short_calls o.s _) ?_
      rintro v w7 ⟨rfl, k7⟩
      rw [← ett]
      have zs_k7 := k7.size
      replace hX := hX.pure k7
      replace hC := hC.pure k7
      replace hO := hO.pure k7
      replace hp := hp.pure k7
      replace hw := hw.pure k7
      replace hd_6 := hd_6.pure k7
      replace h3 := h3.pure k7
      replace hL8 := hL8.pure k7
      replace hM8 := hM8.pure k7
      refine WL.nil (WX.one ⟨hd_6, ?_⟩)
      refine DL.step [(124, _), (127, _)] rfl ⟨rfl, rfl, trivial⟩ rfl (fun wq_16 kq_16 => ?_)
      have zs_kq_16 := kq_16.size
      replace hX := hX.pure kq_16
      replace hC := hC.pure kq_16
      replace hO := hO.pure kq_16
      replace hp := hp.pure kq_16
      replace hw := hw.pure kq_16
      replace hd_6 := hd_6.pure kq_16
      replace h3 := h3.pure kq_16
      replace hL8 := hL8.pure kq_16
      replace hM8 := hM8.pure kq_16
      refine WL.call eg_40 rfl rfl (dappend_calls h3.d hM8 (fun m => (h3.b _ m).1.2.2.1 rfl) hoks tt (by omega) (by omega)) ?_
      rintro v w9 ⟨rfl, hD9, hM9', k9⟩
      have hf := h3.rightM (fun x hx => ⟨by omega, by omega, by omega, by omega⟩) hD9 k9 (fun x h1 m => m.elim (fun h2 => h3.ne x h1 h2) (fun e => (h3.a x h1).1.2.2.1 e))
      have hL9' := hL8.chg k9 (fun m => m.elim (fun h2 => (h3.b _ h2).1.2.1 rfl) (fun e => hLM e))
      have hk9 := k9.mono (M' := fun x => n1 ≤ x ∧ x ≠ g_3) (fun x _ m => m.elim (fun h2 => ⟨(h3.b x h2).1.1, (h3.b x h2).1.2.2.2⟩) (fun e => ⟨by omega, by omega⟩))
      have hl3 : (apS s l tt).waits.length ≤ s.waits.length + 64 ∧ (apS s l tt).dn = s.dn ∧ (apS s l tt).sn = s.sn := by
       obtain ⟨a1, a2, a3⟩ := apS_len s l tt
       have : s.dn * needN tt ≤ 8 * 6 := Nat.mul_le_mul (by omega) htt2
       exact ⟨by omega, a2, a3⟩
      have zs_hk9 := hk9.size
      replace hX := hX.chg hk9 (by intro h1; exfalso; have h4 := h1.2; (try dsimp only at *); omega)
      replace hC := hC.chg hk9 (by intro h1; exfalso; have h4 := h1.2; (try dsimp only at *); omega)
      replace hO := hO.chg hk9 (by intros; exfalso; (try dsimp only at *); omega)
      replace hp := hp.chg hk9 (by intros; exfalso; (try dsimp only at *); omega)
      replace hw := hw.chg hk9 (by intros; exfalso; (try dsimp only at *); omega)
      replace hd_6 := hd_6.chg hk9 (by intro x h1 h2; exact h2)
      refine WL.nil (WX.one ⟨hd_6, ?_⟩)
      refine DL.step [(123, _), (128, _)] rfl ⟨rfl, rfl, trivial⟩ rfl (fun wq_17 kq_17 => ?_)
      have zs_kq_17 := kq_17.size
      replace hX := hX.pure kq_17
      replace hC := hC.pure kq_17
      replace hO := hO.pure kq_17
      replace hp := hp.pure kq_17
      replace hw := hw.pure kq_17
      replace hd_6 := hd_6.pure kq_17
      replace hf := hf.pure kq_17
      replace hL9' := hL9'.pure kq_17
      replace hM9' := hM9'.pure kq_17
      refine WL.qs rfl rfl rfl (rfl) (WL.nil ?_)
      refine WX.one ⟨hd_6, ?_⟩
      refine DL.done (fun we_18 ke_18 => ?_)
      have zs_ke_18 := ke_18.size
      replace hX := hX.pure ke_18
      replace hC := hC.pure ke_18
      replace hO := hO.pure ke_18
      replace hp := hp.pure ke_18
      replace hw := hw.pure ke_18
      replace hd_6 := hd_6.pure ke_18
      replace hf := hf.pure ke_18
      replace hL9' := hL9'.pure ke_18
      replace hM9' := hM9'.pure ke_18
      refine WX.qa (WC.qa rfl (WC.skip (WX.qc (WX.cutN (L, M, apL s l tt) ⟨rfl, rfl, rfl, rfl, rfl, rfl, rfl, trivial⟩ ⟨⟨_, ⟨_, _, hf⟩, by omega, hl3.2.1.trans hsd, hl3.2.2.trans hss⟩, ⟨hL9, hM9, hLM⟩, hL9', hM9', ⟨(apL_ok hok).1, (apL_ok hok).2.1.trans hlf, (apL_ok hok).2.2.trans hlc⟩, hX, hC, hO, hw⟩))))
     ·refine WL.assign rfl rfl (WL.t (WC.qa rfl (WC.sr (WL.qi rfl rfl rfl (fun h131 => ?_) (fun h131 => ?_)))))
      ·refine WL.assign rfl rfl (WL.t (WC.qb rfl (WC.sr (WL.move rfl rfl (WL.call eg_11 rfl rfl (Flush_calls h.r) ?_)))))
       rintro v w8 ⟨rfl, hR8, k8⟩
       have zB8 := hX.lt
       have h3 := h.left0 (fun x hx => ⟨by omega, by omega, by omega, by omega⟩) hR8 k8
       replace hX := hX.chg k8 (fun m => (h.a _ m).1.2.2.2 rfl)
       replace hLB := hLB.chg k8 (fun m => (h.a _ m).1.2.1 rfl)
       replace hMB := hMB.chg k8 (fun m => (h.a _ m).1.2.2.1 rfl)
       replace hC := hC.chg k8 (fun m => by have := (h.a _ m).1.1; omega)
       replace hO := hO.chg k8 (fun x _ h1 m => by have h1 : x < _ := h1; have := (h.a x m).1.1; omega)
       replace hp := hp.chg k8 (fun x _ h1 m => by have h1 : x < _ := h1; have := (h.a x m).1.1; omega)
       replace hw := hw.trans k8 (fun x h1 m => by have := (h.a x m).1.1; omega)
       have z_k8 := k8.size
       refine WL.move rfl rfl (WL.call eg_12 rfl rfl (dFlush_calls h3.d (by omega)) ?_)
       rintro v w9 ⟨rfl, hD9, k9⟩
       have hf := h3.right0 (fun x hx => ⟨by omega, by omega, by omega, by omega⟩) hD9 k9
       replace hX := hX.chg k9 (fun m => (h3.b _ m).1.2.2.2 rfl)
       replace hLB := hLB.chg k9 (fun m => (h3.b _ m).1.2.1 rfl)
       replace hMB := hMB.chg k9 (fun m => (h3.b _ m).1.2.2.1 rfl)
       replace hC := hC.chg k9 (fun m => by have := (h3.b _ m).1.1; omega)
       replace hO := hO.chg k9 (fun x _ h1 m => by have h1 : x < _ := h1; have := (h3.b x m).1.1; omega)
       replace hp := hp.chg k9 (fun x _ h1 m => by have h1 : x < _ := h1; have := (h3.b x m).1.1; omega)
       replace hw := hw.trans k9 (fun x h1 m => by have := (h3.b x m).1.1; omega)
       have z_k9 := k9.size
       have hl3 : (flushS s).waits.length ≤ s.waits.length + 64 ∧ (flushS s).dn = s.dn ∧ (flushS s).sn = s.sn := ⟨by have := (flushS_len s).1; omega, (flushS_len s).2⟩
       refine WL.qs rfl rfl rfl (rfl) (WL.t (WC.qa rfl (WC.skip (WX.qc (WX.cutN (L, M, l) ⟨rfl, rfl, rfl, rfl, rfl, rfl, rfl, trivial⟩ ⟨⟨_, ⟨_, _, hf⟩, by omega, hl3.2.1.trans hsd, hl3.2.2.trans hss⟩, ⟨hL9, hM9, hLM⟩, hLB, hMB, ⟨hok, hlf, hlc⟩, hX, hC, hO, hw⟩)))))
      ·refine WL.assign rfl rfl (WL.t (WC.qa rfl (WC.sr (WL.qi rfl rfl rfl (fun h138 => ?_) (fun h138 => ?_)))))
       ·refine WL.assign rfl rfl (WL.t (WC.qb rfl (WC.sr (WL.move rfl rfl (?_)))))
        refine WL.build (e := ei) [] Tryz.underlying32 Tryz.sizeOf3 Tryz.zeroValue3 rfl rfl rfl (by simp [Value.cells]; done) (by decide) rfl ?_
        intro a_b116 w_b116 b116 l_b116 z_b116 k_b116
        have zs_k_b116 := k_b116.size
        replace h := h.pure k_b116
        replace hX := hX.pure k_b116
        replace hLB := hLB.pure k_b116
        replace hMB := hMB.pure k_b116
        replace hC := hC.pure k_b116
        replace hO := hO.pure k_b116
        replace hp := hp.pure k_b116
        replace hw := hw.pure k_b116
        refine WL.fieldAddr (fld_78_5) rfl rfl (WL.qb Tryz.isAgg32 hX rfl rfl rfl (?_))
        refine WL.append (e := ei) (S := fun x => w_4.heap.size ≤ x) info_3 rfl Tryz.underlying32 rfl rfl (b116.mono (fun x hx => hx)) (hp.src Tryz.underlying32) (by constructor <;> (simp only [List.length_nil]; omega)) (fun x hx => by omega) rfl ?_
        intro a9 c9 w9 hO9 g9 n9
        have k9 := g9.chg
        rw [List.nil_append] at hO9 ⊢
        have h9 := h.chg k9 (fun x hx m => by have := hAB x hx; have := m.2; omega)
        replace hp := hp.chg k9 (fun x _ h1 m => by have h1 : x < _ := h1; have := m.2; omega)
        replace hX := hX.chg k9 (fun m => by have := m.2; omega)
        replace hLB := hLB.chg k9 (fun m => by have := m.2; omega)
        replace hMB := hMB.chg k9 (fun m => by have := m.2; omega)
        replace hC := hC.chg k9 (fun m => by have := m.2; omega)
        replace hO := hO.chg k9 (fun x _ h1 m => by have h1 : x < _ := h1; have := m.2; omega)
        replace hw := hw.trans k9 (fun x h1 m => by have := m.2; omega)
        have z9 := k9.size
        refine WL.call eg_13 rfl rfl (Crash_calls h9.r hO9.rsl (fun x h1 h2 => by have := hAB x (.inl h2); have h3 : w_4.heap.size ≤ x := h1; omega)) ?_
        rintro v w8 ⟨rfl, hR8, k8⟩
        have h3 := h9.left0 (fun x hx => ⟨by omega, by omega, by omega, by omega⟩) hR8 k8
        replace hX := hX.chg k8 (fun m => (h9.a _ m).1.2.2.2 rfl)
        replace hLB := hLB.chg k8 (fun m => (h9.a _ m).1.2.1 rfl)
        replace hMB := hMB.chg k8 (fun m => (h9.a _ m).1.2.2.1 rfl)
        replace hC := hC.chg k8 (fun m => by have := (h9.a _ m).1.1; omega)
        replace hO := hO.chg k8 (fun x _ h1 m => by have h1 : x < _ := h1; have := (h9.a x m).1.1; omega)
        replace hp := hp.chg k8 (fun x _ h1 m => by have h1 : x < _ := h1; have := (h9.a x m).1.1; omega)
        replace hw := hw.trans k8 (fun x h1 m => by have := (h9.a x m).1.1; omega)
        have z_k8 := k8.size
        refine WL.t (WC.sr (WL.move rfl rfl (WL.fieldAddr (fld_78_5) rfl rfl (WL.qb Tryz.isAgg32 hX rfl rfl rfl (?_)))))
        refine WL.call eg_14 rfl rfl (dCrash_calls h3.d (by omega) hp (fun x h1 h2 => by have h1 : x < _ := h1; have := (h3.b x h2).1.1; omega)) ?_
        rintro v w9 ⟨rfl, hD9, k9⟩
        have hf := h3.right0 (fun x hx => ⟨by omega, by omega, by omega, by omega⟩) hD9 k9
        replace hX := hX.chg k9 (fun m => (h3.b _ m).1.2.2.2 rfl)
        replace hLB := hLB.chg k9 (fun m => (h3.b _ m).1.2.1 rfl)
        replace hMB := hMB.chg k9 (fun m => (h3.b _ m).1.2.2.1 rfl)
        replace hC := hC.chg k9 (fun m => by have := (h3.b _ m).1.1; omega)
        replace hO := hO.chg k9 (fun x _ h1 m => by have h1 : x < _ := h1; have := (h3.b x m).1.1; omega)
        replace hp := hp.chg k9 (fun x _ h1 m => by have h1 : x < _ := h1; have := (h3.b x m).1.1; omega)
        replace hw := hw.trans k9 (fun x h1 m => by have := (h3.b x m).1.1; omega)
        have z_k9 := k9.size
        obtain ⟨sc, esc⟩ : ∃ sc, sc = crashS s o.picks := ⟨_, rfl⟩
        have hoff : sc.off = false := by rw [esc]; rfl
        have hl3 : sc.waits.length ≤ s.waits.length + 64 ∧ sc.dn = s.dn ∧ sc.sn = s.sn := by rw [esc]; exact ⟨Nat.zero_le _, rfl, rfl⟩
        rw [← esc] at hf
        have hE2 : openE sc f c l.b = 0 := by
         have h5 := ok_op (s := sc) (l := l) (by rw [hl3.2.2]; exact hoks)
         rw [hlf, hlc] at h5
         exact open_up h5 hoff
        refine WL.t (WC.sr (WL.move rfl rfl (WL.nilCheck rfl rfl (WL.fieldAddr (fld_81_3) rfl rfl (WL.qb Tryz.isAgg3 hMB rfl rfl rfl (WL.assign rfl rfl (WL.t (WC.sr (WL.move rfl rfl (WL.fieldAddr (fld_65_1) rfl rfl (WL.qb Tryz.isAgg3 hC rfl rfl rfl (WL.fieldAddr (fld_65_2) rfl rfl (WL.qb Tryz.isAgg3 hC rfl rfl rfl (WL.move rfl rfl (?_)))))))))))))))
        obtain ⟨zB, ezB⟩ : ∃ z, z = w9.heap.size := ⟨_, rfl⟩
        replace hf := hf.mono (L' := fun x => (n1 ≤ x ∧ x ≠ g_3) ∧ x < zB) (fun x hx hl => ⟨⟨hx.1, hx.2.2.2⟩, by omega⟩)
        refine WL.call eg_36 rfl rfl (iopen_calls hf.r f c l.b hfx hc) ?_
        rintro v w10 ⟨⟨pl, a9, c9', rfl, hq9, -, hs9⟩, k10⟩
        obtain ⟨L2, rfl, hL21, -, hLB2, hok2⟩ := hs9 hE2
        rw [hE2]
        have hL2l := hLB2.lt
        have zs_k10 := k10.size
        replace hf := hf.pure k10
        replace hX := hX.pure k10
        replace hMB := hMB.pure k10
        replace hC := hC.pure k10
        replace hO := hO.pure k10
        replace hp := hp.pure k10
        replace hw := hw.pure k10
        replace hq9 := hq9.lt
        refine WL.move rfl rfl (WL.extract rfl rfl rfl (WL.extract rfl rfl rfl (WL.extract rfl rfl rfl (WL.assign rfl rfl (WL.assign rfl rfl (WL.assign rfl rfl (WL.nil (WX.qa (WC.sr (WL.move rfl rfl (WL.fieldAddr (fld_65_1) rfl rfl (WL.qb Tryz.isAgg3 hC rfl rfl rfl (WL.fieldAddr (fld_65_2) rfl rfl (WL.qb Tryz.isAgg3 hC rfl rfl rfl (WL.move rfl rfl (WL.call eg_37 rfl rfl (dopen_calls hf.d (by omega) f c l.b hfx hc) ?_))))))))))))))))
        rintro v w11 ⟨⟨pm, a11, c11, rfl, hq11, -, hs11⟩, k11⟩
        obtain ⟨M2, rfl, hM21, -, hMB2, -⟩ := hs11 hE2
        rw [hE2]
        have zk11 := k11.size
        have hhf : HH (fun x => n1 ≤ x ∧ x ≠ L2 ∧ x ≠ M2 ∧ x ≠ g_3) _ R D sc := ⟨_, _, hf.mono (fun x hx hl => ⟨hx.1.1, by have := hx.2; omega, by have := hx.2; omega, hx.1.2⟩)⟩
        have zs_k11 := k11.size
        replace hX := hX.pure k11
        replace hC := hC.pure k11
        replace hO := hO.pure k11
        replace hp := hp.pure k11
        replace hw := hw.pure k11
        replace hq9 := hq9.pure k11
        replace hLB2 := hLB2.pure k11
        replace hhf := hhf.pure k11
        replace hq11 := hq11.lt
        refine WL.move rfl rfl (WL.extract rfl rfl rfl (WL.extract rfl rfl rfl (WL.extract rfl rfl rfl (WL.assign rfl rfl (WL.assign rfl rfl (WL.assign rfl rfl (WL.nil (WX.qa (WC.sr (WL.move rfl rfl (WL.move rfl rfl (WL.qs rfl rfl rfl (rfl) ?_))))))))))))
        refine WL.move rfl rfl (WL.qa rfl rfl rfl (WL.move rfl rfl (WL.qa rfl rfl rfl (WL.qs rfl rfl rfl (rfl) ?_))))
        refine WL.qc rfl rfl rfl (WL.move rfl rfl (WL.qa rfl rfl rfl (WL.move rfl rfl (WL.qa rfl rfl rfl (WL.qq Tryz.underlying66 rfl rfl rfl ?_)))))
        refine WL.qc rfl rfl rfl (WL.move rfl rfl (WL.qa rfl rfl rfl (WL.move rfl rfl (WL.qa rfl rfl rfl (WL.move rfl rfl (WL.qa rfl rfl rfl (WL.call eg_38 rfl rfl (same13_calls hq9.rsl hq11.rsl (openL_len _ _ _ _ hc)) ?_)))))))
        rintro v w12 ⟨rfl, k12⟩
        rw [decide_eq_true rfl]
        have zs_k12 := k12.size
        replace hX := hX.pure k12
        replace hC := hC.pure k12
        replace hO := hO.pure k12
        replace hp := hp.pure k12
        replace hw := hw.pure k12
        replace hq9 := hq9.pure k12
        replace hLB2 := hLB2.pure k12
        replace hhf := hhf.pure k12
        replace hq11 := hq11.pure k12
        replace hMB2 := hMB2.pure k12
        refine WL.qa rfl rfl rfl (WL.not rfl rfl (WL.qc rfl rfl rfl (WL.t (WC.qa rfl (WC.skip (WX.qc (?_)))))))
        exact WX.cutN (L2, M2, ⟨f, c, l.b, openN sc f c l.b⟩) ⟨rfl, rfl, rfl, rfl, rfl, rfl, rfl, trivial⟩ ⟨⟨_, hhf, by omega, hl3.2.1.trans hsd, hl3.2.2.trans hss⟩, ⟨by show n1 ≤ L2; omega, by show n1 ≤ M2; omega, by show L2 ≠ M2; omega⟩, hLB2, hMB2, ⟨(hl3.2.2.trans hss) ▸ hok2, rfl, rfl⟩, hX, hC, hO, hw⟩
       ·refine WL.assign rfl rfl (WL.t (WC.qa rfl (WC.sr (WL.qi rfl rfl rfl (fun h193 => ?_) (fun h193 => ?_)))))
        ·refine WL.assign rfl rfl (WL.t (WC.qb rfl (WC.seq (?_))))
         obtain ⟨k5, hk5⟩ : ∃ c, c = (B64 o.n % 5).toNat := ⟨_, rfl⟩
         have hk55 : k5 < 5 := by rw [hk5, UInt64.toNat_mod]; exact Nat.mod_lt _ (by decide)
         refine WC.qc (Nob) [0, 1, 2, 3, 4, 5, 6, 7, 8, 9, 10, 11] [] mixed rfl rfl (fun wd_5 kd_5 zd_5 => ?_)
         have zs_kd_5 := kd_5.size
         replace h := h.pure kd_5
         replace hX := hX.pure kd_5
         replace hLB := hLB.pure kd_5
         replace hMB := hMB.pure kd_5
         replace hC := hC.pure kd_5
         replace hO := hO.pure kd_5
         replace hp := hp.pure kd_5
         replace hw := hw.pure kd_5
         apply DQ.step [(10, _)] rfl ⟨rfl, trivial⟩ rfl (fun _ _ => WL.move rfl rfl  WL.q)
         apply DQ.step [(194, _)] rfl ⟨rfl, trivial⟩ rfl (fun _ _ => WL.nilCheck rfl rfl  WL.q)
         apply DQ.step [(195, _)] rfl ⟨rfl, trivial⟩ rfl (fun _ _ => WL.fieldAddr (fld_81_3) rfl rfl  WL.q)
         apply DQ.step [(196, _)] rfl ⟨rfl, trivial⟩ rfl
         ·intro wq_9 kq_9
          have zs_kq_9 := kq_9.size
          replace h := h.pure kq_9
          replace hX := hX.pure kq_9
          replace hLB := hLB.pure kq_9
          replace hMB := hMB.pure kq_9
          replace hC := hC.pure kq_9
          replace hO := hO.pure kq_9
          replace hp := hp.pure kq_9
          replace hw := hw.pure kq_9
          refine WL.qb Tryz.isAgg3 hMB rfl rfl rfl (WL.q)
         apply DQ.step [(13, _)] rfl ⟨rfl, trivial⟩ rfl (fun _ _ => WL.fieldAddr (fld_78_3) rfl rfl  WL.q)
         apply DQ.step [(198, _)] rfl ⟨rfl, trivial⟩ rfl
         ·intro wq_11 kq_11
          have zs_kq_11 := kq_11.size
          replace h := h.pure kq_11
          replace hX := hX.pure kq_11
          replace hLB := hLB.pure kq_11
          replace hMB := hMB.pure kq_11
          replace hC := hC.pure kq_11
          replace hO := hO.pure kq_11
          replace hp := hp.pure kq_11
          replace hw := hw.pure kq_11
          refine WL.qb Tryz.isAgg3 hX rfl rfl rfl (WL.q)
         apply DQ.step [(199, _)] rfl ⟨rfl, trivial⟩ rfl
         ·intro wq_12 kq_12
          have zs_kq_12 := kq_12.size
          replace h := h.pure kq_12
          replace hX := hX.pure kq_12
          replace hLB := hLB.pure kq_12
          replace hMB := hMB.pure kq_12
          replace hC := hC.pure kq_12
          replace hO := hO.pure kq_12
          replace hp := hp.pure kq_12
          replace hw := hw.pure kq_12
          refine WL.qt Tryz.underlying3 Tryz.underlying24 rfl rfl (WL.q)
         apply DQ.step [(200, _)] rfl ⟨rfl, trivial⟩ rfl (fun _ _ => WL.num rfl rfl (n_rem64 _ _ _ 5 (by decide)) rfl  WL.q)
         apply DQ.step [(201, _)] rfl ⟨rfl, trivial⟩ rfl
         ·intro wq_14 kq_14
          have zs_kq_14 := kq_14.size
          replace h := h.pure kq_14
          replace hX := hX.pure kq_14
          replace hLB := hLB.pure kq_14
          replace hMB := hMB.pure kq_14
          replace hC := hC.pure kq_14
          replace hO := hO.pure kq_14
          replace hp := hp.pure kq_14
          replace hw := hw.pure kq_14
          refine WL.c_u64_i64s (n := k5) Tryz.underlying24 Tryz.underlying3 rfl ⟨hk5.symm, by omega⟩ rfl ?_
          exact WL.q
         apply DQ.step [(197, _), (202, _)] rfl ⟨rfl, rfl, trivial⟩ rfl (fun _ _ => WL.qe rfl rfl (by omega) rfl  WL.q)
         apply DQ.step [(203, _)] rfl ⟨rfl, trivial⟩ rfl (fun _ _ => WL.qj rfl rfl (by omega) rfl  WL.q)
         apply DQ.step [(204, _)] rfl ⟨rfl, trivial⟩ rfl (fun _ _ => WL.assign rfl rfl  WL.q)
         refine DQ.done (fun _ => ?_)
         refine DL.done (fun we_18 ke_18 => ?_)
         have zs_ke_18 := ke_18.size
         replace h := h.pure ke_18
         replace hX := hX.pure ke_18
         replace hLB := hLB.pure ke_18
         replace hMB := hMB.pure ke_18
         replace hC := hC.pure ke_18
         replace hO := hO.pure ke_18
         replace hp := hp.pure ke_18
         replace hw := hw.pure ke_18
         refine WX.qa (WC.sr (WL.move rfl rfl (WL.move rfl rfl (?_))))
         obtain ⟨nb, enb⟩ : ∃ nb : Int, nb = l.b + k5 - 1 := ⟨_, rfl⟩
         rw [← enb]
         refine WL.call eg_35 rfl rfl (ireset_calls hLB nb) ?_
         rintro v w8 ⟨rfl, hL8, k8⟩
         have h3 := h.chg k8 (fun x hx e => hx.elim (fun h1 => (h.a x h1).1.2.1 e) (fun h1 => (h.b x h1).1.2.1 e))
         replace hX := hX.chg k8 (fun e => by omega)
         replace hMB := hMB.chg k8 (fun e => hLM e.symm)
         replace hC := hC.chg k8 (fun e => by omega)
         replace hO := hO.chg k8 (fun x _ h1 e => by have h1 : x < _ := h1; omega)
         replace hp := hp.chg k8 (fun x _ h1 e => by have h1 : x < _ := h1; omega)
         replace hw := hw.trans k8 (fun x h1 e => by omega)
         have z_k8 := k8.size
         refine WL.move rfl rfl (WL.move rfl rfl (WL.call eg_41 rfl rfl (dreset_calls hMB nb) ?_))
         rintro v w9 ⟨rfl, hM8, k9⟩
         have h4 := h3.chg k9 (fun x hx e => hx.elim (fun h1 => (h3.a x h1).1.2.2.1 e) (fun h1 => (h3.b x h1).1.2.2.1 e))
         replace hX := hX.chg k9 (fun e => by omega)
         replace hL8 := hL8.chg k9 (fun e => hLM e)
         replace hC := hC.chg k9 (fun e => by omega)
         replace hO := hO.chg k9 (fun x _ h1 e => by have h1 : x < _ := h1; omega)
         replace hp := hp.chg k9 (fun x _ h1 e => by have h1 : x < _ := h1; omega)
         replace hw := hw.trans k9 (fun x h1 e => by omega)
         have z_k9 := k9.size
         refine WL.qs rfl rfl rfl (rfl) (WL.t (WC.qa rfl (WC.skip (WX.qc (WX.cutN (L, M, rsL l nb) ⟨rfl, rfl, rfl, rfl, rfl, rfl, rfl, trivial⟩ ⟨⟨_, ⟨_, _, h4⟩, by omega, hsd, hss⟩, ⟨hL9, hM9, hLM⟩, hL8, hM8, ⟨rsL_ok hok nb, (rsL_fc l nb).1.trans hlf, (rsL_fc l nb).2.trans hlc⟩, hX, hC, hO, hw⟩)))))
        ·refine WL.assign rfl rfl (WL.t (WC.qa rfl (WC.sr (WL.qi rfl rfl rfl (fun h213 => ?_) (fun h213 => ?_)))))
         ·refine WL.assign rfl rfl (WL.t (WC.qb rfl (WC.seq (WC.qc ((fun x => n1 ≤ x ∧ x ≠ L ∧ x ≠ M ∧ x ≠ g_3)) [0, 1, 2, 4, 5, 6] [3, 7, 8] mixed rfl rfl (fun wd_5 kd_5 zd_5 => ?_)))))
          have zs_kd_5 := kd_5.size
          replace h := h.pure kd_5
          replace hX := hX.pure kd_5
          replace hLB := hLB.pure kd_5
          replace hMB := hMB.pure kd_5
          replace hC := hC.pure kd_5
          replace hO := hO.pure kd_5
          replace hp := hp.pure kd_5
          replace hw := hw.pure kd_5
          apply DQ.step [(4, _)] rfl ⟨rfl, trivial⟩ rfl (fun _ _ => WL.move rfl rfl  WL.q)
          apply DQ.step [(13, _)] rfl ⟨rfl, trivial⟩ rfl (fun _ _ => WL.fieldAddr (fld_78_1) rfl rfl  WL.q)
          apply DQ.step [(215, _)] rfl ⟨rfl, trivial⟩ rfl
          ·intro wq_9 kq_9
           have zs_kq_9 := kq_9.size
           replace hX := hX.chg kq_9 (by intro h1; exfalso; have h4 := h1.2; (try dsimp only at *); omega)
           replace hLB := hLB.chg kq_9 (by intro h1; exfalso; have h4 := h1.2; (try dsimp only at *); omega)
           replace hMB := hMB.chg kq_9 (by intro h1; exfalso; have h4 := h1.2; (try dsimp only at *); omega)
           replace hC := hC.chg kq_9 (by intro h1; exfalso; have h4 := h1.2; (try dsimp only at *); omega)
           refine WL.qb Tryz.isAgg3 hX rfl rfl rfl (WL.q)
          apply DQ.step [(6, _)] rfl ⟨rfl, trivial⟩ rfl (fun _ _ => WL.move rfl rfl  WL.q)
          apply DQ.step [(13, _)] rfl ⟨rfl, trivial⟩ rfl (fun _ _ => WL.fieldAddr (fld_78_1) rfl rfl  WL.q)
          apply DQ.step [(219, _)] rfl ⟨rfl, trivial⟩ rfl
          ·intro wq_12 kq_12
           have zs_kq_12 := kq_12.size
           replace hX := hX.chg kq_12 (by intro h1; exfalso; have h4 := h1.2; (try dsimp only at *); omega)
           replace hLB := hLB.chg kq_12 (by intro h1; exfalso; have h4 := h1.2; (try dsimp only at *); omega)
           replace hMB := hMB.chg kq_12 (by intro h1; exfalso; have h4 := h1.2; (try dsimp only at *); omega)
           replace hC := hC.chg kq_12 (by intro h1; exfalso; have h4 := h1.2; (try dsimp only at *); omega)
           refine WL.qb Tryz.isAgg3 hX rfl rfl rfl (WL.q)
          refine DQ.done (fun hd_6 => ?_)
          refine DL.step [(214, _), (216, _)] rfl ⟨rfl, rfl, trivial⟩ rfl (fun wq_13 kq_13 => ?_)
          have zs_kq_13 := kq_13.size
          replace h := h.pure kq_13
          replace hX := hX.pure kq_13
          replace hLB := hLB.pure kq_13
          replace hMB := hMB.pure kq_13
          replace hC := hC.pure kq_13
          replace hO := hO.pure kq_13
          replace hp := hp.pure kq_13
          replace hw := hw.pure kq_13
          replace hd_6 := hd_6.pure kq_13
          refine WL.call eg_15 rfl rfl (Lose_calls h.r o.drive) ?_
          rintro v w8 ⟨rfl, hR8, k8⟩
          have h3 := h.left0 (fun x hx => ⟨by omega, by omega, by omega, by omega⟩) hR8 k8
          have hk8 := k8.mono (M' := fun x => n1 ≤ x ∧ x ≠ L ∧ x ≠ M ∧ x ≠ g_3) (fun x _ m => (h.a x m).1)
          have z8 := k8.size
          have zs_hk8 := hk8.size
          replace hX := hX.chg hk8 (by intro h1; exfalso; have h4 := h1.2; (try dsimp only at *); omega)
          replace hLB := hLB.chg hk8 (by intro h1; exfalso; have h4 := h1.2; (try dsimp only at *); omega)
          replace hMB := hMB.chg hk8 (by intro h1; exfalso; have h4 := h1.2; (try dsimp only at *); omega)
          replace hC := hC.chg hk8 (by intro h1; exfalso; have h4 := h1.2; (try dsimp only at *); omega)
          replace hO := hO.chg hk8 (by intros; exfalso; (try dsimp only at *); omega)
          replace hp := hp.chg hk8 (by intros; exfalso; (try dsimp only at *); omega)
          replace hw := hw.chg hk8 (by intros; exfalso; (try dsimp only at *); omega)
          replace hd_6 := hd_6.chg hk8 (by intro x h1 h2; exact h2)
          refine WL.nil (WX.one ⟨hd_6, ?_⟩)
          refine DL.step [(218, _), (220, _)] rfl ⟨rfl, rfl, trivial⟩ rfl (fun wq_14 kq_14 => ?_)
          have zs_kq_14 := kq_14.size
          replace hX := hX.pure kq_14
          replace hLB := hLB.pure kq_14
          replace hMB := hMB.pure kq_14
          replace hC := hC.pure kq_14
          replace hO := hO.pure kq_14
          replace hp := hp.pure kq_14
          replace hw := hw.pure kq_14
          replace hd_6 := hd_6.pure kq_14
          replace h3 := h3.pure kq_14
          refine WL.call eg_16 rfl rfl (dLose_calls h3.d (by omega) o.drive) ?_
          rintro v w9 ⟨rfl, hD9, k9⟩
          have hf := h3.right (fun x hx => ⟨by omega, by omega, by omega, by omega⟩) hD9 k9
          have hk9 := k9.mono (M' := fun x => n1 ≤ x ∧ x ≠ L ∧ x ≠ M ∧ x ≠ g_3) (fun x _ m => (h3.b x m).1)
          have hl3 : (if isS s o.drive then loseS s o.drive true else s).waits.length ≤ s.waits.length + 64 ∧ (if isS s o.drive then loseS s o.drive true else s).dn = s.dn ∧ (if isS s o.drive then loseS s o.drive true else s).sn = s.sn := ⟨by have := (loseI_len s o.drive).1; omega, (loseI_len s o.drive).2⟩
          have zs_hk9 := hk9.size
          replace hX := hX.chg hk9 (by intro h1; exfalso; have h4 := h1.2; (try dsimp only at *); omega)
          replace hLB := hLB.chg hk9 (by intro h1; exfalso; have h4 := h1.2; (try dsimp only at *); omega)
          replace hMB := hMB.chg hk9 (by intro h1; exfalso; have h4 := h1.2; (try dsimp only at *); omega)
          replace hC := hC.chg hk9 (by intro h1; exfalso; have h4 := h1.2; (try dsimp only at *); omega)
          replace hO := hO.chg hk9 (by intros; exfalso; (try dsimp only at *); omega)
          replace hp := hp.chg hk9 (by intros; exfalso; (try dsimp only at *); omega)
          replace hw := hw.chg hk9 (by intros; exfalso; (try dsimp only at *); omega)
          replace hd_6 := hd_6.chg hk9 (by intro x h1 h2; exact h2)
          refine WL.nil (WX.one ⟨hd_6, ?_⟩)
          refine DL.step [(217, _), (221, _)] rfl ⟨rfl, rfl, trivial⟩ rfl (fun wq_15 kq_15 => ?_)
          have zs_kq_15 := kq_15.size
          replace hX := hX.pure kq_15
          replace hLB := hLB.pure kq_15
          replace hMB := hMB.pure kq_15
          replace hC := hC.pure kq_15
          replace hO := hO.pure kq_15
          replace hp := hp.pure kq_15
          replace hw := hw.pure kq_15
          replace hd_6 := hd_6.pure kq_15
          replace hf := hf.pure kq_15
          refine WL.qs rfl rfl rfl (rfl) (WL.nil ?_)
          refine WX.one ⟨hd_6, ?_⟩
          refine DL.done (fun we_16 ke_16 => ?_)
          have zs_ke_16 := ke_16.size
          replace hX := hX.pure ke_16
          replace hLB := hLB.pure ke_16
          replace hMB := hMB.pure ke_16
          replace hC := hC.pure ke_16
          replace hO := hO.pure ke_16
          replace hp := hp.pure ke_16
          replace hw := hw.pure ke_16
          replace hd_6 := hd_6.pure ke_16
          replace hf := hf.pure ke_16
          refine WX.qa (WC.qa rfl (WC.skip (WX.qc (WX.cutN (L, M, l) ⟨rfl, rfl, rfl, rfl, rfl, rfl, rfl, trivial⟩ ⟨⟨_, ⟨_, _, hf⟩, by omega, hl3.2.1.trans hsd, hl3.2.2.trans hss⟩, ⟨hL9, hM9, hLM⟩, hLB, hMB, ⟨hok, hlf, hlc⟩, hX, hC, hO, hw⟩))))
         ·refine WL.assign rfl rfl (WL.t (WC.qa rfl (WC.sr (WL.qi rfl rfl rfl (fun h224 => ?_) (fun h224 => ?_)))))
          ·refine WL.assign rfl rfl (WL.t (WC.qb rfl (WC.seq (WC.qc ((fun x => n1 ≤ x ∧ x ≠ L ∧ x ≠ M ∧ x ≠ g_3)) [0, 1, 2, 4, 5, 6] [3, 7, 8] mixed rfl rfl (fun wd_5 kd_5 zd_5 => ?_)))))
           have zs_kd_5 := kd_5.size
           replace h := h.pure kd_5
           replace hX := hX.pure kd_5
           replace hLB := hLB.pure kd_5
           replace hMB := hMB.pure kd_5
           replace hC := hC.pure kd_5
           replace hO := hO.pure kd_5
           replace hp := hp.pure kd_5
           replace hw := hw.pure kd_5
           apply DQ.step [(4, _)] rfl ⟨rfl, trivial⟩ rfl (fun _ _ => WL.move rfl rfl  WL.q)
           apply DQ.step [(13, _)] rfl ⟨rfl, trivial⟩ rfl (fun _ _ => WL.fieldAddr (fld_78_1) rfl rfl  WL.q)
           apply DQ.step [(226, _)] rfl ⟨rfl, trivial⟩ rfl
           ·intro wq_9 kq_9
            have zs_kq_9 := kq_9.size
            replace hX := hX.chg kq_9 (by intro h1; exfalso; have h4 := h1.2; (try dsimp only at *); omega)
            replace hLB := hLB.chg kq_9 (by intro h1; exfalso; have h4 := h1.2; (try dsimp only at *); omega)
            replace hMB := hMB.chg kq_9 (by intro h1; exfalso; have h4 := h1.2; (try dsimp only at *); omega)
            replace hC := hC.chg kq_9 (by intro h1; exfalso; have h4 := h1.2; (try dsimp only at *); omega)
            refine WL.qb Tryz.isAgg3 hX rfl rfl rfl (WL.q)
           apply DQ.step [(6, _)] rfl ⟨rfl, trivial⟩ rfl (fun _ _ => WL.move rfl rfl  WL.q)
           apply DQ.step [(13, _)] rfl ⟨rfl, trivial⟩ rfl (fun _ _ => WL.fieldAddr (fld_78_1) rfl rfl  WL.q)
           apply DQ.step [(230, _)] rfl ⟨rfl, trivial⟩ rfl
           ·intro wq_12 kq_12
            have zs_kq_12 := kq_12.size
            replace hX := hX.chg kq_12 (by intro h1; exfalso; have h4 := h1.2; (try dsimp only at *); omega)
            replace hLB := hLB.chg kq_12 (by intro h1; exfalso; have h4 := h1.2; (try dsimp only at *); omega)
            replace hMB := hMB.chg kq_12 (by intro h1; exfalso; have h4 := h1.2; (try dsimp only at *); omega)
            replace hC := hC.chg kq_12 (by intro h1; exfalso; have h4 := h1.2; (try dsimp only at *); omega)
            refine WL.qb Tryz.isAgg3 hX rfl rfl rfl (WL.q)
           refine DQ.done (fun hd_6 => ?_)
           refine DL.step [(225, _), (227, _)] rfl ⟨rfl, rfl, trivial⟩ rfl (fun wq_13 kq_13 => ?_)
           have zs_kq_13 := kq_13.size
           replace h := h.pure kq_13
           replace hX := hX.pure kq_13
           replace hLB := hLB.pure kq_13
           replace hMB := hMB.pure kq_13
           replace hC := hC.pure kq_13
           replace hO := hO.pure kq_13
           replace hp := hp.pure kq_13
           replace hw := hw.pure kq_13
           replace hd_6 := hd_6.pure kq_13
           refine WL.call eg_17 rfl rfl (Replace_calls h.r o.drive) ?_
           rintro v w8 ⟨rfl, hR8, k8⟩
           have h3 := h.left0 (fun x hx => ⟨by omega, by omega, by omega, by omega⟩) hR8 k8
           have hk8 := k8.mono (M' := fun x => n1 ≤ x ∧ x ≠ L ∧ x ≠ M ∧ x ≠ g_3) (fun x _ m => (h.a x m).1)
           have z8 := k8.size
           have zs_hk8 := hk8.size
           replace hX := hX.chg hk8 (by intro h1; exfalso; have h4 := h1.2; (try dsimp only at *); omega)
           replace hLB := hLB.chg hk8 (by intro h1; exfalso; have h4 := h1.2; (try dsimp only at *); omega)
           replace hMB := hMB.chg hk8 (by intro h1; exfalso; have h4 := h1.2; (try dsimp only at *); omega)
           replace hC := hC.chg hk8 (by intro h1; exfalso; have h4 := h1.2; (try dsimp only at *); omega)
           replace hO := hO.chg hk8 (by intros; exfalso; (try dsimp only at *); omega)
           replace hp := hp.chg hk8 (by intros; exfalso; (try dsimp only at *); omega)
           replace hw := hw.chg hk8 (by intros; exfalso; (try dsimp only at *); omega)
           replace hd_6 := hd_6.chg hk8 (by intro x h1 h2; exact h2)
           refine WL.nil (WX.one ⟨hd_6, ?_⟩)
           refine DL.step [(229, _), (231, _)] rfl ⟨rfl, rfl, trivial⟩ rfl (fun wq_14 kq_14 => ?_)
           have zs_kq_14 := kq_14.size
           replace hX := hX.pure kq_14
           replace hLB := hLB.pure kq_14
           replace hMB := hMB.pure kq_14
           replace hC := hC.pure kq_14
           replace hO := hO.pure kq_14
           replace hp := hp.pure kq_14
           replace hw := hw.pure kq_14
           replace hd_6 := hd_6.pure kq_14
           replace h3 := h3.pure kq_14
           refine WL.call eg_18 rfl rfl (dReplace_calls h3.d (by omega) o.drive) ?_
           rintro v w9 ⟨rfl, hD9, k9⟩
           have hf := h3.right (fun x hx => ⟨by omega, by omega, by omega, by omega⟩) hD9 k9
           have hk9 := k9.mono (M' := fun x => n1 ≤ x ∧ x ≠ L ∧ x ≠ M ∧ x ≠ g_3) (fun x _ m => (h3.b x m).1)
           have hl3 : (if isS s o.drive then replaceS s o.drive else s).waits.length ≤ s.waits.length + 64 ∧ (if isS s o.drive then replaceS s o.drive else s).dn = s.dn ∧ (if isS s o.drive then replaceS s o.drive else s).sn = s.sn := ⟨by have := (replaceI_len s o.drive).1; omega, (replaceI_len s o.drive).2⟩
           have zs_hk9 := hk9.size
           replace hX := hX.chg hk9 (by intro h1; exfalso; have h4 := h1.2; (try dsimp only at *); omega)
           replace hLB := hLB.chg hk9 (by intro h1; exfalso; have h4 := h1.2; (try dsimp only at *); omega)
           replace hMB := hMB.chg hk9 (by intro h1; exfalso; have h4 := h1.2; (try dsimp only at *); omega)
           replace hC := hC.chg hk9 (by intro h1; exfalso; have h4 := h1.2; (try dsimp only at *); omega)
           replace hO := hO.chg hk9 (by intros; exfalso; (try dsimp only at *); omega)
           replace hp := hp.chg hk9 (by intros; exfalso; (try dsimp only at *); omega)
           replace hw := hw.chg hk9 (by intros; exfalso; (try dsimp only at *); omega)
           replace hd_6 := hd_6.chg hk9 (by intro x h1 h2; exact h2)
           refine WL.nil (WX.one ⟨hd_6, ?_⟩)
           refine DL.step [(228, _), (232, _)] rfl ⟨rfl, rfl, trivial⟩ rfl (fun wq_15 kq_15 => ?_)
           have zs_kq_15 := kq_15.size
           replace hX := hX.pure kq_15
           replace hLB := hLB.pure kq_15
           replace hMB := hMB.pure kq_15
           replace hC := hC.pure kq_15
           replace hO := hO.pure kq_15
           replace hp := hp.pure kq_15
           replace hw := hw.pure kq_15
           replace hd_6 := hd_6.pure kq_15
           replace hf := hf.pure kq_15
           refine WL.qs rfl rfl rfl (rfl) (WL.nil ?_)
           refine WX.one ⟨hd_6, ?_⟩
           refine DL.done (fun we_16 ke_16 => ?_)
           have zs_ke_16 := ke_16.size
           replace hX := hX.pure ke_16
           replace hLB := hLB.pure ke_16
           replace hMB := hMB.pure ke_16
           replace hC := hC.pure ke_16
           replace hO := hO.pure ke_16
           replace hp := hp.pure ke_16
           replace hw := hw.pure ke_16
           replace hd_6 := hd_6.pure ke_16
           replace hf := hf.pure ke_16
           refine WX.qa (WC.qa rfl (WC.skip (WX.qc (WX.cutN (L, M, l) ⟨rfl, rfl, rfl, rfl, rfl, rfl, rfl, trivial⟩ ⟨⟨_, ⟨_, _, hf⟩, by omega, hl3.2.1.trans hsd, hl3.2.2.trans hss⟩, ⟨hL9, hM9, hLM⟩, hLB, hMB, ⟨hok, hlf, hlc⟩, hX, hC, hO, hw⟩))))
          ·refine WL.assign rfl rfl (WL.t (WC.qa rfl (WC.sr (WL.qi rfl rfl rfl (fun h235 => ?_) (fun h235 => ?_)))))
           ·refine WL.assign rfl rfl (WL.t (WC.qb rfl (WC.seq (WC.qc ((fun x => n1 ≤ x ∧ x ≠ L ∧ x ≠ M ∧ x ≠ g_3)) [0, 1, 2, 3, 4, 5, 6, 8, 9, 10, 11, 12, 13, 14] [7, 15, 16] mixed rfl rfl (fun wd_5 kd_5 zd_5 => ?_)))))
            have zs_kd_5 := kd_5.size
            replace h := h.pure kd_5
            replace hX := hX.pure kd_5
            replace hLB := hLB.pure kd_5
            replace hMB := hMB.pure kd_5
            replace hC := hC.pure kd_5
            replace hO := hO.pure kd_5
            replace hp := hp.pure kd_5
            replace hw := hw.pure kd_5
            apply DQ.step [(4, _)] rfl ⟨rfl, trivial⟩ rfl (fun _ _ => WL.move rfl rfl  WL.q)
            apply DQ.step [(13, _)] rfl ⟨rfl, trivial⟩ rfl (fun _ _ => WL.fieldAddr (fld_78_1) rfl rfl  WL.q)
            apply DQ.step [(237, _)] rfl ⟨rfl, trivial⟩ rfl
            ·intro wq_9 kq_9
             have zs_kq_9 := kq_9.size
             replace hX := hX.chg kq_9 (by intro h1; exfalso; have h4 := h1.2; (try dsimp only at *); omega)
             replace hLB := hLB.chg kq_9 (by intro h1; exfalso; have h4 := h1.2; (try dsimp only at *); omega)
             replace hMB := hMB.chg kq_9 (by intro h1; exfalso; have h4 := h1.2; (try dsimp only at *); omega)
             replace hC := hC.chg kq_9 (by intro h1; exfalso; have h4 := h1.2; (try dsimp only at *); omega)
             refine WL.qb Tryz.isAgg3 hX rfl rfl rfl (WL.q)
            apply DQ.step [(13, _)] rfl ⟨rfl, trivial⟩ rfl (fun _ _ => WL.fieldAddr (fld_78_2) rfl rfl  WL.q)
            apply DQ.step [(239, _)] rfl ⟨rfl, trivial⟩ rfl
            ·intro wq_11 kq_11
             have zs_kq_11 := kq_11.size
             replace hX := hX.chg kq_11 (by intro h1; exfalso; have h4 := h1.2; (try dsimp only at *); omega)
             replace hLB := hLB.chg kq_11 (by intro h1; exfalso; have h4 := h1.2; (try dsimp only at *); omega)
             replace hMB := hMB.chg kq_11 (by intro h1; exfalso; have h4 := h1.2; (try dsimp only at *); omega)
             replace hC := hC.chg kq_11 (by intro h1; exfalso; have h4 := h1.2; (try dsimp only at *); omega)
             refine WL.qb Tryz.isAgg3 hX rfl rfl rfl (WL.q)
            apply DQ.step [(13, _)] rfl ⟨rfl, trivial⟩ rfl (fun _ _ => WL.fieldAddr (fld_78_3) rfl rfl  WL.q)
            apply DQ.step [(241, _)] rfl ⟨rfl, trivial⟩ rfl
            ·intro wq_13 kq_13
             have zs_kq_13 := kq_13.size
             replace hX := hX.chg kq_13 (by intro h1; exfalso; have h4 := h1.2; (try dsimp only at *); omega)
             replace hLB := hLB.chg kq_13 (by intro h1; exfalso; have h4 := h1.2; (try dsimp only at *); omega)
             replace hMB := hMB.chg kq_13 (by intro h1; exfalso; have h4 := h1.2; (try dsimp only at *); omega)
             replace hC := hC.chg kq_13 (by intro h1; exfalso; have h4 := h1.2; (try dsimp only at *); omega)
             refine WL.qb Tryz.isAgg3 hX rfl rfl rfl (WL.q)
            apply DQ.step [(6, _)] rfl ⟨rfl, trivial⟩ rfl (fun _ _ => WL.move rfl rfl  WL.q)
            apply DQ.step [(13, _)] rfl ⟨rfl, trivial⟩ rfl (fun _ _ => WL.fieldAddr (fld_78_1) rfl rfl  WL.q)
            apply DQ.step [(245, _)] rfl ⟨rfl, trivial⟩ rfl
            ·intro wq_16 kq_16
             have zs_kq_16 := kq_16.size
             replace hX := hX.chg kq_16 (by intro h1; exfalso; have h4 := h1.2; (try dsimp only at *); omega)
             replace hLB := hLB.chg kq_16 (by intro h1; exfalso; have h4 := h1.2; (try dsimp only at *); omega)
             replace hMB := hMB.chg kq_16 (by intro h1; exfalso; have h4 := h1.2; (try dsimp only at *); omega)
             replace hC := hC.chg kq_16 (by intro h1; exfalso; have h4 := h1.2; (try dsimp only at *); omega)
             refine WL.qb Tryz.isAgg3 hX rfl rfl rfl (WL.q)
            apply DQ.step [(13, _)] rfl ⟨rfl, trivial⟩ rfl (fun _ _ => WL.fieldAddr (fld_78_2) rfl rfl  WL.q)
            apply DQ.step [(247, _)] rfl ⟨rfl, trivial⟩ rfl
            ·intro wq_18 kq_18
             have zs_kq_18 := kq_18.size
             replace hX := hX.chg kq_18 (by intro h1; exfalso; have h4 := h1.2; (try dsimp only at *); omega)
             replace hLB := hLB.chg kq_18 (by intro h1; exfalso; have h4 := h1.2; (try dsimp only at *); omega)
             replace hMB := hMB.chg kq_18 (by intro h1; exfalso; have h4 := h1.2; (try dsimp only at *); omega)
             replace hC := hC.chg kq_18 (by intro h1; exfalso; have h4 := h1.2; (try dsimp only at *); omega)
             refine WL.qb Tryz.isAgg3 hX rfl rfl rfl (WL.q)
            apply DQ.step [(13, _)] rfl ⟨rfl, trivial⟩ rfl (fun _ _ => WL.fieldAddr (fld_78_3) rfl rfl  WL.q)
            apply DQ.step [(249, _)] rfl ⟨rfl, trivial⟩ rfl
            ·intro wq_20 kq_20
             have zs_kq_20 := kq_20.size
             replace hX := hX.chg kq_20 (by intro h1; exfalso; have h4 := h1.2; (try dsimp only at *); omega)
             replace hLB := hLB.chg kq_20 (by intro h1; exfalso; have h4 := h1.2; (try dsimp only at *); omega)
             replace hMB := hMB.chg kq_20 (by intro h1; exfalso; have h4 := h1.2; (try dsimp only at *); omega)
             replace hC := hC.chg kq_20 (by intro h1; exfalso; have h4 := h1.2; (try dsimp only at *); omega)
             refine WL.qb Tryz.isAgg3 hX rfl rfl rfl (WL.q)
            refine DQ.done (fun hd_6 => ?_)
            refine DL.step [(236, _), (238, _), (240, _), (242, _)] rfl ⟨rfl, rfl, rfl, rfl, trivial⟩ rfl (fun wq_21 kq_21 => ?_)
            have zs_kq_21 := kq_21.size
            replace h := h.pure kq_21
            replace hX := hX.pure kq_21
            replace hLB := hLB.pure kq_21
            replace hMB := hMB.pure kq_21
            replace hC := hC.pure kq_21
            replace hO := hO.pure kq_21
            replace hp := hp.pure kq_21
            replace hw := hw.pure kq_21
            replace hd_6 := hd_6.pure kq_21
            refine WL.call eg_19 rfl rfl (Rot_calls h.r o.drive o.at_ o.n hon2) ?_
            rintro v w8 ⟨rfl, hR8, k8⟩
            have h3 := h.left (fun x hx => ⟨by omega, by omega, by omega, by omega⟩) hR8 k8
            have hk8 := k8.mono (M' := fun x => n1 ≤ x ∧ x ≠ L ∧ x ≠ M ∧ x ≠ g_3) (fun x _ m => (h.a x m).1)
            have z8 := k8.size
            have zs_hk8 := hk8.size
            replace hX := hX.chg hk8 (by intro h1; exfalso; have h4 := h1.2; (try dsimp only at *); omega)
            replace hLB := hLB.chg hk8 (by intro h1; exfalso; have h4 := h1.2; (try dsimp only at *); omega)
            replace hMB := hMB.chg hk8 (by intro h1; exfalso; have h4 := h1.2; (try dsimp only at *); omega)
            replace hC := hC.chg hk8 (by intro h1; exfalso; have h4 := h1.2; (try dsimp only at *); omega)
            replace hO := hO.chg hk8 (by intros; exfalso; (try dsimp only at *); omega)
            replace hp := hp.chg hk8 (by intros; exfalso; (try dsimp only at *); omega)
            replace hw := hw.chg hk8 (by intros; exfalso; (try dsimp only at *); omega)
            replace hd_6 := hd_6.chg hk8 (by intro x h1 h2; exact h2)
            refine WL.nil (WX.one ⟨hd_6, ?_⟩)
            refine DL.step [(244, _), (246, _), (248, _), (250, _)] rfl ⟨rfl, rfl, rfl, rfl, trivial⟩ rfl (fun wq_22 kq_22 => ?_)
            have zs_kq_22 := kq_22.size
            replace hX := hX.pure kq_22
            replace hLB := hLB.pure kq_22
            replace hMB := hMB.pure kq_22
            replace hC := hC.pure kq_22
            replace hO := hO.pure kq_22
            replace hp := hp.pure kq_22
            replace hw := hw.pure kq_22
            replace hd_6 := hd_6.pure kq_22
            replace h3 := h3.pure kq_22
            refine WL.call eg_20 rfl rfl (dRot_calls h3.d (by omega) o.drive o.at_ o.n hon2) ?_
            rintro v w9 ⟨rfl, hD9, k9⟩
            have hf := h3.right0 (fun x hx => ⟨by omega, by omega, by omega, by omega⟩) hD9 k9
            have hk9 := k9.mono (M' := fun x => n1 ≤ x ∧ x ≠ L ∧ x ≠ M ∧ x ≠ g_3) (fun x _ m => (h3.b x m).1)
            have hl3 : (if rotE s o.drive o.at_ o.n = 0 then rotS s (o.drive, o.at_) o.n else s).waits.length ≤ s.waits.length + 64 ∧ (if rotE s o.drive o.at_ o.n = 0 then rotS s (o.drive, o.at_) o.n else s).dn = s.dn ∧ (if rotE s o.drive o.at_ o.n = 0 then rotS s (o.drive, o.at_) o.n else s).sn = s.sn := ⟨by have := (rotI_len s o.drive o.at_ o.n).1; omega, (rotI_len s o.drive o.at_ o.n).2⟩
            have zs_hk9 := hk9.size
            replace hX := hX.chg hk9 (by intro h1; exfalso; have h4 := h1.2; (try dsimp only at *); omega)
            replace hLB := hLB.chg hk9 (by intro h1; exfalso; have h4 := h1.2; (try dsimp only at *); omega)
            replace hMB := hMB.chg hk9 (by intro h1; exfalso; have h4 := h1.2; (try dsimp only at *); omega)
            replace hC := hC.chg hk9 (by intro h1; exfalso; have h4 := h1.2; (try dsimp only at *); omega)
            replace hO := hO.chg hk9 (by intros; exfalso; (try dsimp only at *); omega)
            replace hp := hp.chg hk9 (by intros; exfalso; (try dsimp only at *); omega)
            replace hw := hw.chg hk9 (by intros; exfalso; (try dsimp only at *); omega)
            replace hd_6 := hd_6.chg hk9 (by intro x h1 h2; exact h2)
            refine WL.nil (WX.one ⟨hd_6, ?_⟩)
            refine DL.step [(243, _), (251, _)] rfl ⟨rfl, rfl, trivial⟩ rfl (fun wq_23 kq_23 => ?_)
            have zs_kq_23 := kq_23.size
            replace hX := hX.pure kq_23
            replace hLB := hLB.pure kq_23
            replace hMB := hMB.pure kq_23
            replace hC := hC.pure kq_23
            replace hO := hO.pure kq_23
            replace hp := hp.pure kq_23
            replace hw := hw.pure kq_23
            replace hd_6 := hd_6.pure kq_23
            replace hf := hf.pure kq_23
            refine WL.qs rfl rfl rfl (rfl) (WL.nil ?_)
            refine WX.one ⟨hd_6, ?_⟩
            refine DL.done (fun we_24 ke_24 => ?_)
            have zs_ke_24 := ke_24.size
            replace hX := hX.pure ke_24
            replace hLB := hLB.pure ke_24
            replace hMB := hMB.pure ke_24
            replace hC := hC.pure ke_24
            replace hO := hO.pure ke_24
            replace hp := hp.pure ke_24
            replace hw := hw.pure ke_24
            replace hd_6 := hd_6.pure ke_24
            replace hf := hf.pure ke_24
            refine WX.qa (WC.qa rfl (WC.skip (WX.qc (WX.cutN (L, M, l) ⟨rfl, rfl, rfl, rfl, rfl, rfl, rfl, trivial⟩ ⟨⟨_, ⟨_, _, hf⟩, by omega, hl3.2.1.trans hsd, hl3.2.2.trans hss⟩, ⟨hL9, hM9, hLM⟩, hLB, hMB, ⟨hok, hlf, hlc⟩, hX, hC, hO, hw⟩))))
           ·refine WL.assign rfl rfl (WL.t (WC.qa rfl (WC.sr (WL.qi rfl rfl rfl (fun h254 => ?_) (fun h254 => ?_)))))
            ·refine WL.assign rfl rfl (WL.t (WC.qb rfl (WC.sr (WL.move rfl rfl (WL.fieldAddr (fld_78_3) rfl rfl (WL.qb Tryz.isAgg3 hX rfl rfl rfl (WL.call eg_24 rfl rfl (Arm_calls h.r o.n ⟨hon1, hon2⟩) ?_)))))))
             rintro v w8 ⟨rfl, hR8, k8⟩
             have zB8 := hX.lt
             have h3 := h.left0 (fun x hx => ⟨by omega, by omega, by omega, by omega⟩) hR8 k8
             replace hX := hX.chg k8 (fun m => (h.a _ m).1.2.2.2 rfl)
             replace hLB := hLB.chg k8 (fun m => (h.a _ m).1.2.1 rfl)
             replace hMB := hMB.chg k8 (fun m => (h.a _ m).1.2.2.1 rfl)
             replace hC := hC.chg k8 (fun m => by have := (h.a _ m).1.1; omega)
             replace hO := hO.chg k8 (fun x _ h1 m => by have h1 : x < _ := h1; have := (h.a x m).1.1; omega)
             replace hp := hp.chg k8 (fun x _ h1 m => by have h1 : x < _ := h1; have := (h.a x m).1.1; omega)
             replace hw := hw.trans k8 (fun x h1 m => by have := (h.a x m).1.1; omega)
             have z_k8 := k8.size
             refine WL.t (WC.region (WL.move rfl rfl (WL.fieldAddr (fld_78_3) rfl rfl (WL.qb Tryz.isAgg3 hX rfl rfl rfl (WL.call eg_25 rfl rfl (dArm_calls h3.d o.n ⟨hon1, hon2⟩) ?_)))))
             rintro v w9 ⟨rfl, hD9, k9⟩
             have hf := h3.right0 (fun x hx => ⟨by omega, by omega, by omega, by omega⟩) hD9 k9
             replace hX := hX.chg k9 (fun m => (h3.b _ m).1.2.2.2 rfl)
             replace hLB := hLB.chg k9 (fun m => (h3.b _ m).1.2.1 rfl)
             replace hMB := hMB.chg k9 (fun m => (h3.b _ m).1.2.2.1 rfl)
             replace hC := hC.chg k9 (fun m => by have := (h3.b _ m).1.1; omega)
             replace hO := hO.chg k9 (fun x _ h1 m => by have h1 : x < _ := h1; have := (h3.b x m).1.1; omega)
             replace hp := hp.chg k9 (fun x _ h1 m => by have h1 : x < _ := h1; have := (h3.b x m).1.1; omega)
             replace hw := hw.trans k9 (fun x h1 m => by have := (h3.b x m).1.1; omega)
             have z_k9 := k9.size
             have hl3 : (armS s o.n).waits.length ≤ s.waits.length + 64 ∧ (armS s o.n).dn = s.dn ∧ (armS s o.n).sn = s.sn := ⟨by show s.waits.length ≤ _; omega, rfl, rfl⟩
             refine WL.nil (WX.qc (WX.cutN (L, M, l) ⟨rfl, rfl, rfl, rfl, rfl, rfl, rfl, trivial⟩ ⟨⟨_, ⟨_, _, hf⟩, by omega, hl3.2.1.trans hsd, hl3.2.2.trans hss⟩, ⟨hL9, hM9, hLM⟩, hLB, hMB, ⟨hok, hlf, hlc⟩, hX, hC, hO, hw⟩))
            ·refine WL.assign rfl rfl (WL.t (WC.qa rfl (WC.skip (WX.qc (WX.cutN (L, M, l) ⟨rfl, rfl, rfl, rfl, rfl, rfl, rfl, trivial⟩ ⟨⟨_, ⟨_, _, h⟩, by omega, hsd, hss⟩, ⟨hL9, hM9, hLM⟩, hLB, hMB, ⟨hok, hlf, hlc⟩, hX, hC, hO, hw⟩)))))
    ·clear hH hb_3 hX hO hp hw hLB hMB hC hlb hoks
     rintro ⟨L2, M2, l2'⟩ w6 ⟨⟨t, hH, htl, htd, hts⟩, ⟨hL9', hM9', hLM'⟩, hLB, hMB, ⟨hok', hlf', hlc'⟩, hX, hC, hO, hw⟩
     dsimp only at hH hL9' hM9' hLM' hLB hMB hok' hlf' hlc' ⊢
     have hgl6 := hX.lt
     have zw6 := hw.size
     have hlb := hok'.b
     have hlcc := hok'.c
     have hlnx := hok'.nx
     replace hH := hH.old
     refine WX.qa (WC.seq (?_))
     have hDt := hH.d
     obtain ⟨la9, lc9, ls9, ga9, gc9, wa9, wc9, hDB, hDI⟩ := hDt.ex
     have hRt := hH.r
     refine WC.qc (Nob) [0, 1, 2, 3, 4, 5, 6, 7, 8, 9, 10, 11, 12, 13, 14, 15, 16, 17, 18, 19, 20, 21, 22, 23, 24, 25, 26, 27, 28, 29, 30, 31, 32, 33, 34, 35, 36, 37, 38, 39] [] mixed rfl rfl (fun wd_5 kd_5 zd_5 => ?_)
     have zs_kd_5 := kd_5.size
     replace hX := hX.pure kd_5
     replace hC := hC.pure kd_5
     replace hO := hO.pure kd_5
     replace hw := hw.pure kd_5
     replace hLB := hLB.pure kd_5
     replace hMB := hMB.pure kd_5
     replace hH := hH.pure kd_5
     replace hDB := hDB.pure kd_5
     apply DQ.step [(13, _)] rfl ⟨rfl, trivial⟩ rfl (fun _ _ => WL.fieldAddr (fld_78_4) rfl rfl  WL.q)
     apply DQ.step [(263, _)] rfl ⟨rfl, trivial⟩ rfl
     ·intro wq_7 kq_7
      have zs_kq_7 := kq_7.size
      replace hX := hX.pure kq_7
      replace hC := hC.pure kq_7
      replace hO := hO.pure kq_7
      replace hw := hw.pure kq_7
      replace hLB := hLB.pure kq_7
      replace hMB := hMB.pure kq_7
      replace hH := hH.pure kq_7
      replace hDB := hDB.pure kq_7
      refine WL.qb Tryz.isAgg9 hX rfl rfl rfl (WL.q)
     apply DQ.step [(264, _)] rfl ⟨rfl, trivial⟩ rfl
     ·intro wq_8 kq_8
      have zs_kq_8 := kq_8.size
      replace hX := hX.pure kq_8
      replace hC := hC.pure kq_8
      replace hO := hO.pure kq_8
      replace hw := hw.pure kq_8
      replace hLB := hLB.pure kq_8
      replace hMB := hMB.pure kq_8
      replace hH := hH.pure kq_8
      replace hDB := hDB.pure kq_8
      refine WL.call eg_42 rfl rfl (need_calls o.s _ hos) ?_
      rintro v w7 ⟨rfl, k7⟩
      have zs_k7 := k7.size
      replace hX := hX.pure k7
      replace hC := hC.pure k7
      replace hO := hO.pure k7
      replace hw := hw.pure k7
      replace hLB := hLB.pure k7
      replace hMB := hMB.pure k7
      replace hH := hH.pure k7
      replace hDB := hDB.pure k7
      refine WL.nil (WX.one ⟨rfl, by assumption⟩)
     apply DQ.step [(13, _)] rfl ⟨rfl, trivial⟩ rfl (fun _ _ => WL.fieldAddr (fld_78_4) rfl rfl  WL.q)
     apply DQ.step [(266, _)] rfl ⟨rfl, trivial⟩ rfl
     ·intro wq_10 kq_10
      have zs_kq_10 := kq_10.size
      replace hX := hX.pure kq_10
      replace hC := hC.pure kq_10
      replace hO := hO.pure kq_10
      replace hw := hw.pure kq_10
      replace hLB := hLB.pure kq_10
      replace hMB := hMB.pure kq_10
      replace hH := hH.pure kq_10
      replace hDB := hDB.pure kq_10
      refine WL.qb Tryz.isAgg9 hX rfl rfl rfl (WL.q)
     apply DQ.step [(267, _)] rfl ⟨rfl, trivial⟩ rfl
     ·intro wq_11 kq_11
      have zs_kq_11 := kq_11.size
      replace hX := hX.pure kq_11
      replace hC := hC.pure kq_11
      replace hO := hO.pure kq_11
      replace hw := hw.pure kq_11
      replace hLB := hLB.pure kq_11
      replace hMB := hMB.pure kq_11
      replace hH := hH.pure kq_11
      replace hDB := hDB.pure kq_11
      refine WL.call eg_43 rfl rfl (dneed_calls o.s _ hos) ?_
      rintro v w7 ⟨rfl, k7⟩
      have zs_k7 := k7.size
      replace hX := hX.pure k7
      replace hC := hC.pure k7
      replace hO := hO.pure k7
      replace hw := hw.pure k7
      replace hLB := hLB.pure k7
      replace hMB := hMB.pure k7
      replace hH := hH.pure k7
      replace hDB := hDB.pure k7
      refine WL.nil (WX.one ⟨rfl, by assumption⟩)
     apply DQ.step [(265, _), (268, _)] rfl ⟨rfl, rfl, trivial⟩ rfl
     ·intro wq_12 kq_12
      refine WL.qs rfl rfl rfl (rfl) (WL.q)
     apply DQ.step [(269, _)] rfl ⟨rfl, trivial⟩ rfl (fun _ _ => WL.move rfl rfl  WL.q)
     apply DQ.step [(8, _), (270, _)] rfl ⟨rfl, rfl, trivial⟩ rfl (fun _ _ => WL.qa rfl rfl rfl (WL.move rfl rfl  WL.q))
     apply DQ.step [(271, _), (270, _)] rfl ⟨rfl, rfl, trivial⟩ rfl
     ·intro wq_15 kq_15
      have zs_kq_15 := kq_15.size
      replace hX := hX.pure kq_15
      replace hC := hC.pure kq_15
      replace hO := hO.pure kq_15
      replace hw := hw.pure kq_15
      replace hLB := hLB.pure kq_15
      replace hMB := hMB.pure kq_15
      replace hH := hH.pure kq_15
      replace hDB := hDB.pure kq_15
      refine WL.qa rfl rfl rfl (WL.call eg_44 rfl rfl (lbase_calls hLB) ?_)
      rintro v w7 ⟨rfl, k7⟩
      have zs_k7 := k7.size
      replace hX := hX.pure k7
      replace hC := hC.pure k7
      replace hO := hO.pure k7
      replace hw := hw.pure k7
      replace hLB := hLB.pure k7
      replace hMB := hMB.pure k7
      replace hH := hH.pure k7
      replace hDB := hDB.pure k7
      refine WL.nil (WX.one ⟨rfl, by assumption⟩)
     apply DQ.step [(10, _), (270, _)] rfl ⟨rfl, rfl, trivial⟩ rfl (fun _ _ => WL.qa rfl rfl rfl (WL.move rfl rfl  WL.q))
     apply DQ.step [(273, _), (270, _)] rfl ⟨rfl, rfl, trivial⟩ rfl (fun _ _ => WL.qa rfl rfl rfl (WL.nilCheck rfl rfl  WL.q))
     apply DQ.step [(274, _), (270, _)] rfl ⟨rfl, rfl, trivial⟩ rfl (fun _ _ => WL.qa rfl rfl rfl (WL.fieldAddr (fld_81_3) rfl rfl  WL.q))
     apply DQ.step [(275, _), (270, _)] rfl ⟨rfl, rfl, trivial⟩ rfl
     ·intro wq_19 kq_19
      have zs_kq_19 := kq_19.size
      replace hX := hX.pure kq_19
      replace hC := hC.pure kq_19
      replace hO := hO.pure kq_19
      replace hw := hw.pure kq_19
      replace hLB := hLB.pure kq_19
      replace hMB := hMB.pure kq_19
      replace hH := hH.pure kq_19
      replace hDB := hDB.pure kq_19
      refine WL.qa rfl rfl rfl (WL.qb Tryz.isAgg3 hMB rfl rfl rfl (WL.q))
     apply DQ.step [(272, _), (276, _), (270, _)] rfl ⟨rfl, rfl, rfl, trivial⟩ rfl
     ·intro wq_20 kq_20
      refine WL.qa rfl rfl rfl (WL.qs rfl rfl rfl (rfl) ?_)
      exact WL.q
     apply DQ.step [(270, _), (277, _)] rfl ⟨rfl, rfl, trivial⟩ rfl (fun _ _ => WL.qc rfl rfl rfl  WL.q)
     apply DQ.step [(278, _)] rfl ⟨rfl, trivial⟩ rfl (fun _ _ => WL.move rfl rfl  WL.q)
     apply DQ.step [(8, _), (279, _)] rfl ⟨rfl, rfl, trivial⟩ rfl (fun _ _ => WL.qa rfl rfl rfl (WL.move rfl rfl  WL.q))
     apply DQ.step [(280, _), (279, _)] rfl ⟨rfl, rfl, trivial⟩ rfl
     ·intro wq_24 kq_24
      have zs_kq_24 := kq_24.size
      replace hX := hX.pure kq_24
      replace hC := hC.pure kq_24
      replace hO := hO.pure kq_24
      replace hw := hw.pure kq_24
      replace hLB := hLB.pure kq_24
      replace hMB := hMB.pure kq_24
      replace hH := hH.pure kq_24
      replace hDB := hDB.pure kq_24
      refine WL.qa rfl rfl rfl (WL.call eg_33 rfl rfl (lroom_calls hLB hok') ?_)
      rintro v w7 ⟨rfl, k7⟩
      have zs_k7 := k7.size
      replace hX := hX.pure k7
      replace hC := hC.pure k7
      replace hO := hO.pure k7
      replace hw := hw.pure k7
      replace hLB := hLB.pure k7
      replace hMB := hMB.pure k7
      replace hH := hH.pure k7
      replace hDB := hDB.pure k7
      refine WL.nil (WX.one ⟨rfl, by assumption⟩)
     apply DQ.step [(10, _), (279, _)] rfl ⟨rfl, rfl, trivial⟩ rfl (fun _ _ => WL.qa rfl rfl rfl (WL.move rfl rfl  WL.q))
     apply DQ.step [(282, _), (279, _)] rfl ⟨rfl, rfl, trivial⟩ rfl (fun _ _ => WL.qa rfl rfl rfl (WL.nilCheck rfl rfl  WL.q))
     apply DQ.step [(283, _), (279, _)] rfl ⟨rfl, rfl, trivial⟩ rfl (fun _ _ => WL.qa rfl rfl rfl (WL.fieldAddr (fld_81_2) rfl rfl  WL.q))
     apply DQ.step [(284, _), (279, _)] rfl ⟨rfl, rfl, trivial⟩ rfl
     ·intro wq_28 kq_28
      have zs_kq_28 := kq_28.size
      replace hX := hX.pure kq_28
      replace hC := hC.pure kq_28
      replace hO := hO.pure kq_28
      replace hw := hw.pure kq_28
      replace hLB := hLB.pure kq_28
      replace hMB := hMB.pure kq_28
      replace hH := hH.pure kq_28
      replace hDB := hDB.pure kq_28
      refine WL.qa rfl rfl rfl (WL.qb Tryz.isAgg3 hMB rfl rfl rfl (WL.q))
     apply DQ.step [(10, _), (279, _)] rfl ⟨rfl, rfl, trivial⟩ rfl (fun _ _ => WL.qa rfl rfl rfl (WL.move rfl rfl  WL.q))
     apply DQ.step [(286, _), (279, _)] rfl ⟨rfl, rfl, trivial⟩ rfl (fun _ _ => WL.qa rfl rfl rfl (WL.nilCheck rfl rfl  WL.q))
     apply DQ.step [(287, _), (279, _)] rfl ⟨rfl, rfl, trivial⟩ rfl (fun _ _ => WL.qa rfl rfl rfl (WL.fieldAddr (fld_81_4) rfl rfl  WL.q))
     apply DQ.step [(288, _), (279, _)] rfl ⟨rfl, rfl, trivial⟩ rfl
     ·intro wq_32 kq_32
      have zs_kq_32 := kq_32.size
      replace hX := hX.pure kq_32
      replace hC := hC.pure kq_32
      replace hO := hO.pure kq_32
      replace hw := hw.pure kq_32
      replace hLB := hLB.pure kq_32
      replace hMB := hMB.pure kq_32
      replace hH := hH.pure kq_32
      replace hDB := hDB.pure kq_32
      refine WL.qa rfl rfl rfl (WL.qb Tryz.isAgg3 hMB rfl rfl rfl (WL.q))
     apply DQ.step [(285, _), (289, _), (279, _)] rfl ⟨rfl, rfl, rfl, trivial⟩ rfl (fun _ _ => WL.qa rfl rfl rfl (WL.qj rfl rfl (by omega) rfl  WL.q))
     apply DQ.step [(281, _), (290, _), (279, _)] rfl ⟨rfl, rfl, rfl, trivial⟩ rfl
     ·intro wq_34 kq_34
      refine WL.qa rfl rfl rfl (WL.qs rfl rfl rfl (rfl) ?_)
      exact WL.q
     apply DQ.step [(279, _), (291, _)] rfl ⟨rfl, rfl, trivial⟩ rfl (fun _ _ => WL.qc rfl rfl rfl  WL.q)
     apply DQ.step [(292, _)] rfl ⟨rfl, trivial⟩ rfl (fun _ _ => WL.move rfl rfl  WL.q)
     apply DQ.step [(4, _), (293, _)] rfl ⟨rfl, rfl, trivial⟩ rfl (fun _ _ => WL.qa rfl rfl rfl (WL.move rfl rfl  WL.q))
     apply DQ.step [(294, _), (293, _)] rfl ⟨rfl, rfl, trivial⟩ rfl
     ·intro wq_38 kq_38
      have zs_kq_38 := kq_38.size
      replace hX := hX.pure kq_38
      replace hC := hC.pure kq_38
      replace hO := hO.pure kq_38
      replace hw := hw.pure kq_38
      replace hLB := hLB.pure kq_38
      replace hMB := hMB.pure kq_38
      replace hH := hH.pure kq_38
      replace hDB := hDB.pure kq_38
      refine WL.qa rfl rfl rfl (WL.call eg_45 rfl rfl (Pending_calls hH.r) ?_)
      rintro v w7 ⟨rfl, k7⟩
      have zs_k7 := k7.size
      replace hX := hX.pure k7
      replace hC := hC.pure k7
      replace hO := hO.pure k7
      replace hw := hw.pure k7
      replace hLB := hLB.pure k7
      replace hMB := hMB.pure k7
      replace hH := hH.pure k7
      replace hDB := hDB.pure k7
      refine WL.nil (WX.one ⟨rfl, by assumption⟩)
     apply DQ.step [(6, _), (293, _)] rfl ⟨rfl, rfl, trivial⟩ rfl (fun _ _ => WL.qa rfl rfl rfl (WL.move rfl rfl  WL.q))
     apply DQ.step [(296, _), (293, _)] rfl ⟨rfl, rfl, trivial⟩ rfl
     ·intro wq_40 kq_40
      refine WL.qa rfl rfl rfl (WL.nilCheck rfl rfl ?_)
      exact WL.q
     apply DQ.step [(297, _), (293, _)] rfl ⟨rfl, rfl, trivial⟩ rfl (fun _ _ => WL.qa rfl rfl rfl (WL.fieldAddr (fld_87_2) rfl rfl  WL.q))
     apply DQ.step [(298, _), (293, _)] rfl ⟨rfl, rfl, trivial⟩ rfl
     ·intro wq_42 kq_42
      have zs_kq_42 := kq_42.size
      replace hX := hX.pure kq_42
      replace hC := hC.pure kq_42
      replace hO := hO.pure kq_42
      replace hw := hw.pure kq_42
      replace hLB := hLB.pure kq_42
      replace hMB := hMB.pure kq_42
      replace hH := hH.pure kq_42
      replace hDB := hDB.pure kq_42
      refine WL.qa rfl rfl rfl (WL.qb Tryz.isAgg85 hDB rfl rfl rfl (WL.q))
     apply DQ.step [(299, _), (293, _)] rfl ⟨rfl, rfl, trivial⟩ rfl
     ·intro wq_43 kq_43
      have zs_kq_43 := kq_43.size
      replace hX := hX.pure kq_43
      replace hC := hC.pure kq_43
      replace hO := hO.pure kq_43
      replace hw := hw.pure kq_43
      replace hLB := hLB.pure kq_43
      replace hMB := hMB.pure kq_43
      replace hH := hH.pure kq_43
      replace hDB := hDB.pure kq_43
      refine WL.qa rfl rfl rfl (WL.len Tryz.underlying85 rfl rfl ?_)
      exact WL.q
     apply DQ.step [(295, _), (300, _), (293, _)] rfl ⟨rfl, rfl, rfl, trivial⟩ rfl
     ·intro wq_44 kq_44
      refine WL.qa rfl rfl rfl (WL.qs rfl rfl rfl (rfl) ?_)
      exact WL.q
     apply DQ.step [(293, _), (301, _)] rfl ⟨rfl, rfl, trivial⟩ rfl (fun _ _ => WL.qc rfl rfl rfl  WL.q)
     refine DQ.done (fun _ => ?_)
     refine DL.done (fun we_46 ke_46 => ?_)
     have zs_ke_46 := ke_46.size
     replace hX := hX.pure ke_46
     replace hC := hC.pure ke_46
     replace hO := hO.pure ke_46
     replace hw := hw.pure ke_46
     replace hLB := hLB.pure ke_46
     replace hMB := hMB.pure ke_46
     replace hH := hH.pure ke_46
     replace hDB := hDB.pure ke_46
     refine WX.qa (WC.qa rfl (WC.skip (WX.qc (WX.qa (WC.region (WL.move rfl rfl (WL.qe rfl rfl (by omega) rfl (?_))))))))
     refine WL.assign rfl rfl (WL.nil (?_))
     exact WX.qf (i + 1, L2, M2, l2') ⟨rfl, rfl, rfl, rfl, rfl, rfl, trivial⟩ ⟨⟨by dsimp only; omega, by dsimp only; omega⟩, hC, hO, hw, ⟨hL9', hM9', hLM'⟩, hLB, hMB, ⟨hok', hlf', hlc'⟩, t, hH.mono (fun x hx => ⟨hx.1.1, hx.1.2.1, hx.1.2.2.1⟩), htl, htd, hts⟩ (by show 30 - (i + 1) < 30 - i; omega)
   ·refine WL.qd rfl rfl rfl (WL.move rfl rfl (WL.pass rfl rfl rfl rfl (WL.pass rfl rfl rfl rfl (WL.qc rfl rfl rfl (WL.t (WC.qa rfl (WC.exit (WX.qd (WX.qd (WX.qh (WX.qa (WC.sr (WL.assign rfl rfl (WL.t (WC.ret (WX.qg (.inl rfl) Tryz.results4 rfl ?_))))))))))))))))
    exact ⟨_, rfl, rfl, hw⟩
  ·refine WL.move rfl rfl (WL.pass rfl rfl rfl rfl (WL.pass rfl rfl rfl rfl (WL.qc rfl rfl rfl (WL.move rfl rfl (WL.pass rfl rfl rfl rfl (WL.pass rfl rfl rfl rfl (WL.qc rfl rfl rfl (WL.t (WC.qa rfl (WC.exit (WX.qd (WX.qd (WX.qh (WX.qa (WC.sr (WL.assign rfl rfl (WL.t (WC.ret (WX.qg (.inl rfl) Tryz.results4 rfl ?_)))))))))))))))))))
   exact ⟨_, rfl, rfl, hw⟩
 ·obtain rfl := hn9 hE
  obtain rfl := hn11 hE
  clear hn9 hn11 hs9 hs11
  refine WL.move rfl rfl (WL.extract rfl rfl rfl (WL.extract rfl rfl rfl (WL.extract rfl rfl rfl (WL.assign rfl rfl (WL.assign rfl rfl (WL.assign rfl rfl (WL.nil (WX.qa (WC.seq (WC.sr (WL.move rfl rfl (WL.move rfl rfl (WL.qs rfl rfl rfl (rfl) ?_)))))))))))))
  refine WL.move rfl rfl (WL.qa rfl rfl rfl (WL.move rfl rfl (WL.qa rfl rfl rfl (WL.qq Tryz.underlying66 rfl rfl rfl ?_))))
  refine WL.qa rfl rfl rfl (WL.move rfl rfl (WL.qa rfl rfl rfl (WL.qq Tryz.underlying73 rfl rfl rfl ?_)))
  refine WL.qa rfl rfl rfl (WL.bneq Tryz.underlying4 rfl rfl rfl ?_)
  refine WL.qc rfl rfl rfl (WL.move rfl rfl (WL.qa rfl rfl rfl (WL.move rfl rfl (WL.qa rfl rfl rfl (WL.move rfl rfl (WL.qa rfl rfl rfl (WL.call eg_38 rfl rfl (same13_calls hq9.rsl hq11.rsl hLLl) ?_)))))))
  rintro v w7 ⟨rfl, k7⟩
  rw [decide_eq_true rfl]
  have zs_k7 := k7.size
  replace hO := hO.pure k7
  replace hw := hw.pure k7
  replace hC := hC.pure k7
  replace hH := hH.pure k7
  replace hq9 := hq9.pure k7
  replace hq11 := hq11.pure k7
  refine WL.qa rfl rfl rfl (WL.not rfl rfl (WL.qc rfl rfl rfl (WL.t (WC.qa rfl (WC.skip (WX.qa (WC.seq (WC.sr (WL.assign rfl rfl (WL.t (WC.block (WC.loop (σ := Unit) (fun _ => [(1, ptr g_1), (10, .pointer none), (12, vi 0)]) (fun _ w' => Blk w' g_1 65 [vi dr, vi f, vi c, vi b, .slice a2 l2.length c2] ∧ Chg Nob w w') (fun _ => 0) () ⟨rfl, rfl, rfl, trivial⟩ ⟨hC, hw⟩ ?_))))))))))))
  clear hC hw hO hH hq9 hq11
  rintro ⟨⟩ w4 ⟨hC, hw⟩
  refine WC.seq (WC.sr (WL.move rfl rfl (WL.fieldAddr (fld_65_4) rfl rfl (WL.qb Tryz.isAgg63 hC rfl rfl rfl (WL.len Tryz.underlying63 rfl rfl (WL.qh rfl rfl rfl (fun h99 => ?_) (fun h99 => ?_)))))))
  ·refine WL.move rfl rfl (WL.qa rfl rfl rfl (WL.move rfl rfl (WL.qa rfl rfl rfl (WL.qh rfl rfl rfl (fun h102 => ?_) (fun h102 => ?_)))))
   ·refine WL.qd rfl rfl rfl (WL.move rfl rfl (WL.qa rfl rfl rfl (WL.move rfl rfl (WL.qa rfl rfl rfl (WL.ptrSome Tryz.underlying73 rfl rfl rfl ?_)))))
    refine WL.qd rfl rfl rfl (WL.t (WC.qa rfl (WC.exit (WX.qd (WX.qd (WX.qh (WX.qa (WC.sr (WL.assign rfl rfl (WL.t (WC.ret (WX.qg (.inl rfl) Tryz.results4 rfl ?_))))))))))))
    exact ⟨_, rfl, rfl, hw⟩
   ·refine WL.qd rfl rfl rfl (WL.move rfl rfl (WL.pass rfl rfl rfl rfl (WL.pass rfl rfl rfl rfl (WL.qc rfl rfl rfl (WL.t (WC.qa rfl (WC.exit (WX.qd (WX.qd (WX.qh (WX.qa (WC.sr (WL.assign rfl rfl (WL.t (WC.ret (WX.qg (.inl rfl) Tryz.results4 rfl ?_))))))))))))))))
    exact ⟨_, rfl, rfl, hw⟩
  ·refine WL.move rfl rfl (WL.pass rfl rfl rfl rfl (WL.pass rfl rfl rfl rfl (WL.qc rfl rfl rfl (WL.move rfl rfl (WL.pass rfl rfl rfl rfl (WL.pass rfl rfl rfl rfl (WL.qc rfl rfl rfl (WL.t (WC.qa rfl (WC.exit (WX.qd (WX.qd (WX.qh (WX.qa (WC.sr (WL.assign rfl rfl (WL.t (WC.ret (WX.qg (.inl rfl) Tryz.results4 rfl ?_)))))))))))))))))))
   exact ⟨_, rfl, rfl, hw⟩
end Go.Proofs.YtjeldcjchipdgaaGreatDoor
