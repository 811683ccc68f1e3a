import Derived.Test.YtjeldcjchipdgaaGreatDoorQLabelPlays9
namespace Go.Proofs.YtjeldcjchipdgaaGreatDoor
open Go.RowKit Go.HL
set_option maxRecDepth 100000
theorem decV_not {b : List UInt8} {u : UbV} (hd : decU b = if encE u = 0 ∧ encB u = b then some u else none) : (encE u = 0 → encB u = b → decV b = u ∧ decEr b = 0) ∧ (¬ (encE u = 0 ∧ encB u = b) → decV b = zeroU ∧ decEr b = 2) := by
 refine ⟨fun h1 h2 => ?_, fun h => ?_⟩
 ·rw [if_pos ⟨h1, h2⟩] at hd
  exact decU_yes hd
 ·rw [if_neg h] at hd
  exact decU_no hd
theorem decU_try {b : List UInt8} {i0 i1 i2 : Item} (hu : unE b = 0) (hL : unL b = [i0, i1, i2]) (hp : (unpR i2.s).2 = 0) (hr : RIt i1) : WfU ⟨i1.n, (unpR i2.s).1⟩ ∧ (decU b = if encE ⟨i1.n, (unpR i2.s).1⟩ = 0 ∧ encB ⟨i1.n, (unpR i2.s).1⟩ = b then some ⟨i1.n, (unpR i2.s).1⟩ else none) := by
 have hw : WfU ⟨i1.n, (unpR i2.s).1⟩ := ⟨hr, (unp_inv hp).2.1⟩
 refine ⟨hw, ?_⟩
 split
 ·rename_i h
  have := dec_enc h.1 hw
  rw [h.2] at this
  exact this
 ·rename_i h
  have h3 := decU_three hu hL
  by_cases hc : i0 = ⟨1, 77, ⟨#[]⟩⟩ ∧ i1.kind = 1 ∧ 1 ≤ i1.n ∧ i2.kind = 2 ∧ (unpR i2.s).2 = 0
  ·rw [if_pos hc] at h3
   obtain ⟨d1, d2, _⟩ := dec_inv h3
   exact absurd ⟨d1, d2⟩ h
  ·rw [if_neg hc] at h3
   exact h3
set_option maxHeartbeats 2000000 in
theorem docDecU_calls (X : ByteArray) (w : World) (hl : X.size ≤ 140737488351232) :
 Calls Tryz.prog 89 [.string X].toArray w (Ret fun v w' => v = .tuple #[.agg (eub.f (decV X.data.toList)).toArray, vi (decEr X.data.toList)] ∧ Chg Nob w w') := by
 have kk := Chg.refl Nob w
 obtain ⟨b, eb0⟩ : ∃ b, b = X.data.toList := ⟨_, rfl⟩
 have hXb : X = ⟨b.toArray⟩ := ba_ext eb0.symm
 rw [← eb0]
 refine Calls.of_WC Tryz.func89 rfl Tryz.ntmps89 (by simp) ?_
 refine WC.sr (WL.alloc Tryz.zeroValue43 rfl ?_)
 intro g_1 w_1 hge_1 hlt_1 hb_1 k_1
 replace kk := kk.pure k_1
 refine WL.assign rfl rfl (WL.t (WC.sr (WL.move rfl rfl (WL.call eg_106 rfl rfl (docUnsector_calls X _ hl) ?_))))
 rintro v w1 ⟨⟨a1, c1, rfl, hq⟩, k1⟩
 rw [← eb0] at hq ⊢
 obtain ⟨L, eL⟩ : ∃ L, L = unL b := ⟨_, rfl⟩
 rw [← eL] at hq ⊢
 have zs_k1 := k1.size
 replace kk := kk.pure k1
 replace hb_1 := hb_1.pure k1
 replace hq := hq.lt
 refine WL.move rfl rfl (WL.extract rfl rfl rfl (WL.extract rfl rfl rfl (WL.assign rfl rfl (WL.assign rfl rfl (WL.t (WC.seq (WC.sr (WL.move rfl rfl (WL.qk rfl rfl rfl (fun h15 => ?_) (fun h15 => ?_))))))))))
 ·refine WL.move rfl rfl (WL.pass rfl rfl rfl rfl (WL.pass rfl rfl rfl rfl (WL.pass rfl rfl rfl rfl (WL.qc rfl rfl rfl (WL.t (WC.qb rfl (WC.sr (WL.bld rfl (bld_43_z) rfl (?_)))))))))
  refine WL.qf Tryz.sizeOf43 hb_1 rfl rfl (by simp; done) (by simp [Value.oneCell']; done) (by simp [Value.cells]; done) rfl ?_
  intro w_2 hs_2 hn_2 k_2
  replace kk := kk.chg k_2 (by intro x h1 h2; have h3 : _ = _ := h2; exfalso; omega)
  replace hb_1 := hn_2
  refine WL.assign rfl rfl (WL.t (WC.ret (WX.qb (WX.qj (.inl rfl) Tryz.results89 Tryz.isAgg43 Tryz.sizeOf43 hb_1 rfl (by rfl) rfl ?_))))
  first
   |(have hz : unE b ≠ 0 := h15
     obtain ⟨e1, e2⟩ := decU_no (decU_bad (b := b) (.inl hz))
     rw [e1, e2]
     exact ⟨_, rfl, rfl, kk⟩)
   |(have hz : (L.length : Int) ≠ 3 := h19
     obtain ⟨e1, e2⟩ := decU_no (decU_bad (b := b) (.inr (fun h9 => hz (by rw [eL, h9]; rfl))))
     rw [e1, e2]
     exact ⟨_, rfl, rfl, kk⟩)
   |(have hz : (unpR i2.s).2 ≠ 0 := h31
     have hd := decU_three (b := b) h15 (eL ▸ hL)
     rw [if_neg (fun hc => hz hc.2.2.2.2)] at hd
     obtain ⟨e1, e2⟩ := decU_no hd
     rw [e1, e2]
     exact ⟨_, rfl, rfl, kk⟩)
   |(have hz : encE U ≠ 0 := h45
     obtain ⟨e1, e2⟩ := dn (fun h => hz h.1)
     rw [e1, e2]
     exact ⟨_, rfl, rfl, kk⟩)
   |(have hz : encE U = 0 := h45
     have hz2 : ¬ (⟨(encB U).toArray⟩ : ByteArray) = X := h49
     obtain ⟨e1, e2⟩ := dn (fun h => hz2 (by rw [h.2, hXb]))
     rw [e1, e2]
     exact ⟨_, rfl, rfl, kk⟩)
   |(have hz : encE U = 0 := h45
     have hz2 : (⟨(encB U).toArray⟩ : ByteArray) = X := h49
     have hz3 : encB U = b := by
      have := congrArg (fun x : ByteArray => x.data.toList) hz2
      rw [eb0]
      simpa using this
     obtain ⟨e1, e2⟩ := dy hz hz3
     rw [e1, e2]
     exact ⟨_, rfl, rfl, kk⟩)
 ·refine WL.move rfl rfl (WL.qa rfl rfl rfl (WL.move rfl rfl (WL.qa rfl rfl rfl (WL.len Tryz.underlying117 rfl rfl (WL.qa rfl rfl rfl (WL.qk rfl rfl rfl (fun h19 => ?_) (fun h19 => ?_)))))))
  ·refine WL.qb rfl rfl rfl (WL.t (WC.qb rfl (WC.sr (WL.bld rfl (bld_43_z) rfl (?_)))))
   refine WL.qf Tryz.sizeOf43 hb_1 rfl rfl (by simp; done) (by simp [Value.oneCell']; done) (by simp [Value.cells]; done) rfl ?_
   intro w_2 hs_2 hn_2 k_2
   replace kk := kk.chg k_2 (by intro x h1 h2; have h3 : _ = _ := h2; exfalso; omega)
   replace hb_1 := hn_2
   refine WL.assign rfl rfl (WL.t (WC.ret (WX.qb (WX.qj (.inl rfl) Tryz.results89 Tryz.isAgg43 Tryz.sizeOf43 hb_1 rfl (by rfl) rfl ?_))))
   first
    |(have hz : unE b ≠ 0 := h15
      obtain ⟨e1, e2⟩ := decU_no (decU_bad (b := b) (.inl hz))
      rw [e1, e2]
      exact ⟨_, rfl, rfl, kk⟩)
    |(have hz : (L.length : Int) ≠ 3 := h19
      obtain ⟨e1, e2⟩ := decU_no (decU_bad (b := b) (.inr (fun h9 => hz (by rw [eL, h9]; rfl))))
      rw [e1, e2]
      exact ⟨_, rfl, rfl, kk⟩)
    |(have hz : (unpR i2.s).2 ≠ 0 := h31
      have hd := decU_three (b := b) h15 (eL ▸ hL)
      rw [if_neg (fun hc => hz hc.2.2.2.2)] at hd
      obtain ⟨e1, e2⟩ := decU_no hd
      rw [e1, e2]
      exact ⟨_, rfl, rfl, kk⟩)
    |(have hz : encE U ≠ 0 := h45
      obtain ⟨e1, e2⟩ := dn (fun h => hz h.1)
      rw [e1, e2]
      exact ⟨_, rfl, rfl, kk⟩)
    |(have hz : encE U = 0 := h45
      have hz2 : ¬ (⟨(encB U).toArray⟩ : ByteArray) = X := h49
      obtain ⟨e1, e2⟩ := dn (fun h => hz2 (by rw [h.2, hXb]))
      rw [e1, e2]
      exact ⟨_, rfl, rfl, kk⟩)
    |(have hz : encE U = 0 := h45
      have hz2 : (⟨(encB U).toArray⟩ : ByteArray) = X := h49
      have hz3 : encB U = b := by
       have := congrArg (fun x : ByteArray => x.data.toList) hz2
       rw [eb0]
       simpa using this
      obtain ⟨e1, e2⟩ := dy hz hz3
      rw [e1, e2]
      exact ⟨_, rfl, rfl, kk⟩)
  ·refine WL.qb rfl rfl rfl (WL.t (WC.qa rfl (WC.skip (WX.qa (WC.sr (WL.move rfl rfl (?_)))))))
   obtain ⟨i0, i1, i2, hL⟩ := three_items (l := L) (by omega)
   have hi1 : L[1]? = some i1 := by rw [hL]; rfl
   have hi2 : L[2]? = some i2 := by rw [hL]; rfl
   refine WL.qg Tryz.underlying117 Tryz.sizeOf116 hq.rsl rfl rfl ⟨hi2, rfl⟩ rfl ?_
   intro b_2 o_2 hc_2
   refine WL.fieldAddr (fld_116_2) rfl rfl (WL.load Tryz.isAgg9 rfl (hc_2 _ _ rfl) rfl (?_))
   have hg2 : Good i2 := un_good (b := b) i2 (by rw [← eL, hL]; simp)
   have hg1 : Good i1 := un_good (b := b) i1 (by rw [← eL, hL]; simp)
   have hs2 : i2.s.size ≤ 4000 := by
    have h9 := hg2.1
    have h8 := hg2.2.1
    simp only [longI, decide_eq_false_iff_not] at h9
    simp only [okI, decide_eq_true_eq] at h8
    rcases h8 with ⟨_, h8⟩ | ⟨h8, _⟩
    ·rw [h8]; show 0 ≤ 4000; omega
    ·omega
   refine WL.call eg_107 rfl rfl (docUnptr_calls i2.s _ (by omega)) ?_
   rintro v w2 ⟨rfl, k2⟩
   have zs_k2 := k2.size
   replace kk := kk.pure k2
   replace hb_1 := hb_1.pure k2
   replace hq := hq.pure k2
   refine WL.move rfl rfl (WL.extract rfl rfl rfl (WL.extract rfl rfl rfl (WL.alloc Tryz.zeroValue38 rfl ?_)))
   intro g_3 w_3 hge_3 hlt_3 hb_3 k_3
   replace kk := kk.pure k_3
   replace hb_1 := hb_1.pure k_3
   replace hq := hq.pure k_3
   refine WL.qf Tryz.sizeOf38 hb_3 rfl rfl (by rfl) (by exact Enc.one _ _) (by exact Nat.le_of_ble_eq_true rfl) rfl ?_
   intro w_4 hs_4 hn_4 k_4
   replace kk := kk.chg k_4 (by intro x h1 h2; have h3 : _ = _ := h2; exfalso; omega)
   replace hb_1 := hb_1.chg k_4 (by intro h1; have h2 : _ = _ := h1; exfalso; omega)
   replace hq := hq.chg k_4 (by intro b h1 h2 h3; have h4 : _ = _ := h3; (try dsimp only at h2); exfalso; omega)
   replace hb_3 := hn_4
   refine WL.assign rfl rfl (WL.t (WC.seq (WC.sr (WL.move rfl rfl (WL.qk rfl rfl rfl (fun h31 => ?_) (fun h31 => ?_))))))
   ·refine WL.t (WC.qb rfl (WC.sr (WL.bld rfl (bld_43_z) rfl (?_))))
    refine WL.qf Tryz.sizeOf43 hb_1 rfl rfl (by simp; done) (by simp [Value.oneCell']; done) (by simp [Value.cells]; done) rfl ?_
    intro w_5 hs_5 hn_5 k_5
    replace kk := kk.chg k_5 (by intro x h1 h2; have h3 : _ = _ := h2; exfalso; omega)
    replace hb_1 := hn_5
    refine WL.assign rfl rfl (WL.t (WC.ret (WX.qb (WX.qj (.inl rfl) Tryz.results89 Tryz.isAgg43 Tryz.sizeOf43 hb_1 rfl (by rfl) rfl ?_))))
    first
     |(have hz : unE b ≠ 0 := h15
       obtain ⟨e1, e2⟩ := decU_no (decU_bad (b := b) (.inl hz))
       rw [e1, e2]
       exact ⟨_, rfl, rfl, kk⟩)
     |(have hz : (L.length : Int) ≠ 3 := h19
       obtain ⟨e1, e2⟩ := decU_no (decU_bad (b := b) (.inr (fun h9 => hz (by rw [eL, h9]; rfl))))
       rw [e1, e2]
       exact ⟨_, rfl, rfl, kk⟩)
     |(have hz : (unpR i2.s).2 ≠ 0 := h31
       have hd := decU_three (b := b) h15 (eL ▸ hL)
       rw [if_neg (fun hc => hz hc.2.2.2.2)] at hd
       obtain ⟨e1, e2⟩ := decU_no hd
       rw [e1, e2]
       exact ⟨_, rfl, rfl, kk⟩)
     |(have hz : encE U ≠ 0 := h45
       obtain ⟨e1, e2⟩ := dn (fun h => hz h.1)
       rw [e1, e2]
       exact ⟨_, rfl, rfl, kk⟩)
     |(have hz : encE U = 0 := h45
       have hz2 : ¬ (⟨(encB U).toArray⟩ : ByteArray) = X := h49
       obtain ⟨e1, e2⟩ := dn (fun h => hz2 (by rw [h.2, hXb]))
       rw [e1, e2]
       exact ⟨_, rfl, rfl, kk⟩)
     |(have hz : encE U = 0 := h45
       have hz2 : (⟨(encB U).toArray⟩ : ByteArray) = X := h49
       have hz3 : encB U = b := by
        have := congrArg (fun x : ByteArray => x.data.toList) hz2
        rw [eb0]
        simpa using this
       obtain ⟨e1, e2⟩ := dy hz hz3
       rw [e1, e2]
       exact ⟨_, rfl, rfl, kk⟩)
   ·refine WL.t (WC.qa rfl (WC.skip (WX.qa (WC.seq (?_)))))
    obtain ⟨b0, o0, rfl⟩ := hq.rsl.place hi1
    refine WC.qc (Nob) [0, 1, 2, 3, 4, 5] [6, 7] mixed rfl rfl (fun wd_5 kd_5 zd_5 => ?_)
    replace kk := kk.pure kd_5
    replace hb_1 := hb_1.pure kd_5
    replace hq := hq.pure kd_5
    replace hb_3 := hb_3.pure kd_5
    apply DQ.step [(4, _)] rfl ⟨rfl, trivial⟩ rfl (fun _ _ => WL.move rfl rfl  WL.q)
    apply DQ.step [(33, _)] rfl ⟨rfl, trivial⟩ rfl
    ·intro wq_8 kq_8
     replace hq := hq.pure kq_8
     refine WL.qh hq.rsl Tryz.underlying117 Tryz.sizeOf116 rfl rfl ⟨hi1, rfl⟩ rfl (WL.q)
    apply DQ.step [(34, _)] rfl ⟨rfl, trivial⟩ rfl (fun _ _ => WL.fieldAddr (fld_116_1) rfl rfl  WL.q)
    apply DQ.step [(35, _)] rfl ⟨rfl, trivial⟩ rfl
    ·intro wq_10 kq_10
     replace hq := hq.pure kq_10
     refine WL.load Tryz.isAgg3 rfl ((hq.rsl.cellsAt hi1) _ _ rfl) rfl (WL.q)
    apply DQ.step [(6, _)] rfl ⟨rfl, trivial⟩ rfl
    ·intro wq_11 kq_11
     replace hb_3 := hb_3.pure kq_11
     refine WL.qq Tryz.isAgg38 Tryz.sizeOf38 hb_3 rfl (by rfl) rfl (?_)
     exact WL.q
    apply DQ.step [(36, _), (37, _)] rfl ⟨rfl, rfl, trivial⟩ rfl (fun _ _ => WL.bld rfl (bld_43_0_1 _ _ _ _ _) rfl  WL.q)
    refine DQ.done (fun hd_6 => ?_)
    refine DL.step [] rfl trivial rfl (fun wq_13 kq_13 => ?_)
    have zs_kq_13 := kq_13.size
    replace kk := kk.pure kq_13
    replace hb_1 := hb_1.pure kq_13
    replace hd_6 := hd_6.pure kq_13
    refine WL.alloc Tryz.zeroValue43 rfl ?_
    intro g_14 w_14 hge_14 hlt_14 hb_14 k_14
    replace kk := kk.pure k_14
    replace hb_1 := hb_1.pure k_14
    replace hd_6 := hd_6.pure k_14
    refine WL.nil (WX.one ⟨hd_6, ?_⟩)
    refine DL.step [(7, _), (38, _)] rfl ⟨rfl, rfl, trivial⟩ rfl (fun wq_15 kq_15 => ?_)
    replace kk := kk.pure kq_15
    replace hb_1 := hb_1.pure kq_15
    replace hd_6 := hd_6.pure kq_15
    replace hb_14 := hb_14.pure kq_15
    refine WL.qf Tryz.sizeOf43 hb_14 rfl rfl (by simp; done) (by simp [Value.oneCell']; done) (by simp [Value.cells]; done) rfl ?_
    intro w_16 hs_16 hn_16 k_16
    replace kk := kk.chg k_16 (by intro x h1 h2; have h3 : _ = _ := h2; exfalso; omega)
    replace hb_1 := hb_1.chg k_16 (by intro h1; have h2 : _ = _ := h1; exfalso; omega)
    replace hd_6 := hd_6.chg k_16 (by intro x h1 h2; have h3 : _ = _ := h2; exfalso; omega)
    replace hb_14 := hn_16
    refine WL.nil (WX.qk (v := undef) ⟨hd_6, ?_⟩)
    refine DL.done (fun we_17 ke_17 => ?_)
    replace kk := kk.pure ke_17
    replace hb_1 := hb_1.pure ke_17
    replace hb_14 := hb_14.pure ke_17
    refine WX.qa (WC.sr (?_))
    have hz : (unpR i2.s).2 = 0 := by assumption
    obtain ⟨hwf, hdec⟩ := decU_try (b := b) h15 (eL ▸ hL) hz hg1.2.2
    have hb7 := Blk.eqc (cs' := eub.f ⟨i1.n, (unpR i2.s).1⟩) hb_14 rfl
    obtain ⟨U, eU⟩ : ∃ U : UbV, U = ⟨i1.n, (unpR i2.s).1⟩ := ⟨_, rfl⟩
    rw [← eU] at hwf hdec hb7
    obtain ⟨dy, dn⟩ := decV_not hdec
    refine WL.qo (eub.f U) Tryz.isAgg43 Tryz.sizeOf43 rfl (fun j v hj => by rw [Nat.zero_add]; exact hb7.cell hj) rfl rfl ?_
    refine WL.call eg_21 rfl rfl (docEncU_calls U _ hwf) ?_
    rintro v w5 ⟨rfl, k5⟩
    replace kk := kk.pure k5
    replace hb_1 := hb_1.pure k5
    replace hb7 := hb7.pure k5
    refine WL.move rfl rfl (WL.extract rfl rfl rfl (WL.extract rfl rfl rfl (WL.assign rfl rfl (WL.assign rfl rfl (WL.t (WC.seq (WC.sr (WL.move rfl rfl (WL.qk rfl rfl rfl (fun h45 => ?_) (fun h45 => ?_))))))))))
    ·refine WL.move rfl rfl (WL.pass rfl rfl rfl rfl (WL.pass rfl rfl rfl rfl (WL.pass rfl rfl rfl rfl (WL.qc rfl rfl rfl (WL.t (WC.qb rfl (WC.sr (WL.bld rfl (bld_43_z) rfl (?_)))))))))
     refine WL.qf Tryz.sizeOf43 hb_1 rfl rfl (by simp; done) (by simp [Value.oneCell']; done) (by simp [Value.cells]; done) rfl ?_
     intro w_18 hs_18 hn_18 k_18
     replace kk := kk.chg k_18 (by intro x h1 h2; have h3 : _ = _ := h2; exfalso; omega)
     replace hb_1 := hn_18
     refine WL.assign rfl rfl (WL.t (WC.ret (WX.qb (WX.qj (.inl rfl) Tryz.results89 Tryz.isAgg43 Tryz.sizeOf43 hb_1 rfl (by rfl) rfl ?_))))
     first
      |(have hz : unE b ≠ 0 := h15
        obtain ⟨e1, e2⟩ := decU_no (decU_bad (b := b) (.inl hz))
        rw [e1, e2]
        exact ⟨_, rfl, rfl, kk⟩)
      |(have hz : (L.length : Int) ≠ 3 := h19
        obtain ⟨e1, e2⟩ := decU_no (decU_bad (b := b) (.inr (fun h9 => hz (by rw [eL, h9]; rfl))))
        rw [e1, e2]
        exact ⟨_, rfl, rfl, kk⟩)
      |(have hz : (unpR i2.s).2 ≠ 0 := h31
        have hd := decU_three (b := b) h15 (eL ▸ hL)
        rw [if_neg (fun hc => hz hc.2.2.2.2)] at hd
        obtain ⟨e1, e2⟩ := decU_no hd
        rw [e1, e2]
        exact ⟨_, rfl, rfl, kk⟩)
      |(have hz : encE U ≠ 0 := h45
        obtain ⟨e1, e2⟩ := dn (fun h => hz h.1)
        rw [e1, e2]
        exact ⟨_, rfl, rfl, kk⟩)
      |(have hz : encE U = 0 := h45
        have hz2 : ¬ (⟨(encB U).toArray⟩ : ByteArray) = X := h49
        obtain ⟨e1, e2⟩ := dn (fun h => hz2 (by rw [h.2, hXb]))
        rw [e1, e2]
        exact ⟨_, rfl, rfl, kk⟩)
      |(have hz : encE U = 0 := h45
        have hz2 : (⟨(encB U).toArray⟩ : ByteArray) = X := h49
        have hz3 : encB U = b := by
         have := congrArg (fun x : ByteArray => x.data.toList) hz2
         rw [eb0]
         simpa using this
        obtain ⟨e1, e2⟩ := dy hz hz3
        rw [e1, e2]
        exact ⟨_, rfl, rfl, kk⟩)
    ·refine WL.move rfl rfl (WL.qa rfl rfl rfl (WL.move rfl rfl (WL.qa rfl rfl rfl (WL.move rfl rfl (WL.qa rfl rfl rfl (WL.sneq? rfl rfl rfl (fun h49 => ?_) (fun h49 => ?_)))))))
     ·refine WL.qb rfl rfl rfl (WL.t (WC.qb rfl (WC.sr (WL.bld rfl (bld_43_z) rfl (?_)))))
      refine WL.qf Tryz.sizeOf43 hb_1 rfl rfl (by simp; done) (by simp [Value.oneCell']; done) (by simp [Value.cells]; done) rfl ?_
      intro w_18 hs_18 hn_18 k_18
      replace kk := kk.chg k_18 (by intro x h1 h2; have h3 : _ = _ := h2; exfalso; omega)
      replace hb_1 := hn_18
      refine WL.assign rfl rfl (WL.t (WC.ret (WX.qb (WX.qj (.inl rfl) Tryz.results89 Tryz.isAgg43 Tryz.sizeOf43 hb_1 rfl (by rfl) rfl ?_))))
      first
       |(have hz : unE b ≠ 0 := h15
         obtain ⟨e1, e2⟩ := decU_no (decU_bad (b := b) (.inl hz))
         rw [e1, e2]
         exact ⟨_, rfl, rfl, kk⟩)
       |(have hz : (L.length : Int) ≠ 3 := h19
         obtain ⟨e1, e2⟩ := decU_no (decU_bad (b := b) (.inr (fun h9 => hz (by rw [eL, h9]; rfl))))
         rw [e1, e2]
         exact ⟨_, rfl, rfl, kk⟩)
       |(have hz : (unpR i2.s).2 ≠ 0 := h31
         have hd := decU_three (b := b) h15 (eL ▸ hL)
         rw [if_neg (fun hc => hz hc.2.2.2.2)] at hd
         obtain ⟨e1, e2⟩ := decU_no hd
         rw [e1, e2]
         exact ⟨_, rfl, rfl, kk⟩)
       |(have hz : encE U ≠ 0 := h45
         obtain ⟨e1, e2⟩ := dn (fun h => hz h.1)
         rw [e1, e2]
         exact ⟨_, rfl, rfl, kk⟩)
       |(have hz : encE U = 0 := h45
         have hz2 : ¬ (⟨(encB U).toArray⟩ : ByteArray) = X := h49
         obtain ⟨e1, e2⟩ := dn (fun h => hz2 (by rw [h.2, hXb]))
         rw [e1, e2]
         exact ⟨_, rfl, rfl, kk⟩)
       |(have hz : encE U = 0 := h45
         have hz2 : (⟨(encB U).toArray⟩ : ByteArray) = X := h49
         have hz3 : encB U = b := by
          have := congrArg (fun x : ByteArray => x.data.toList) hz2
          rw [eb0]
          simpa using this
         obtain ⟨e1, e2⟩ := dy hz hz3
         rw [e1, e2]
         exact ⟨_, rfl, rfl, kk⟩)
     ·refine WL.qb rfl rfl rfl (WL.t (WC.qa rfl (WC.skip (WX.qa (WC.sr (?_))))))
      refine WL.qo (eub.f U) Tryz.isAgg43 Tryz.sizeOf43 rfl (fun j v hj => by rw [Nat.zero_add]; exact hb7.cell hj) rfl rfl ?_
      refine WL.qf Tryz.sizeOf43 hb_1 rfl rfl (by rfl) (by exact Enc.one _ _) (by exact Nat.le_of_ble_eq_true rfl) rfl ?_
      intro w_18 hs_18 hn_18 k_18
      replace kk := kk.chg k_18 (by intro x h1 h2; have h3 : _ = _ := h2; exfalso; omega)
      replace hb_1 := hn_18
      refine WL.assign rfl rfl (WL.t (WC.ret (WX.qj (.inl rfl) Tryz.results89 Tryz.isAgg43 Tryz.sizeOf43 hb_1 rfl (by rfl) rfl ?_)))
      first
       |(have hz : unE b ≠ 0 := h15
         obtain ⟨e1, e2⟩ := decU_no (decU_bad (b := b) (.inl hz))
         rw [e1, e2]
         exact ⟨_, rfl, rfl, kk⟩)
       |(have hz : (L.length : Int) ≠ 3 := h19
         obtain ⟨e1, e2⟩ := decU_no (decU_bad (b := b) (.inr (fun h9 => hz (by rw [eL, h9]; rfl))))
         rw [e1, e2]
         exact ⟨_, rfl, rfl, kk⟩)
       |(have hz : (unpR i2.s).2 ≠ 0 := h31
         have hd := decU_three (b := b) h15 (eL ▸ hL)
         rw [if_neg (fun hc => hz hc.2.2.2.2)] at hd
         obtain ⟨e1, e2⟩ := decU_no hd
         rw [e1, e2]
         exact ⟨_, rfl, rfl, kk⟩)
       |(have hz : encE U ≠ 0 := h45
         obtain ⟨e1, e2⟩ := dn (fun h => hz h.1)
         rw [e1, e2]
         exact ⟨_, rfl, rfl, kk⟩)
       |(have hz : encE U = 0 := h45
         have hz2 : ¬ (⟨(encB U).toArray⟩ : ByteArray) = X := h49
         obtain ⟨e1, e2⟩ := dn (fun h => hz2 (by rw [h.2, hXb]))
         rw [e1, e2]
         exact ⟨_, rfl, rfl, kk⟩)
       |(have hz : encE U = 0 := h45
         have hz2 : (⟨(encB U).toArray⟩ : ByteArray) = X := h49
         have hz3 : encB U = b := by
          have := congrArg (fun x : ByteArray => x.data.toList) hz2
          rw [eb0]
          simpa using this
         obtain ⟨e1, e2⟩ := dy hz hz3
         rw [e1, e2]
         exact ⟨_, rfl, rfl, kk⟩)
end Go.Proofs.YtjeldcjchipdgaaGreatDoor
namespace Go.Proofs.YtjeldcjchipdgaaGreatDoor
open Go.RowKit Go.HL
set_option maxRecDepth 100000
def slE (s : RA) (d : Int) : Int := if 8 < s.sn ∧ 0 ≤ d ∧ d < s.dn then errD s d else 1
def slL (s : RA) (d : Int) : List Int := if slE s d = 0 then (wholeL s d).map (·.t) else []
set_option maxHeartbeats 2000000 in
theorem slots_calls {A : Nat → Prop} {w : World} {R : Nat} {s : RA} (h : RK A w R s) (d : Int) :
 Calls Tryz.prog 29 [ptr R, vi d].toArray w (Ret fun v w' => (∃ (ao : Option Addr) (c : Nat), v = .tuple #[.slice ao (slL s d).length c, vi (slE s d)] ∧ Row (w.heap.size ≤ ·) w' 3 ei ao c (slL s d)) ∧ Chg Nob w w') := by
 have hw := Chg.refl Nob w
 replace h : RK (fun x => x < w.heap.size) w R s := h.old.mono (fun x hx => hx.2)
 refine Calls.of_WC Tryz.func29 rfl Tryz.ntmps29 (by simp) ?_
 refine WC.sr (WL.assign rfl rfl (WL.assign rfl rfl (WL.t (WC.seq (WC.seq (WC.region (WL.move rfl rfl (WL.call eg_47 rfl rfl (right_calls h) ?_))))))))
 rintro v w1 ⟨rfl, k1⟩
 have zs_k1 := k1.size
 replace h := h.pure k1
 replace hw := hw.pure k1
 by_cases h12 : 8 < s.sn
 ·rw [decide_eq_true h12]
  refine WL.not rfl rfl (WL.move rfl rfl (WL.qa rfl rfl rfl (WL.move rfl rfl (WL.qa rfl rfl rfl (WL.qi rfl rfl rfl (fun h16 => ?_) (fun h16 => ?_))))))
  ·refine WL.qb rfl rfl rfl (WL.move rfl rfl (WL.pass rfl rfl rfl rfl (WL.pass rfl rfl rfl rfl (WL.pass rfl rfl rfl rfl (WL.pass rfl rfl rfl rfl (WL.qc rfl rfl rfl (WL.nil (WX.qa (WC.qb rfl (WC.sr (WL.assign rfl rfl (WL.assign rfl rfl (WL.t (WC.ret (WX.qb (WX.qi (.inl rfl) Tryz.results29 rfl rfl ?_))))))))))))))))
   first
    |(have hz : 0 ≤ d ∧ d < (s.dn : Int) := hsd
      have e1 : slE s d = errD s d := by rw [slE, if_pos ⟨h12, hz.1, hz.2⟩]
      first
       |(have hz2 : errD s d = 0 := h31
         have hjl : j = L.length := by omega
         have e2 : slL s d = (L.take j).map (·.t) := by rw [slL, if_pos (e1.trans hz2), hjl, List.take_length, eL]
         rw [e1, e2, hz2]
         exact ⟨_, rfl, ⟨a8, c8, rfl, h8.mono (fun x hx => by omega)⟩, hw⟩)
       |(have hz2 : errD s d ≠ 0 := h31
         have e2 : slL s d = [] := by rw [slL, if_neg (by rw [e1]; exact hz2)]
         rw [e1, e2]
         exact ⟨_, rfl, ⟨none, 0, rfl, Row.nil _ _ _ _⟩, hw⟩))
    |(have e1 : slE s d = 1 := by
       rw [slE, if_neg]
       rintro ⟨g1, g2, g3⟩
       first
        |omega
        |exact h12 g1
      have e2 : slL s d = [] := by rw [slL, if_neg (by rw [e1]; decide)]
      rw [e1, e2]
      exact ⟨_, rfl, ⟨none, 0, rfl, Row.nil _ _ _ _⟩, hw⟩)
  ·refine WL.qb rfl rfl rfl (WL.move rfl rfl (WL.qa rfl rfl rfl (WL.move rfl rfl (WL.qa rfl rfl rfl (WL.move rfl rfl (WL.qa rfl rfl rfl (WL.call eg_49 rfl rfl (Drives_calls h) ?_)))))))
   rintro v w4 ⟨rfl, k4⟩
   have zs_k4 := k4.size
   replace h := h.pure k4
   replace hw := hw.pure k4
   refine WL.qa rfl rfl rfl (WL.qx rfl rfl rfl (fun h22 => ?_) (fun h22 => ?_))
   ·refine WL.qb rfl rfl rfl (WL.t (WC.qb rfl (WC.sr (WL.assign rfl rfl (WL.assign rfl rfl (WL.t (WC.ret (WX.qb (WX.qi (.inl rfl) Tryz.results29 rfl rfl ?_)))))))))
    first
     |(have hz : 0 ≤ d ∧ d < (s.dn : Int) := hsd
       have e1 : slE s d = errD s d := by rw [slE, if_pos ⟨h12, hz.1, hz.2⟩]
       first
        |(have hz2 : errD s d = 0 := h31
          have hjl : j = L.length := by omega
          have e2 : slL s d = (L.take j).map (·.t) := by rw [slL, if_pos (e1.trans hz2), hjl, List.take_length, eL]
          rw [e1, e2, hz2]
          exact ⟨_, rfl, ⟨a8, c8, rfl, h8.mono (fun x hx => by omega)⟩, hw⟩)
        |(have hz2 : errD s d ≠ 0 := h31
          have e2 : slL s d = [] := by rw [slL, if_neg (by rw [e1]; exact hz2)]
          rw [e1, e2]
          exact ⟨_, rfl, ⟨none, 0, rfl, Row.nil _ _ _ _⟩, hw⟩))
     |(have e1 : slE s d = 1 := by
        rw [slE, if_neg]
        rintro ⟨g1, g2, g3⟩
        first
         |omega
         |exact h12 g1
       have e2 : slL s d = [] := by rw [slL, if_neg (by rw [e1]; decide)]
       rw [e1, e2]
       exact ⟨_, rfl, ⟨none, 0, rfl, Row.nil _ _ _ _⟩, hw⟩)
   ·refine WL.qb rfl rfl rfl (WL.t (WC.qa rfl (WC.skip (WX.qa (WC.sr (WL.move rfl rfl (WL.move rfl rfl (?_))))))))
    have hsd : isS s d := ⟨by omega, by omega⟩
    refine WL.call eg_67 rfl rfl (whole_calls h hsd h12) ?_
    rintro v w5 ⟨⟨ao, c, rfl, hq⟩, k5⟩
    obtain ⟨L, eL⟩ : ∃ L, L = wholeL s d := ⟨_, rfl⟩
    have hLl : L.length ≤ 8 := by rw [eL, wholeL]; split; rw [outK_len]; omega; simp
    rw [← eL] at hq ⊢
    have zs_k5 := k5.size
    replace h := h.pure k5
    replace hw := hw.pure k5
    replace hq := hq.lt
    refine WL.move rfl rfl (WL.extract rfl rfl rfl (WL.extract rfl rfl rfl (WL.assign rfl rfl (WL.assign rfl rfl (WL.t (WC.seq (WC.sr (WL.move rfl rfl (WL.qk rfl rfl rfl (fun h31 => ?_) (fun h31 => ?_))))))))))
    ·refine WL.t (WC.qb rfl (WC.sr (WL.move rfl rfl (WL.assign rfl rfl (WL.assign rfl rfl (WL.t (WC.ret (WX.qb (WX.qi (.inl rfl) Tryz.results29 rfl rfl ?_)))))))))
     first
      |(have hz : 0 ≤ d ∧ d < (s.dn : Int) := hsd
        have e1 : slE s d = errD s d := by rw [slE, if_pos ⟨h12, hz.1, hz.2⟩]
        first
         |(have hz2 : errD s d = 0 := h31
           have hjl : j = L.length := by omega
           have e2 : slL s d = (L.take j).map (·.t) := by rw [slL, if_pos (e1.trans hz2), hjl, List.take_length, eL]
           rw [e1, e2, hz2]
           exact ⟨_, rfl, ⟨a8, c8, rfl, h8.mono (fun x hx => by omega)⟩, hw⟩)
         |(have hz2 : errD s d ≠ 0 := h31
           have e2 : slL s d = [] := by rw [slL, if_neg (by rw [e1]; exact hz2)]
           rw [e1, e2]
           exact ⟨_, rfl, ⟨none, 0, rfl, Row.nil _ _ _ _⟩, hw⟩))
      |(have e1 : slE s d = 1 := by
         rw [slE, if_neg]
         rintro ⟨g1, g2, g3⟩
         first
          |omega
          |exact h12 g1
        have e2 : slL s d = [] := by rw [slL, if_neg (by rw [e1]; decide)]
        rw [e1, e2]
        exact ⟨_, rfl, ⟨none, 0, rfl, Row.nil _ _ _ _⟩, hw⟩)
    ·refine WL.t (WC.qa rfl (WC.skip (WX.qa (WC.sr (WL.assign rfl rfl (WL.t (WC.seq (WC.sr (WL.move rfl rfl (WL.len Tryz.underlying118 rfl rfl (WL.move rfl rfl (WL.t (WC.block (?_))))))))))))))
     obtain ⟨n5, en5⟩ : ∃ n5, n5 = w5.heap.size := ⟨_, rfl⟩
     refine WC.loop (σ := Nat × Option Addr × Nat) (fun q => [(0, ptr R), (1, vi d), (8, .slice q.2.1 ((L.take q.1).map (·.t)).length q.2.2), (33, .slice ao L.length c), (34, vi (L.length : Int)), (35, vi (q.1 : Int))])
      (fun q w' => q.1 ≤ L.length ∧ Row (fun x => w.heap.size ≤ x ∧ x < n5) w' 41 eub ao c L ∧ n5 ≤ w'.heap.size ∧ Row (fun x => n5 ≤ x) w' 3 ei q.2.1 q.2.2 ((L.take q.1).map (·.t)) ∧ Chg Nob w w') (fun q => L.length - q.1) (0, none, 0) ⟨rfl, rfl, rfl, rfl, rfl, rfl, trivial⟩
      ⟨Nat.zero_le _, hq.mono (fun x hx => by omega), by omega, Row.nil _ _ _ _, hw⟩ ?_
     clear hq h hw
     rintro ⟨j, a8, c8⟩ w6 ⟨hj, hq, hn5, h8, hw⟩
     dsimp only at hj hq hn5 h8 hw ⊢
     replace h8 := h8.lt
     have hml : ((L.take j).map (·.t)).length = j := by rw [List.length_map, List.length_take]; omega
     refine WC.sr (WL.qi rfl rfl rfl (fun h36 => ?_) (fun h36 => ?_))
     ·refine WL.t (WC.seq (WC.qb rfl (WC.skip (WX.qa (WC.seq (WC.block (WC.sr (?_))))))))
      obtain ⟨u, hu⟩ : ∃ u, L[j]? = some u := ⟨_, List.getElem?_eq_getElem (by omega)⟩
      refine WL.qg Tryz.underlying118 Tryz.sizeOf41 hq.rsl rfl rfl ⟨hu, rfl⟩ rfl ?_
      intro b_1 o_1 hc_1
      refine WL.qo _ Tryz.isAgg41 Tryz.sizeOf41 rfl hc_1 rfl rfl (WL.alloc Tryz.zeroValue41 rfl ?_)
      intro g_2 w_2 hge_2 hlt_2 hb_2 k_2
      replace hq := hq.pure k_2
      replace h8 := h8.pure k_2
      replace hw := hw.pure k_2
      refine WL.qf Tryz.sizeOf41 hb_2 rfl rfl (by rfl) (by exact Enc.one _ _) (by exact Nat.le_of_ble_eq_true rfl) rfl ?_
      intro w_3 hs_3 hn_3 k_3
      replace hq := hq.chg k_3 (by intro b h1 h2 h3; have h4 : _ = _ := h3; (try dsimp only at h2); exfalso; omega)
      replace h8 := h8.chg k_3 (by intro b h1 h2 h3; have h4 : _ = _ := h3; (try dsimp only at h2); exfalso; omega)
      replace hw := hw.chg k_3 (by intro x h1 h2; have h3 : _ = _ := h2; exfalso; omega)
      replace hb_2 := hn_3
      refine WL.t (WC.region (WL.move rfl rfl (WL.fieldAddr (fld_41_0) rfl rfl (?_))))
      have hb9 := Blk.eqc (cs' := eub.f u) hb_2 rfl
      refine WL.qd Tryz.isAgg3 hb9 rfl rfl rfl ?_
      refine WL.build (e := ei) [u.t] Tryz.underlying32 Tryz.sizeOf3 Tryz.zeroValue3 rfl rfl rfl (by simp [Value.cells] <;> rfl) (by decide) rfl ?_
      intro a_hn w_hn hn l_hn z_hn k_hn
      replace hq := hq.pure k_hn
      replace h8 := h8.pure k_hn
      replace hw := hw.pure k_hn
      replace h8 := h8.mono (S' := fun x => n5 ≤ x) (fun x hx => hx.1)
      refine WL.append (e := ei) info_3 rfl Tryz.underlying32 rfl rfl h8 (hn.rsl.src Tryz.underlying32) (by (try simp only [List.length_append, List.length_cons, List.length_nil] at *); omega) (by intro b hb; first | (apply hS; omega) | ((try dsimp only); omega)) rfl ?_
      intro a_hq9 c_hq9 w_hq9 hq9 g_hq9 n_hq9
      have z_hq9 := g_hq9.chg.size
      replace hq := hq.chg g_hq9.chg (by intros; exfalso; (try dsimp only at *); omega)
      replace hw := hw.chg g_hq9.chg (by intros; exfalso; (try dsimp only at *); omega)
      refine WL.assign rfl rfl (WL.nil (WX.qd (WX.qa (WC.region (WL.qe rfl rfl (by omega) rfl (WL.move rfl rfl (WL.nil (?_))))))))
      have e1 : (L.take (j + 1)).map (·.t) = (L.take j).map (·.t) ++ [u.t] := by
       rw [List.take_add_one, hu, List.map_append]
       rfl
      refine WX.qc (j + 1, a_hq9, c_hq9) ⟨rfl, rfl, ?_, rfl, rfl, rfl, trivial⟩ ⟨by dsimp only; omega, hq, by omega, ?_, hw⟩ (by show _ - _ < _ - _; omega)
      ·dsimp only; rw [e1]; rfl
      ·dsimp only; rw [e1]; exact hq9
     ·refine WL.t (WC.seq (WC.qa rfl (WC.exit (WX.qe (WX.qe (WX.qh (WX.qa (WC.sr (WL.move rfl rfl (WL.assign rfl rfl (WL.assign rfl rfl (WL.t (WC.ret (WX.qi (.inl rfl) Tryz.results29 rfl rfl ?_))))))))))))))
      first
       |(have hz : 0 ≤ d ∧ d < (s.dn : Int) := hsd
         have e1 : slE s d = errD s d := by rw [slE, if_pos ⟨h12, hz.1, hz.2⟩]
         first
          |(have hz2 : errD s d = 0 := h31
            have hjl : j = L.length := by omega
            have e2 : slL s d = (L.take j).map (·.t) := by rw [slL, if_pos (e1.trans hz2), hjl, List.take_length, eL]
            rw [e1, e2, hz2]
            exact ⟨_, rfl, ⟨a8, c8, rfl, h8.mono (fun x hx => by omega)⟩, hw⟩)
          |(have hz2 : errD s d ≠ 0 := h31
            have e2 : slL s d = [] := by rw [slL, if_neg (by rw [e1]; exact hz2)]
            rw [e1, e2]
            exact ⟨_, rfl, ⟨none, 0, rfl, Row.nil _ _ _ _⟩, hw⟩))
       |(have e1 : slE s d = 1 := by
          rw [slE, if_neg]
          rintro ⟨g1, g2, g3⟩
          first
           |omega
           |exact h12 g1
         have e2 : slL s d = [] := by rw [slL, if_neg (by rw [e1]; decide)]
         rw [e1, e2]
         exact ⟨_, rfl, ⟨none, 0, rfl, Row.nil _ _ _ _⟩, hw⟩)
 ·rw [decide_eq_false h12]
  refine WL.not rfl rfl (WL.move rfl rfl (WL.pass rfl rfl rfl rfl (WL.pass rfl rfl rfl rfl (WL.qc rfl rfl rfl (WL.move rfl rfl (WL.pass rfl rfl rfl rfl (WL.pass rfl rfl rfl rfl (WL.pass rfl rfl rfl rfl (WL.pass rfl rfl rfl rfl (WL.qc rfl rfl rfl (WL.t (WC.qb rfl (WC.sr (WL.assign rfl rfl (WL.assign rfl rfl (WL.t (WC.ret (WX.qb (WX.qi (.inl rfl) Tryz.results29 rfl rfl ?_)))))))))))))))))))
  first
   |(have hz : 0 ≤ d ∧ d < (s.dn : Int) := hsd
     have e1 : slE s d = errD s d := by rw [slE, if_pos ⟨h12, hz.1, hz.2⟩]
     first
      |(have hz2 : errD s d = 0 := h31
        have hjl : j = L.length := by omega
        have e2 : slL s d = (L.take j).map (·.t) := by rw [slL, if_pos (e1.trans hz2), hjl, List.take_length, eL]
        rw [e1, e2, hz2]
        exact ⟨_, rfl, ⟨a8, c8, rfl, h8.mono (fun x hx => by omega)⟩, hw⟩)
      |(have hz2 : errD s d ≠ 0 := h31
        have e2 : slL s d = [] := by rw [slL, if_neg (by rw [e1]; exact hz2)]
        rw [e1, e2]
        exact ⟨_, rfl, ⟨none, 0, rfl, Row.nil _ _ _ _⟩, hw⟩))
   |(have e1 : slE s d = 1 := by
      rw [slE, if_neg]
      rintro ⟨g1, g2, g3⟩
      first
       |omega
       |exact h12 g1
     have e2 : slL s d = [] := by rw [slL, if_neg (by rw [e1]; decide)]
     rw [e1, e2]
     exact ⟨_, rfl, ⟨none, 0, rfl, Row.nil _ _ _ _⟩, hw⟩)
end Go.Proofs.YtjeldcjchipdgaaGreatDoor
namespace Go.Proofs.YtjeldcjchipdgaaGreatDoor
open Go.RowKit Go.HL
set_option maxRecDepth 100000
abbrev bs (l : List UInt8) : ByteArray := ⟨l.toArray⟩
theorem bs_size (l : List UInt8) : (bs l).size = l.length := by simp [bs, ByteArray.size]
structure Sr where
 ao : Option Addr
 cap : Nat
 xs : List ByteArray
def esr : Enc Sr := ⟨1, fun r => [.slice r.ao r.xs.length r.cap], fun _ => rfl, by simp [Value.oneCell'], by decide⟩
def ewt : Enc (Pl × List UInt8) := ⟨3, fun x => [vi x.1.1, vi x.1.2, .string (bs x.2)], fun _ => rfl, by simp [Value.oneCell'], by decide⟩
structure LD (S : Nat → Prop) (w : World) (la : Option Addr) (lc : Nat) (ls : List Sr) (dn sn : Nat) (f : Nat → Nat → ByteArray) : Prop where
 len : ls.length = dn
 outer : Row S w 70 esr la lc ls
 vals : ∀ (d : Nat) (r : Sr), ls[d]? = some r → r.xs = (List.range sn).map (f d)
 own : ∀ (d : Nat) (r : Sr), ls[d]? = some r → ∃ g, r.ao = some ⟨g, 0, none⟩ ∧ S g ∧ Row (· = g) w 9 es (some ⟨g, 0, none⟩) r.cap r.xs
 apart : ∀ (d e : Nat) (r q : Sr) (g : Nat), ls[d]? = some r → ls[e]? = some q → r.ao = some ⟨g, 0, none⟩ → q.ao = some ⟨g, 0, none⟩ → d = e
section
variable {S M : Nat → Prop} {w w' : World} {la : Option Addr} {lc : Nat} {ls : List Sr} {dn sn : Nat} {f f' : Nat → Nat → ByteArray}
theorem LD.chg (h : LD S w la lc ls dn sn f) (k : Chg M w w') (hd : ∀ b, b < w.heap.size → S b → M b → False) : LD S w' la lc ls dn sn f :=
 ⟨h.len, h.outer.chg k hd, h.vals, fun d r hr => by
  obtain ⟨g, h1, h2, h3⟩ := h.own d r hr
  exact ⟨g, h1, h2, h3.chg k (fun b hb e m => hd b hb (by have e : b = g := e; rw [e]; exact h2) m)⟩, h.apart⟩
theorem LD.pure (h : LD S w la lc ls dn sn f) (k : Chg Nob w w') : LD S w' la lc ls dn sn f := h.chg k (fun _ _ _ x => x)
theorem LD.mono {S' : Nat → Prop} (h : LD S w la lc ls dn sn f) (k : ∀ b, S b → S' b) : LD S' w la lc ls dn sn f :=
 ⟨h.len, h.outer.mono k, h.vals, fun d r hr => by
  obtain ⟨g, h1, h2, h3⟩ := h.own d r hr
  exact ⟨g, h1, k _ h2, h3⟩, h.apart⟩
theorem LD.chgK (h : LD S w la lc ls dn sn f) (k : Chg M w w') (hd : ∀ b, b < w.heap.size → M b → kb w b ≠ some (some 70) ∧ kb w b ≠ some (some 9)) : LD S w' la lc ls dn sn f :=
 ⟨h.len, h.outer.chgK k (fun b h1 h2 => (hd b h1 h2).1), h.vals, fun d r hr => by
  obtain ⟨g, h1, h2, h3⟩ := h.own d r hr
  exact ⟨g, h1, h2, h3.chgK k (fun b h1 h2 => (hd b h1 h2).2)⟩, h.apart⟩
theorem LD.lt (h : LD S w la lc ls dn sn f) : LD (fun b => S b ∧ b < w.heap.size) w la lc ls dn sn f :=
 ⟨h.len, h.outer.lt, h.vals, fun d r hr => by
  obtain ⟨g, h1, h2, h3⟩ := h.own d r hr
  exact ⟨g, h1, ⟨h2, h3.own.lt _ rfl⟩, h3⟩, h.apart⟩
theorem LD.congr (h : LD S w la lc ls dn sn f) (e : ∀ d a, d < dn → a < sn → f d a = f' d a) : LD S w la lc ls dn sn f' :=
 ⟨h.len, h.outer, fun d r hr => by
  rw [h.vals d r hr]
  refine List.map_congr_left (fun a ha => e d a ?_ (List.mem_range.1 ha))
  rw [← h.len]
  exact (List.getElem?_eq_some_iff.1 hr).1, h.own, h.apart⟩
theorem LD.at (h : LD S w la lc ls dn sn f) {d a : Nat} {r : Sr} (hr : ls[d]? = some r) (ha : a < sn) : r.xs[a]? = some (f d a) := by
 rw [h.vals d r hr, List.getElem?_map, List.getElem?_range ha]
 rfl
theorem LD.rlen (h : LD S w la lc ls dn sn f) {d : Nat} {r : Sr} (hr : ls[d]? = some r) : r.xs.length = sn := by rw [h.vals d r hr, List.length_map, List.length_range]
theorem esr_same {x z : Sr} : ∀ (xs : List Sr) (i : Nat), xs[i]? = some x → esr.f z = esr.f x → esr.all (xs.set i z) = esr.all xs
 |[], i, h, _ => by simp at h
 |y :: t, 0, h, hz => by
  simp at h
  subst h
  show esr.f z ++ esr.all t = esr.f y ++ esr.all t
  rw [hz]
 |y :: t, i + 1, h, hz => by
  show esr.f y ++ esr.all (t.set i z) = esr.f y ++ esr.all t
  rw [esr_same t i (by simpa using h) hz]
theorem LD.set (h : LD S w la lc ls dn sn f) {d a g cr : Nat} {xs : List ByteArray} {v : ByteArray} (hr : ls[d]? = some ⟨some ⟨g, 0, none⟩, cr, xs⟩) (k : Chg (· = g) w w') (hk : kb w g = some (some 9)) (hn : Row (· = g) w' 9 es (some ⟨g, 0, none⟩) cr (xs.set a v)) (e : ∀ d' a', d' < dn → a' < sn → f' d' a' = if d' = d ∧ a' = a then v else f d' a') :
 LD S w' la lc (ls.set d ⟨some ⟨g, 0, none⟩, cr, xs.set a v⟩) dn sn f' := by
 have hdl := (List.getElem?_eq_some_iff.1 hr).1
 have hlen := h.len
 obtain ⟨g0, e0, hg0, _⟩ := h.own d _ hr
 injection e0 with e0
 injection e0 with e0
 subst e0
 have e1 : esr.all (ls.set d ⟨some ⟨g, 0, none⟩, cr, xs.set a v⟩) = esr.all ls := esr_same ls d hr (by show [Value.slice _ (xs.set a v).length _] = [Value.slice _ xs.length _]; rw [List.length_set])
 refine ⟨by rw [List.length_set]; exact hlen, ?_, fun d' r hd' => ?_, fun d' r hd' => ?_, fun d' e' r q g' h1 h2 h3 h4 => ?_⟩
 ·have h1 := h.outer.chgK k (fun b _ hm => by rw [show b = g from hm, hk]; decide)
  exact ⟨h1.at_, by rw [e1, List.length_set]; exact h1.own⟩
 ·rw [List.getElem?_set] at hd'
  split at hd'
  ·rename_i e2
   injection hd' with hd'
   subst hd'
   subst e2
   show xs.set a v = _
   have hxv : xs = (List.range sn).map (f d) := h.vals d _ hr
   rw [hxv]
   apply List.ext_getElem?
   intro j
   rw [List.getElem?_set, List.getElem?_map]
   rcases Nat.lt_or_ge j sn with hj | hj
   ·rw [List.getElem?_map, List.getElem?_range hj]
    show _ = some (f' d j)
    rw [e d j (by omega) hj, List.length_map, List.length_range]
    by_cases ea : a = j
    ·subst ea
     rw [if_pos rfl, if_pos hj, if_pos ⟨rfl, rfl⟩]
    ·rw [if_neg ea, if_neg (fun h => ea h.2.symm)]
     rfl
   ·rw [List.getElem?_map, List.getElem?_eq_none (by rw [List.length_range]; exact hj)]
    rw [List.length_map, List.length_range]
    split <;> simp
    omega
  ·rename_i e2
   rw [h.vals d' r hd']
   refine List.map_congr_left (fun j hj => ?_)
   have hdl' := (List.getElem?_eq_some_iff.1 hd').1
   rw [e d' j (by omega) (List.mem_range.1 hj), if_neg (fun h => e2 h.1.symm)]
 ·rw [List.getElem?_set] at hd'
  split at hd'
  ·injection hd' with hd'
   subst hd'
   exact ⟨g, rfl, hg0, hn⟩
  ·rename_i e2
   obtain ⟨g', h1, h2, h3⟩ := h.own d' r hd'
   refine ⟨g', h1, h2, h3.chg k (fun b _ e3 m => e2 (h.apart d d' _ r g hr hd' rfl ?_))⟩
   have e4 : b = g' := e3
   have e5 : b = g := m
   rw [h1, ← e4, e5]
 ·rw [List.getElem?_set] at h1 h2
  split at h1 <;> split at h2
  ·omega
  ·rename_i e2 e3
   injection h1 with h1
   subst h1
   rw [← e2]
   exact h.apart d e' _ q g' hr h2 h3 h4
  ·rename_i e2 e3
   injection h2 with h2
   subst h2
   rw [← e3]
   exact h.apart d' d r _ g' h1 hr h3 h4
  ·exact h.apart d' e' r q g' h1 h2 h3 h4
theorem LD.put {go : Nat} (h : LD S w (some ⟨go, 0, none⟩) lc ls dn sn f) {d g cr : Nat} {xs : List ByteArray} (k : Chg (· = go) w w') (ho : Row S w' 70 esr (some ⟨go, 0, none⟩) lc (ls.set d ⟨some ⟨g, 0, none⟩, cr, xs⟩)) (hg : S g) (hnew : ∀ (e : Nat) (r : Sr), ls[e]? = some r → r.ao ≠ some ⟨g, 0, none⟩)
 (hr : Row (· = g) w 9 es (some ⟨g, 0, none⟩) cr xs) (hd : d < dn) (e : ∀ d' a', d' < dn → a' < sn → d' ≠ d → f' d' a' = f d' a') (hx : xs = (List.range sn).map (f' d)) : LD S w' (some ⟨go, 0, none⟩) lc (ls.set d ⟨some ⟨g, 0, none⟩, cr, xs⟩) dn sn f' := by
 have hlen := h.len
 have hdl : d < ls.length := by omega
 have hko : kb w go = some (some 70) := (h.outer.kb.at_ _ rfl).2
 have hne : ∀ b, b = go → kb w b ≠ some (some 9) := fun b e => by rw [e, hko]; decide
 refine ⟨by rw [List.length_set]; exact hlen, ho, fun d' r hd' => ?_, fun d' r hd' => ?_, fun d' e' r q g' h1 h2 h3 h4 => ?_⟩
 ·rw [List.getElem?_set] at hd'
  split at hd'
  ·rename_i e2
   skip
   injection hd' with hd'
   subst hd'
   rw [← e2]
   exact hx
  ·rename_i e2
   rw [h.vals d' r hd']
   have hdl' := (List.getElem?_eq_some_iff.1 hd').1
   exact List.map_congr_left (fun j hj => (e d' j (by omega) (List.mem_range.1 hj) (fun h => e2 h.symm)).symm)
 ·rw [List.getElem?_set] at hd'
  split at hd'
  ·skip
   injection hd' with hd'
   subst hd'
   exact ⟨g, rfl, hg, hr.chgK k (fun b _ m => hne b m)⟩
  ·obtain ⟨g', h1, h2, h3⟩ := h.own d' r hd'
   exact ⟨g', h1, h2, h3.chgK k (fun b _ m => hne b m)⟩
 ·rw [List.getElem?_set] at h1 h2
  split at h1 <;> split at h2
  ·omega
  ·skip
   injection h1 with h1
   subst h1
   injection h3 with h3
   injection h3 with h3
   subst h3
   exact absurd h4 (hnew e' q h2)
  ·skip
   injection h2 with h2
   subst h2
   injection h4 with h4
   injection h4 with h4
   subst h4
   exact absurd h3 (hnew d' r h1)
  ·exact h.apart d' e' r q g' h1 h2 h3 h4
end
structure DI (S : Nat → Prop) (w : World) (la : Option Addr) (lc : Nat) (ls : List Sr) (ga : Option Addr) (gc : Nat) (wa : Option Addr) (wc : Nat) (dn sn : Nat) (f : Nat → Nat → ByteArray) (gl : List Bool) (ws : List (Pl × List UInt8)) : Prop where
 ld : LD S w la lc ls dn sn f
 gone : Row S w 4 ebool ga gc gl
 waits : Row S w 104 ewt wa wc ws
section
variable {S M : Nat → Prop} {w w' : World} {la ga wa : Option Addr} {lc gc wc : Nat} {ls : List Sr} {dn sn : Nat} {f f' : Nat → Nat → ByteArray} {gl : List Bool} {ws : List (Pl × List UInt8)}
theorem DI.chg (h : DI S w la lc ls ga gc wa wc dn sn f gl ws) (k : Chg M w w') (hd : ∀ b, b < w.heap.size → S b → M b → False) : DI S w' la lc ls ga gc wa wc dn sn f gl ws := ⟨h.ld.chg k hd, h.gone.chg k hd, h.waits.chg k hd⟩
theorem DI.pure (h : DI S w la lc ls ga gc wa wc dn sn f gl ws) (k : Chg Nob w w') : DI S w' la lc ls ga gc wa wc dn sn f gl ws := h.chg k (fun _ _ _ x => x)
theorem DI.mono {S' : Nat → Prop} (h : DI S w la lc ls ga gc wa wc dn sn f gl ws) (k : ∀ b, S b → S' b) : DI S' w la lc ls ga gc wa wc dn sn f gl ws := ⟨h.ld.mono k, h.gone.mono k, h.waits.mono k⟩
theorem DI.lt (h : DI S w la lc ls ga gc wa wc dn sn f gl ws) : DI (fun b => S b ∧ b < w.heap.size) w la lc ls ga gc wa wc dn sn f gl ws := ⟨h.ld.lt, h.gone.lt, h.waits.lt⟩
theorem DI.own (h : DI S w la lc ls ga gc wa wc dn sn f gl ws) {D : Nat} {cs : List Value} (hB : Blk w D 87 cs) (k : Chg (· = D) w w') : DI S w' la lc ls ga gc wa wc dn sn f gl ws := by
 have hk := hB.kb
 have hd : ∀ T, T ≠ 87 → ∀ b, b < w.heap.size → b = D → kb w b ≠ some (some T) := by
  rintro T hT b _ rfl e
  rw [hk] at e
  injection e with e
  injection e with e
  exact hT e.symm
 exact ⟨h.ld.chgK k (fun b h1 h2 => ⟨hd _ (by decide) b h1 h2, hd _ (by decide) b h1 h2⟩), h.gone.chgK k (hd _ (by decide)), h.waits.chgK k (hd _ (by decide))⟩
theorem DI.setWaits {wa2 : Option Addr} {wc2 : Nat} {ws2 : List (Pl × List UInt8)} (h : DI S w la lc ls ga gc wa wc dn sn f gl ws) (hW : Row S w' 104 ewt wa2 wc2 ws2) (k : Chg M w w') (hM : ∀ b, M b → Eqb wa b) : DI S w' la lc ls ga gc wa2 wc2 dn sn f gl ws2 := by
 have hd : ∀ b, b < w.heap.size → M b → kb w b = some (some 104) := fun b _ hm => h.waits.kb.at_.eqb (hM b hm) |>.2
 refine ⟨h.ld.chgK k (fun b h1 h2 => ?_), h.gone.chgK k (fun b h1 h2 => ?_), hW⟩
 ·rw [hd b h1 h2]
  exact ⟨by decide, by decide⟩
 ·rw [hd b h1 h2]
  decide
theorem DI.neW (h : DI S w la lc ls ga gc wa wc dn sn f gl ws) {D : Nat} {cs : List Value} (hB : Blk w D 87 cs) : ¬ Eqb wa D := fun e => by
 have h1 := (h.waits.kb.at_.eqb e).2
 rw [hB.kb] at h1
 exact absurd h1 (by decide)
theorem DI.neG (h : DI S w la lc ls ga gc wa wc dn sn f gl ws) {D : Nat} {cs : List Value} (hB : Blk w D 87 cs) : ¬ Eqb ga D := fun e => by
 have h1 := (h.gone.kb.at_.eqb e).2
 rw [hB.kb] at h1
 exact absurd h1 (by decide)
theorem DI.neL (h : DI S w la lc ls ga gc wa wc dn sn f gl ws) {D : Nat} {cs : List Value} (hB : Blk w D 87 cs) : ¬ Eqb la D := fun e => by
 have h1 := (h.ld.outer.kb.at_.eqb e).2
 rw [hB.kb] at h1
 exact absurd h1 (by decide)
theorem DI.setGone {gl2 : List Bool} {g : Nat} (h : DI S w la lc ls (some ⟨g, 0, none⟩) gc wa wc dn sn f gl ws) (hG : Row S w' 4 ebool (some ⟨g, 0, none⟩) gc gl2) (k : Chg (· = g) w w') : DI S w' la lc ls (some ⟨g, 0, none⟩) gc wa wc dn sn f gl2 ws := by
 have hk : kb w g = some (some 4) := (h.gone.kb.at_ _ rfl).2
 refine ⟨h.ld.chgK k (fun b h1 h2 => ?_), hG, h.waits.chgK k (fun b h1 h2 => ?_)⟩
 ·rw [show b = g from h2, hk]
  exact ⟨by decide, by decide⟩
 ·rw [show b = g from h2, hk]
  decide
theorem DI.setLd {la2 : Option Addr} {lc2 : Nat} {ls2 : List Sr} (h : DI S w la lc ls ga gc wa wc dn sn f gl ws) (hL : LD S w' la2 lc2 ls2 dn sn f') (k : Chg M w w') (hM : ∀ b, b < w.heap.size → M b → kb w b = some (some 9) ∨ kb w b = some (some 70)) : DI S w' la2 lc2 ls2 ga gc wa wc dn sn f' gl ws := by
 refine ⟨hL, h.gone.chgK k (fun b h1 h2 => ?_), h.waits.chgK k (fun b h1 h2 => ?_)⟩
 ·rcases hM b h1 h2 with e | e <;> (rw [e]; decide)
 ·rcases hM b h1 h2 with e | e <;> (rw [e]; decide)
end
def lf (s : RA) (d a : Nat) : ByteArray := bs (lastS s ((d : Int), (a : Int)))
def armD (s : RA) : Int := if s.armed = true then s.left else -1
abbrev dcells (s : RA) (la : Option Addr) (ln lc : Nat) (ga : Option Addr) (gc : Nat) (wa : Option Addr) (wc : Nat) : List Value := [.slice la ln lc, .slice ga s.gone.length gc, .slice wa s.waits.length wc, .bool s.off, vi (armD s)]
structure RD (A : Nat → Prop) (w : World) (D : Nat) (s : RA) : Prop where
 aD : A D
 ok : s.ok
 win : ∀ p ∈ s.waits, inS s p.1.1 p.1.2
 ex : ∃ (la : Option Addr) (lc : Nat) (ls : List Sr) (ga : Option Addr) (gc : Nat) (wa : Option Addr) (wc : Nat), Blk w D 87 (dcells s la s.dn lc ga gc wa wc) ∧ DI A w la lc ls ga gc wa wc s.dn s.sn (lf s) s.gone s.waits
section
variable {A M : Nat → Prop} {w w' : World} {D : Nat} {s : RA}
theorem RD.chg (h : RD A w D s) (k : Chg M w w') (hd : ∀ b, b < w.heap.size → A b → M b → False) : RD A w' D s := by
 obtain ⟨la, lc, ls, ga, gc, wa, wc, hB, hI⟩ := h.ex
 exact ⟨h.aD, h.ok, h.win, la, lc, ls, ga, gc, wa, wc, hB.chg k (fun hm => hd D hB.lt h.aD hm), hI.chg k hd⟩
theorem RD.pure (h : RD A w D s) (k : Chg Nob w w') : RD A w' D s := h.chg k (fun _ _ _ x => x)
theorem RD.mono {A' : Nat → Prop} (h : RD A w D s) (k : ∀ b, A b → A' b) : RD A' w D s := by
 obtain ⟨la, lc, ls, ga, gc, wa, wc, hB, hI⟩ := h.ex
 exact ⟨k _ h.aD, h.ok, h.win, la, lc, ls, ga, gc, wa, wc, hB, hI.mono k⟩
theorem RD.old (h : RD A w D s) : RD (fun b => A b ∧ b < w.heap.size) w D s := by
 obtain ⟨la, lc, ls, ga, gc, wa, wc, hB, hI⟩ := h.ex
 exact ⟨⟨h.aD, hB.lt⟩, h.ok, h.win, la, lc, ls, ga, gc, wa, wc, hB, hI.lt⟩
theorem RD.lt (h : RD A w D s) : D < w.heap.size := by
 obtain ⟨la, lc, ls, ga, gc, wa, wc, hB, hI⟩ := h.ex
 exact hB.lt
end
theorem dIs_calls {A : Nat → Prop} {w : World} {D : Nat} {s : RA} (h : RD A w D s) (d : Int) : Calls Tryz.prog 56 [ptr D, vi d].toArray w (Ret fun v w' => v = .bool (decide (isS s d)) ∧ Chg Nob w w') := by
 obtain ⟨la, lc, ls, ga, gc, wa, wc, hB, hI⟩ := h.ex
 have hw := Chg.refl Nob w
 refine Calls.of_WC Tryz.func56 rfl Tryz.ntmps56 (by simp) ?_
 refine WC.sr (WL.assign rfl rfl (WL.t (WC.sr (WL.move rfl rfl (WL.qx rfl rfl rfl (fun h6 => ?_) (fun h6 => ?_))))))
 ·refine WL.move rfl rfl (WL.qa rfl rfl rfl (WL.move rfl rfl (WL.qa rfl rfl rfl (WL.move rfl rfl (WL.qa rfl rfl rfl (WL.nilCheck rfl rfl (WL.qa rfl rfl rfl (WL.fieldAddr (fld_87_0) rfl rfl (WL.qa rfl rfl rfl (WL.qd Tryz.isAgg83 hB rfl rfl rfl (WL.qa rfl rfl rfl (WL.len Tryz.underlying83 rfl rfl (WL.qa rfl rfl rfl (WL.lss rfl rfl rfl (WL.qc rfl rfl rfl (WL.assign rfl rfl (WL.t (WC.ret (WX.qg (.inl rfl) Tryz.results56 rfl ?_)))))))))))))))))))
  refine ⟨_, rfl, ?_, hw⟩
  congr 1
  first
   |(symm
     rw [decide_eq_false_iff_not]
     intro h
     have := h.1
     omega)
   |(refine decide_eq_decide.2 ⟨fun h => ⟨by omega, h⟩, fun h => h.2⟩)
 ·refine WL.move rfl rfl (WL.pass rfl rfl rfl rfl (WL.pass rfl rfl rfl rfl (WL.pass rfl rfl rfl rfl (WL.pass rfl rfl rfl rfl (WL.pass rfl rfl rfl rfl (WL.pass rfl rfl rfl rfl (WL.pass rfl rfl rfl rfl (WL.qb rfl rfl rfl (WL.assign rfl rfl (WL.t (WC.ret (WX.qg (.inl rfl) Tryz.results56 rfl ?_))))))))))))
  refine ⟨_, rfl, ?_, hw⟩
  congr 1
  first
   |(symm
     rw [decide_eq_false_iff_not]
     intro h
     have := h.1
     omega)
   |(refine decide_eq_decide.2 ⟨fun h => ⟨by omega, h⟩, fun h => h.2⟩)
theorem dIn_calls {A : Nat → Prop} {w : World} {D : Nat} {s : RA} (h : RD A w D s) (d a : Int) : Calls Tryz.prog 62 [ptr D, vi d, vi a].toArray w (Ret fun v w' => v = .bool (decide (inS s d a)) ∧ Chg Nob w w') := by
 have hw := Chg.refl Nob w
 have hdn := h.ok.dn
 refine Calls.of_WC Tryz.func62 rfl Tryz.ntmps62 (by simp) ?_
 refine WC.sr (WL.assign rfl rfl (WL.t (WC.sr (WL.move rfl rfl (WL.move rfl rfl (WL.call eg_56 rfl rfl (dIs_calls h d) ?_))))))
 rintro v w1 ⟨rfl, k1⟩
 replace h := h.pure k1
 replace hw := hw.pure k1
 obtain ⟨la, lc, ls, ga, gc, wa, wc, hB, hI⟩ := h.ex
 have hlen := hI.ld.len
 by_cases h9 : isS s d
 ·rw [decide_eq_true h9]
  refine WL.move rfl rfl (WL.qa rfl rfl rfl (WL.move rfl rfl (WL.qa rfl rfl rfl (WL.qx rfl rfl rfl (fun h12 => ?_) (fun h12 => ?_)))))
  ·refine WL.qc rfl rfl rfl (WL.move rfl rfl (WL.qa rfl rfl rfl (WL.move rfl rfl (WL.qa rfl rfl rfl (WL.move rfl rfl (WL.qa rfl rfl rfl (WL.nilCheck rfl rfl (WL.qa rfl rfl rfl (WL.fieldAddr (fld_87_0) rfl rfl (WL.qa rfl rfl rfl (WL.qd Tryz.isAgg83 hB rfl rfl rfl (WL.qa rfl rfl rfl (?_)))))))))))))
   obtain ⟨r0, hr0⟩ : ∃ r, ls[0]? = some r := ⟨_, List.getElem?_eq_getElem (by omega)⟩
   have hrl := hI.ld.rlen hr0
   refine WL.qg (e := esr) Tryz.underlying83 Tryz.sizeOf70 hI.ld.outer.rsl (by show some (Value.slice la s.dn lc) = some (Value.slice la ls.length lc); rw [hlen]) rfl ⟨hr0, rfl⟩ rfl ?_
   intro bb oo hcc
   refine WL.qa rfl rfl rfl (WL.load Tryz.isAgg70 rfl (hcc 0 _ rfl) rfl ?_)
   refine WL.qa rfl rfl rfl (WL.len Tryz.underlying70 rfl rfl (WL.qa rfl rfl rfl (WL.lss rfl rfl rfl (WL.qc rfl rfl rfl (WL.assign rfl rfl (WL.t (WC.ret (WX.qg (.inl rfl) Tryz.results62 rfl ?_))))))))
   refine ⟨_, rfl, ?_, hw⟩
   congr 1
   first
    |(symm
      refine decide_eq_false (fun h => ?_)
      first
       |exact h9 ⟨h.1, h.2.1⟩
       |(have := h.2.2.1
         omega))
    |(refine decide_eq_decide.2 ⟨fun h => ⟨h9.1, h9.2, by omega, by omega⟩, fun h => ?_⟩
      have := h.2.2.2
      omega)
  ·refine WL.qc rfl rfl rfl (WL.move rfl rfl (WL.pass rfl rfl rfl rfl (WL.pass rfl rfl rfl rfl (WL.pass rfl rfl rfl rfl (WL.pass rfl rfl rfl rfl (WL.pass rfl rfl rfl rfl (WL.pass rfl rfl rfl rfl (WL.pass rfl rfl rfl rfl (WL.pass rfl rfl rfl rfl (WL.pass rfl rfl rfl rfl (WL.qb rfl rfl rfl (WL.assign rfl rfl (WL.t (WC.ret (WX.qg (.inl rfl) Tryz.results62 rfl ?_)))))))))))))))
   refine ⟨_, rfl, ?_, hw⟩
   congr 1
   first
    |(symm
      refine decide_eq_false (fun h => ?_)
      first
       |exact h9 ⟨h.1, h.2.1⟩
       |(have := h.2.2.1
         omega))
    |(refine decide_eq_decide.2 ⟨fun h => ⟨h9.1, h9.2, by omega, by omega⟩, fun h => ?_⟩
      have := h.2.2.2
      omega)
 ·rw [decide_eq_false h9]
  refine WL.move rfl rfl (WL.pass rfl rfl rfl rfl (WL.pass rfl rfl rfl rfl (WL.qb rfl rfl rfl (WL.move rfl rfl (WL.pass rfl rfl rfl rfl (WL.pass rfl rfl rfl rfl (WL.pass rfl rfl rfl rfl (WL.pass rfl rfl rfl rfl (WL.pass rfl rfl rfl rfl (WL.pass rfl rfl rfl rfl (WL.pass rfl rfl rfl rfl (WL.pass rfl rfl rfl rfl (WL.pass rfl rfl rfl rfl (WL.qb rfl rfl rfl (WL.assign rfl rfl (WL.t (WC.ret (WX.qg (.inl rfl) Tryz.results62 rfl ?_))))))))))))))))))
  refine ⟨_, rfl, ?_, hw⟩
  congr 1
  first
   |(symm
     refine decide_eq_false (fun h => ?_)
     first
      |exact h9 ⟨h.1, h.2.1⟩
      |(have := h.2.2.1
        omega))
   |(refine decide_eq_decide.2 ⟨fun h => ⟨h9.1, h9.2, by omega, by omega⟩, fun h => ?_⟩
     have := h.2.2.2
     omega)
end Go.Proofs.YtjeldcjchipdgaaGreatDoor
namespace Go.Proofs.YtjeldcjchipdgaaGreatDoor
open Go.RowKit Go.HL
set_option maxRecDepth 100000
theorem dNewest_calls {A : Nat → Prop} {w : World} {D : Nat} {s : RA} (h : RD A w D s) (hn : s.waits.length ≤ 1000000) (d a : Int) :
 Calls Tryz.prog 63 [ptr D, vi d, vi a].toArray w (Ret fun v w' => (∃ k : Int, v = vi k ∧ ((k = -1 ∧ ∀ x ∈ s.waits, x.1 ≠ (d, a)) ∨ ∃ (i : Nat) (x : Pl × List UInt8), k = (i : Int) ∧ s.waits[i]? = some x ∧ x.1 = (d, a) ∧ ∀ j y, i < j → s.waits[j]? = some y → y.1 ≠ (d, a))) ∧ Chg Nob w w') := by
 obtain ⟨la, lc, ls, ga, gc, wa, wc, hB, hI⟩ := h.ex
 have hW := hI.waits.rsl.old
 have hw := Chg.refl Nob w
 refine Calls.of_WC Tryz.func63 rfl Tryz.ntmps63 (by simp) ?_
 refine WC.sr (WL.assign rfl rfl (WL.t (WC.sr (WL.assign rfl rfl (WL.t (WC.seq (WC.sr (WL.assign rfl rfl (WL.t (WC.block (?_)))))))))))
 refine WC.loop (σ := Nat × Int) (fun q => [(0, ptr D), (1, vi d), (2, vi a), (7, vi q.2), (8, vi q.1)])
  (fun q w' => q.1 ≤ s.waits.length ∧ ((q.2 = -1 ∧ ∀ j x, j < q.1 → s.waits[j]? = some x → x.1 ≠ (d, a)) ∨ ∃ (i : Nat) (x : Pl × List UInt8), q.2 = (i : Int) ∧ s.waits[i]? = some x ∧ x.1 = (d, a) ∧ ∀ j y, i < j → j < q.1 → s.waits[j]? = some y → y.1 ≠ (d, a)) ∧ Blk w' D 87 (dcells s la s.dn lc ga gc wa wc) ∧ RSl (· < w.heap.size) w' ewt wa wc s.waits ∧ Chg Nob w w') (fun q => s.waits.length - q.1) (0, -1) ⟨rfl, rfl, rfl, rfl, rfl, trivial⟩ ⟨Nat.zero_le _, .inl ⟨rfl, fun j x h => absurd h (Nat.not_lt_zero j)⟩, hB, hW, hw⟩ ?_
 clear hB hW hw
 rintro ⟨i, n⟩ w2 ⟨hi, hI2, hB, hW, hw⟩
 simp only at hi hI2
 dsimp only
 refine WC.seq (WC.sr (WL.move rfl rfl (WL.move rfl rfl (WL.nilCheck rfl rfl (WL.fieldAddr (fld_87_2) rfl rfl (WL.qd Tryz.isAgg85 hB rfl rfl rfl (WL.len Tryz.underlying85 rfl rfl (WL.qi rfl rfl rfl (fun h15 => ?_) (fun h15 => ?_)))))))))
 ·refine WL.t (WC.qb rfl (WC.skip (WX.qa (WC.seq (WC.block (WC.seq (WC.region (WL.move rfl rfl (WL.nilCheck rfl rfl (WL.fieldAddr (fld_87_2) rfl rfl (WL.qd Tryz.isAgg85 hB rfl rfl rfl (WL.move rfl rfl (?_)))))))))))))
  obtain ⟨⟨⟨x1, x2⟩, xb⟩, hx⟩ : ∃ x, s.waits[i]? = some x := ⟨_, List.getElem?_eq_getElem (by omega)⟩
  refine WL.qg Tryz.underlying85 Tryz.sizeOf104 hW rfl rfl ⟨hx, rfl⟩ rfl ?_
  intro b_1 o_1 hc_1
  refine WL.fieldAddr (fld_104_0) rfl rfl (WL.load Tryz.isAgg3 rfl (hc_1 _ _ rfl) rfl (WL.move rfl rfl (WL.qj rfl rfl rfl (fun h27 => ?_) (fun h27 => ?_))))
  ·refine WL.move rfl rfl (WL.qa rfl rfl rfl (WL.move rfl rfl (WL.qa rfl rfl rfl (WL.nilCheck rfl rfl (WL.qa rfl rfl rfl (WL.fieldAddr (fld_87_2) rfl rfl (WL.qa rfl rfl rfl (WL.qd Tryz.isAgg85 hB rfl rfl rfl (WL.qa rfl rfl rfl (WL.move rfl rfl (WL.qa rfl rfl rfl (WL.qg Tryz.underlying85 Tryz.sizeOf104 hW rfl rfl ⟨hx, rfl⟩ rfl ?_))))))))))))
   intro b_2 o_2 hc_2
   refine WL.qa rfl rfl rfl (WL.fieldAddr (fld_104_1) rfl rfl (WL.qa rfl rfl rfl (WL.load Tryz.isAgg3 rfl (hc_2 _ _ rfl) rfl (WL.qa rfl rfl rfl (WL.move rfl rfl (WL.qa rfl rfl rfl (WL.qj rfl rfl rfl (fun h38 => ?_) (fun h38 => ?_))))))))
   ·refine WL.qc rfl rfl rfl (WL.t (WC.qb rfl (WC.region (WL.move rfl rfl (WL.assign rfl rfl (WL.nil (WX.qd (WX.qa (WC.region (WL.move rfl rfl (WL.qe rfl rfl (by omega) rfl (WL.assign rfl rfl (WL.nil (?_))))))))))))))
    first
     |(refine WX.qc (i + 1, (i : Int)) ⟨rfl, rfl, rfl, rfl, rfl, trivial⟩ ⟨by show i + 1 ≤ _; omega, .inr ⟨i, _, rfl, hx, ?_, fun j y h1 h2 _ => ?_⟩, hB, hW, hw⟩ (by show s.waits.length - (i + 1) < s.waits.length - i; omega)
       ·exact Prod.ext h27 h38
       ·exfalso
        omega)
     |(refine WX.qc (i + 1, n) ⟨rfl, rfl, rfl, rfl, rfl, trivial⟩ ⟨by show i + 1 ≤ _; omega, ?_, hB, hW, hw⟩ (by show s.waits.length - (i + 1) < s.waits.length - i; omega)
       have hne : (x1, x2) ≠ (d, a) := fun e => by
        injection e with e1 e2
        first
         |exact h27 e1
         |exact h38 e2
       rcases hI2 with ⟨h1, h2⟩ | ⟨i', x', h1, h2, h3, h4⟩
       ·refine .inl ⟨h1, fun j x hj hxj => ?_⟩
        rcases Nat.lt_or_ge j i with h5 | h5
        ·exact h2 j x h5 hxj
        ·have h6 : j < i + 1 := hj
         obtain rfl : j = i := by omega
         rw [hx] at hxj
         injection hxj with hxj
         rw [← hxj]
         exact hne
       ·refine .inr ⟨i', x', h1, h2, h3, fun j y hj hj2 hy => ?_⟩
        rcases Nat.lt_or_ge j i with h5 | h5
        ·exact h4 j y hj h5 hy
        ·have h6 : j < i + 1 := hj2
         obtain rfl : j = i := by omega
         rw [hx] at hy
         injection hy with hy
         rw [← hy]
         exact hne)
   ·refine WL.qc rfl rfl rfl (WL.t (WC.qa rfl (WC.skip (WX.qd (WX.qa (WC.region (WL.move rfl rfl (WL.qe rfl rfl (by omega) rfl (WL.assign rfl rfl (WL.nil (?_)))))))))))
    first
     |(refine WX.qc (i + 1, (i : Int)) ⟨rfl, rfl, rfl, rfl, rfl, trivial⟩ ⟨by show i + 1 ≤ _; omega, .inr ⟨i, _, rfl, hx, ?_, fun j y h1 h2 _ => ?_⟩, hB, hW, hw⟩ (by show s.waits.length - (i + 1) < s.waits.length - i; omega)
       ·exact Prod.ext h27 h38
       ·exfalso
        have h3 : j < i + 1 := h2
        omega)
     |(refine WX.qc (i + 1, n) ⟨rfl, rfl, rfl, rfl, rfl, trivial⟩ ⟨by show i + 1 ≤ _; omega, ?_, hB, hW, hw⟩ (by show s.waits.length - (i + 1) < s.waits.length - i; omega)
       have hne : (x1, x2) ≠ (d, a) := fun e => by
        injection e with e1 e2
        first
         |exact h27 e1
         |exact h38 e2
       rcases hI2 with ⟨h1, h2⟩ | ⟨i', x', h1, h2, h3, h4⟩
       ·refine .inl ⟨h1, fun j x hj hxj => ?_⟩
        rcases Nat.lt_or_ge j i with h5 | h5
        ·exact h2 j x h5 hxj
        ·have h6 : j < i + 1 := hj
         obtain rfl : j = i := by omega
         rw [hx] at hxj
         injection hxj with hxj
         rw [← hxj]
         exact hne
       ·refine .inr ⟨i', x', h1, h2, h3, fun j y hj hj2 hy => ?_⟩
        rcases Nat.lt_or_ge j i with h5 | h5
        ·exact h4 j y hj h5 hy
        ·have h6 : j < i + 1 := hj2
         obtain rfl : j = i := by omega
         rw [hx] at hy
         injection hy with hy
         rw [← hy]
         exact hne)
  ·refine WL.move rfl rfl (WL.pass rfl rfl rfl rfl (WL.pass rfl rfl rfl rfl (WL.pass rfl rfl rfl rfl (WL.pass rfl rfl rfl rfl (WL.pass rfl rfl rfl rfl (WL.pass rfl rfl rfl rfl (WL.pass rfl rfl rfl rfl (WL.pass rfl rfl rfl rfl (WL.pass rfl rfl rfl rfl (WL.pass rfl rfl rfl rfl (WL.qb rfl rfl rfl (WL.t (WC.qa rfl (WC.skip (WX.qd (WX.qa (WC.region (WL.move rfl rfl (WL.qe rfl rfl (by omega) rfl (WL.assign rfl rfl (WL.nil (?_))))))))))))))))))))))
   first
    |(refine WX.qc (i + 1, (i : Int)) ⟨rfl, rfl, rfl, rfl, rfl, trivial⟩ ⟨by show i + 1 ≤ _; omega, .inr ⟨i, _, rfl, hx, ?_, fun j y h1 h2 _ => ?_⟩, hB, hW, hw⟩ (by show s.waits.length - (i + 1) < s.waits.length - i; omega)
      ·exact Prod.ext h27 h38
      ·exfalso
       have h3 : j < i + 1 := h2
       omega)
    |(refine WX.qc (i + 1, n) ⟨rfl, rfl, rfl, rfl, rfl, trivial⟩ ⟨by show i + 1 ≤ _; omega, ?_, hB, hW, hw⟩ (by show s.waits.length - (i + 1) < s.waits.length - i; omega)
      have hne : (x1, x2) ≠ (d, a) := fun e => by
       injection e with e1 e2
       first
        |exact h27 e1
        |exact h38 e2
      rcases hI2 with ⟨h1, h2⟩ | ⟨i', x', h1, h2, h3, h4⟩
      ·refine .inl ⟨h1, fun j x hj hxj => ?_⟩
       rcases Nat.lt_or_ge j i with h5 | h5
       ·exact h2 j x h5 hxj
       ·have h6 : j < i + 1 := hj
        obtain rfl : j = i := by omega
        rw [hx] at hxj
        injection hxj with hxj
        rw [← hxj]
        exact hne
      ·refine .inr ⟨i', x', h1, h2, h3, fun j y hj hj2 hy => ?_⟩
       rcases Nat.lt_or_ge j i with h5 | h5
       ·exact h4 j y hj h5 hy
       ·have h6 : j < i + 1 := hj2
        obtain rfl : j = i := by omega
        rw [hx] at hy
        injection hy with hy
        rw [← hy]
        exact hne)
 ·refine WL.t (WC.qa rfl (WC.exit (WX.qe (WX.qe (WX.qh (WX.qa (WC.sr (WL.move rfl rfl (WL.assign rfl rfl (WL.t (WC.ret (WX.qg (.inl rfl) Tryz.results63 rfl ?_))))))))))))
  refine ⟨_, rfl, ⟨n, rfl, ?_⟩, hw⟩
  rcases hI2 with ⟨h1, h2⟩ | ⟨i', x', h1, h2, h3, h4⟩
  ·refine .inl ⟨h1, fun x hx => ?_⟩
   obtain ⟨j, hj⟩ := List.getElem?_of_mem hx
   have hjl := (List.getElem?_eq_some_iff.1 hj).1
   exact h2 j x (by omega) hj
  ·refine .inr ⟨i', x', h1, h2, h3, fun j y hj hy => h4 j y hj ?_ hy⟩
   have hjl := (List.getElem?_eq_some_iff.1 hy).1
   omega
theorem dRead_calls {A : Nat → Prop} {w : World} {D : Nat} {s : RA} (h : RD A w D s) (hn : s.waits.length ≤ 1000000) (d a : Int) :
 Calls Tryz.prog 88 [ptr D, vi d, vi a].toArray w (Ret fun v w' => v = .tuple #[.string (if errS s d a = 0 then bs (heldS s (d, a)) else bs []), vi (errS s d a)] ∧ Chg Nob w w') := by
 have hw := Chg.refl Nob w
 have hok := h.ok
 refine Calls.of_WC Tryz.func88 rfl Tryz.ntmps88 (by simp) ?_
 refine WC.sr (WL.assign rfl rfl (WL.assign rfl rfl (WL.t (WC.seq (WC.seq (WC.region (WL.move rfl rfl (WL.move rfl rfl (WL.move rfl rfl (WL.call eg_62 rfl rfl (dIn_calls h d a) ?_))))))))))
 rintro v w1 ⟨rfl, k1⟩
 replace h := h.pure k1
 replace hw := hw.pure k1
 obtain ⟨la, lc, ls, ga, gc, wa, wc, hB, hI⟩ := h.ex
 have hlen := hI.ld.len
 by_cases h12 : inS s d a
 ·rw [decide_eq_true h12]
  refine WL.not rfl rfl (WL.t (WC.qa rfl (WC.skip (WX.qa (WC.seq (WC.seq (WC.region (WL.move rfl rfl (WL.nilCheck rfl rfl (WL.fieldAddr (fld_87_1) rfl rfl (WL.qd Tryz.isAgg84 hB rfl rfl rfl (WL.move rfl rfl (?_)))))))))))))
  have hgd := goneS_at hok (d := d) ⟨h12.1, h12.2.1⟩
  refine WL.qg (e := ebool) Tryz.underlying84 Tryz.sizeOf4 hI.gone.rsl rfl rfl ⟨hgd, by have := h12.1; omega⟩ rfl ?_
  intro bb oo hcc
  refine WL.load Tryz.isAgg4 rfl (hcc 0 _ rfl) rfl ?_
  rcases hg : goneS s d with _ | _
  ·refine WL.t (WC.qa rfl (WC.skip (WX.qa (WC.seq (WC.sr (WL.move rfl rfl (WL.nilCheck rfl rfl (WL.fieldAddr (fld_87_3) rfl rfl (WL.qd Tryz.isAgg4 hB rfl rfl rfl ?_)))))))))
   rcases ho : s.off with _ | _
   ·refine WL.t (WC.qa rfl (WC.skip (WX.qa (WC.sr (WL.move rfl rfl (WL.move rfl rfl (WL.move rfl rfl (WL.call eg_63 rfl rfl (dNewest_calls h hn d a) ?_))))))))
    rintro v w2 ⟨⟨k, rfl, hk⟩, k2⟩
    replace hw := hw.pure k2
    replace hB := hB.pure k2
    replace hI := hI.pure k2
    have hE : errS s d a = 0 := by simp [errS, h12, hg, ho]
    refine WL.assign rfl rfl (WL.t (WC.seq (WC.sr (WL.move rfl rfl (?_)))))
    rcases hk with ⟨h1, h2⟩ | ⟨i, x, h1, h2, h3, h4⟩
    ·refine WL.geqF rfl rfl rfl (by omega) ?_
     refine WL.t (WC.qa rfl (WC.skip (WX.qa (WC.sr (WL.move rfl rfl (WL.nilCheck rfl rfl (WL.fieldAddr (fld_87_0) rfl rfl (WL.qd Tryz.isAgg83 hB rfl rfl rfl (WL.move rfl rfl (?_))))))))))
     obtain ⟨r, hr⟩ : ∃ r, ls[d.toNat]? = some r := ⟨_, List.getElem?_eq_getElem (by have := h12.1; have := h12.2.1; omega)⟩
     obtain ⟨g, hgr, _, hrow⟩ := hI.ld.own d.toNat r hr
     have hra := hI.ld.at hr (a := a.toNat) (by have := h12.2.2; omega)
     refine WL.qg (e := esr) Tryz.underlying83 Tryz.sizeOf70 hI.ld.outer.rsl (by show some (Value.slice la s.dn lc) = some (Value.slice la ls.length lc); rw [hlen]) rfl ⟨hr, by have := h12.1; omega⟩ rfl ?_
     intro bb oo hcc5
     refine WL.load Tryz.isAgg70 rfl (hcc5 0 _ rfl) rfl (WL.move rfl rfl (?_))
     refine WL.qg (e := es) Tryz.underlying70 Tryz.sizeOf9 hrow.rsl (by show some (Value.slice r.ao _ _) = _; rw [hgr]) rfl ⟨hra, by have := h12.2.2.1; omega⟩ rfl ?_
     intro bb6 oo6 hcc6
     refine WL.load Tryz.isAgg9 rfl (hcc6 0 _ rfl) rfl ?_
     rw [show lf s d.toNat a.toNat = bs (heldS s (d, a)) from by
      rw [heldS_eq, newV_none h2, lf, show ((d.toNat : Int)) = d from by have := h12.1; omega, show ((a.toNat : Int)) = a from by have := h12.2.2.1; omega]]
     refine WL.assign rfl rfl (WL.assign rfl rfl (WL.t (WC.ret (WX.qi (.inl rfl) Tryz.results88 rfl rfl ?_))))
     refine ⟨_, rfl, ?_, hw⟩
     rw [hE]
     first
      |(rw [if_pos rfl, heldS_eq, newV_some h2 h3 h4]; done)
      |(rw [if_pos rfl]; done)
      |(rw [if_neg (by decide)])
    ·refine WL.geqT rfl rfl rfl (by omega) ?_
     refine WL.t (WC.qb rfl (WC.sr (WL.move rfl rfl (WL.nilCheck rfl rfl (WL.fieldAddr (fld_87_2) rfl rfl (WL.qd Tryz.isAgg85 hB rfl rfl rfl (WL.move rfl rfl (WL.qg Tryz.underlying85 Tryz.sizeOf104 hI.waits.rsl rfl rfl ⟨h2, h1⟩ rfl ?_))))))))
     intro b_1 o_1 hc_1
     refine WL.fieldAddr (fld_104_2) rfl rfl (WL.load Tryz.isAgg9 rfl (hc_1 _ _ rfl) rfl (WL.assign rfl rfl (WL.assign rfl rfl (WL.t (WC.ret (WX.qb (WX.qi (.inl rfl) Tryz.results88 rfl rfl ?_)))))))
     refine ⟨_, rfl, ?_, hw⟩
     rw [hE]
     first
      |(rw [if_pos rfl, heldS_eq, newV_some h2 h3 h4]; done)
      |(rw [if_pos rfl]; done)
      |(rw [if_neg (by decide)])
   ·have hE : errS s d a = 16 := by simp [errS, h12, hg, ho]
    refine WL.t (WC.qb rfl (WC.sr (WL.assign rfl rfl (WL.assign rfl rfl (WL.nil (WX.qa (WC.ret (WX.qb (WX.qi (.inl rfl) Tryz.results88 rfl rfl ?_)))))))))
    refine ⟨_, rfl, ?_, hw⟩
    rw [hE]
    first
     |(rw [if_pos rfl, heldS_eq, newV_some h2 h3 h4]; done)
     |(rw [if_pos rfl]; done)
     |(rw [if_neg (by decide)])
  ·have hE : errS s d a = 3 := by simp [errS, h12, hg]
   refine WL.t (WC.qb rfl (WC.sr (WL.assign rfl rfl (WL.assign rfl rfl (WL.nil (WX.qa (WC.ret (WX.qb (WX.qi (.inl rfl) Tryz.results88 rfl rfl ?_)))))))))
   refine ⟨_, rfl, ?_, hw⟩
   rw [hE]
   first
    |(rw [if_pos rfl, heldS_eq, newV_some h2 h3 h4]; done)
    |(rw [if_pos rfl]; done)
    |(rw [if_neg (by decide)])
 ·have hE : errS s d a = 1 := by simp [errS, h12]
  rw [decide_eq_false h12]
  refine WL.not rfl rfl (WL.t (WC.qb rfl (WC.sr (WL.assign rfl rfl (WL.assign rfl rfl (WL.t (WC.ret (WX.qb (WX.qi (.inl rfl) Tryz.results88 rfl rfl ?_)))))))))
  refine ⟨_, rfl, ?_, hw⟩
  rw [hE]
  first
   |(rw [if_pos rfl, heldS_eq, newV_some h2 h3 h4]; done)
   |(rw [if_pos rfl]; done)
   |(rw [if_neg (by decide)])
theorem armD_range {s : RA} (h : s.ok) : -1 ≤ armD s ∧ armD s ≤ 9223372036854775807 := by
 have h1 := h.lf
 unfold armD
 split
 ·rename_i h2
  have := h1.1 h2
  omega
 ·omega
theorem offD {s : RA} (h : s.ok) : offS s = (s.off || decide (armD s = 0)) := by
 unfold offS armD
 cases s.armed
 ·simp
 ·simp
theorem spend_lastS (s : RA) (q : Pl) : lastS (spendS s) q = lastS s q := by rw [lastS, lastS, spendS_last]
theorem spend_lf (s : RA) : lf (spendS s) = lf s := by
 funext d a
 rw [lf, lf, spend_lastS]
theorem dcells_off {s : RA} (h : offS s = true) (la : Option Addr) (ln lc : Nat) (ga : Option Addr) (gc : Nat) (wa : Option Addr) (wc : Nat) : dcells (spendS s) la ln lc ga gc wa wc = [.slice la ln lc, .slice ga s.gone.length gc, .slice wa s.waits.length wc, .bool true, vi (armD s)] := by
 unfold dcells armD spendS
 rw [if_pos h]
theorem dcells_on {s : RA} (hok : s.ok) (h : offS s = false) (la : Option Addr) (ln lc : Nat) (ga : Option Addr) (gc : Nat) (wa : Option Addr) (wc : Nat) : dcells (spendS s) la ln lc ga gc wa wc = [.slice la ln lc, .slice ga s.gone.length gc, .slice wa s.waits.length wc, .bool s.off, vi (if 0 < armD s then armD s - 1 else armD s)] := by
 have h1 := hok.lf
 unfold dcells armD spendS
 rw [if_neg (by rw [h]; decide)]
 cases ha : s.armed
 ·rfl
 ·have h2 : s.left ≠ 0 := fun e => by
   unfold offS at h
   rw [ha, e] at h
   simp at h
  have h3 := h1.1 ha
  simp only [if_true]
  rw [if_pos (by omega)]
set_option maxHeartbeats 1000000 in
theorem dSpend_calls {A : Nat → Prop} {w : World} {D : Nat} {s : RA} (h : RD A w D s) :
 Calls Tryz.prog 52 [ptr D].toArray w (Ret fun v w' => v = .bool (!offS s) ∧ RD A w' D (spendS s) ∧ Chg A w w' ∧ w'.heap.size = w.heap.size) := by
 have aD := h.aD
 have hok := h.ok
 have hrg := armD_range hok
 have hof := offD hok
 have hwin := h.win
 obtain ⟨la, lc, ls, ga, gc, wa, wc, hB0, hI⟩ := h.ex
 have hB := hB0
 have fin : ∀ w' cs, Blk w' D 87 cs → cs = dcells (spendS s) la s.dn lc ga gc wa wc → DI A w' la lc ls ga gc wa wc s.dn s.sn (lf s) s.gone s.waits → RD A w' D (spendS s) := by
  rintro w' cs hB' rfl hI'
  refine ⟨aD, spendS_ok hok, fun p hp => ?_, la, lc, ls, ga, gc, wa, wc, ?_, ?_⟩
  ·rw [spendS_waits] at hp
   have := hwin p hp
   unfold inS at *
   rw [spendS_dn, spendS_sn]
   exact this
  ·rw [spendS_dn]
   exact hB'
  ·rw [spendS_dn, spendS_sn, spendS_gone, spendS_waits, spend_lf]
   exact hI'
 refine Calls.of_WC Tryz.func52 rfl Tryz.ntmps52 (by simp) ?_
 refine WC.sr (WL.assign rfl rfl (WL.t (WC.seq (WC.sr (WL.move rfl rfl (WL.nilCheck rfl rfl (WL.fieldAddr (fld_87_3) rfl rfl (WL.qd Tryz.isAgg4 hB rfl rfl rfl ?_))))))))
 rcases ho : s.off with _ | _
 ·refine WL.move rfl rfl (WL.qa rfl rfl rfl (WL.move rfl rfl (WL.qa rfl rfl rfl (WL.nilCheck rfl rfl (WL.qa rfl rfl rfl (WL.fieldAddr (fld_87_4) rfl rfl (WL.qa rfl rfl rfl (WL.qd Tryz.isAgg3 hB rfl rfl rfl (WL.qa rfl rfl rfl (WL.qj rfl rfl rfl (fun h12 => ?_) (fun h12 => ?_)))))))))))
  ·refine WL.qb rfl rfl rfl (WL.t (WC.qb rfl (WC.sr (WL.move rfl rfl (WL.nilCheck rfl rfl (WL.fieldAddr (fld_87_3) rfl rfl (WL.store Tryz.sizeOf4 hB rfl rfl rfl rfl ?_)))))))
   intro w_1 hs_1 hn_1 k_1
   replace hB := hn_1
   refine WL.t (WC.sr (WL.assign rfl rfl (WL.t (WC.ret (WX.qb (WX.qg (.inl rfl) Tryz.results52 rfl ?_))))))
   rcases hoff : offS s with _ | _
   ·first
     |(exfalso; rw [hof, ho] at hoff; simp at hoff; done)
     |(exfalso; rw [hof, ho, h12] at hoff; simp at hoff; done)
     |exact ⟨_, rfl, rfl, fin _ _ hB (by rw [dcells_on hok hoff, if_neg (by omega)]) hI, Chg.refl _ _, rfl⟩
     |exact ⟨_, rfl, rfl, fin _ _ hB (by rw [dcells_on hok hoff, if_pos (by omega)]; rfl) (hI.own hB0 k_1), k_1.mono (fun x _ hx => by rw [show x = D from hx]; exact aD), hs_1⟩
   ·first
     |(exfalso; rw [hof, ho] at hoff; simp [h12] at hoff; done)
     |exact ⟨_, rfl, rfl, fin _ _ hB (by rw [dcells_off hoff]; rfl) (hI.own hB0 k_1), k_1.mono (fun x _ hx => by rw [show x = D from hx]; exact aD), hs_1⟩
  ·refine WL.qb rfl rfl rfl (WL.t (WC.qa rfl (WC.skip (WX.qa (WC.seq (WC.seq (WC.region (WL.move rfl rfl (WL.nilCheck rfl rfl (WL.fieldAddr (fld_87_4) rfl rfl (WL.qd Tryz.isAgg3 hB rfl rfl rfl (WL.qr rfl rfl rfl (fun h21 => ?_) (fun h21 => ?_)))))))))))))
   ·refine WL.t (WC.qb rfl (WC.region (WL.move rfl rfl (WL.nilCheck rfl rfl (WL.fieldAddr (fld_87_4) rfl rfl (WL.qd Tryz.isAgg3 hB rfl rfl rfl (WL.qn rfl rfl (by omega) rfl (WL.nilCheck rfl rfl (WL.fieldAddr (fld_87_4) rfl rfl (?_))))))))))
    refine WL.store Tryz.sizeOf3 hB rfl rfl rfl rfl ?_
    intro w_1 hs_1 hn_1 k_1
    replace hB := hn_1
    refine WL.t (WC.sr (WL.assign rfl rfl (WL.t (WC.ret (WX.qg (.inl rfl) Tryz.results52 rfl ?_)))))
    rcases hoff : offS s with _ | _
    ·first
      |(exfalso; rw [hof, ho] at hoff; simp at hoff; done)
      |(exfalso; rw [hof, ho, h12] at hoff; simp at hoff; done)
      |exact ⟨_, rfl, rfl, fin _ _ hB (by rw [dcells_on hok hoff, if_neg (by omega)]) hI, Chg.refl _ _, rfl⟩
      |exact ⟨_, rfl, rfl, fin _ _ hB (by rw [dcells_on hok hoff, if_pos (by omega)]; rfl) (hI.own hB0 k_1), k_1.mono (fun x _ hx => by rw [show x = D from hx]; exact aD), hs_1⟩
    ·first
      |(exfalso; rw [hof, ho] at hoff; simp [h12] at hoff; done)
      |exact ⟨_, rfl, rfl, fin _ _ hB (by rw [dcells_off hoff]; rfl) (hI.own hB0 k_1), k_1.mono (fun x _ hx => by rw [show x = D from hx]; exact aD), hs_1⟩
   ·refine WL.t (WC.qa rfl (WC.skip (WX.qa (WC.sr (WL.assign rfl rfl (WL.t (WC.ret (WX.qg (.inl rfl) Tryz.results52 rfl ?_))))))))
    rcases hoff : offS s with _ | _
    ·first
      |(exfalso; rw [hof, ho] at hoff; simp at hoff; done)
      |(exfalso; rw [hof, ho, h12] at hoff; simp at hoff; done)
      |exact ⟨_, rfl, rfl, fin _ _ hB (by rw [dcells_on hok hoff, if_neg (by omega)]) hI, Chg.refl _ _, rfl⟩
      |exact ⟨_, rfl, rfl, fin _ _ hB (by rw [dcells_on hok hoff, if_pos (by omega)]; rfl) (hI.own hB0 k_1), k_1.mono (fun x _ hx => by rw [show x = D from hx]; exact aD), hs_1⟩
    ·first
      |(exfalso; rw [hof, ho] at hoff; simp [h12] at hoff; done)
      |exact ⟨_, rfl, rfl, fin _ _ hB (by rw [dcells_off hoff]; rfl) (hI.own hB0 k_1), k_1.mono (fun x _ hx => by rw [show x = D from hx]; exact aD), hs_1⟩
 ·refine WL.move rfl rfl (WL.pass rfl rfl rfl rfl (WL.pass rfl rfl rfl rfl (WL.pass rfl rfl rfl rfl (WL.pass rfl rfl rfl rfl (WL.pass rfl rfl rfl rfl (WL.qc rfl rfl rfl (WL.nil (WX.qa (WC.qb rfl (WC.sr (WL.move rfl rfl (WL.nilCheck rfl rfl (WL.fieldAddr (fld_87_3) rfl rfl (WL.store Tryz.sizeOf4 hB rfl rfl rfl rfl ?_))))))))))))))
  intro w_1 hs_1 hn_1 k_1
  replace hB := hn_1
  refine WL.t (WC.sr (WL.assign rfl rfl (WL.t (WC.ret (WX.qb (WX.qg (.inl rfl) Tryz.results52 rfl ?_))))))
  rcases hoff : offS s with _ | _
  ·first
    |(exfalso; rw [hof, ho] at hoff; simp at hoff; done)
    |(exfalso; rw [hof, ho, h12] at hoff; simp at hoff; done)
    |exact ⟨_, rfl, rfl, fin _ _ hB (by rw [dcells_on hok hoff, if_neg (by omega)]) hI, Chg.refl _ _, rfl⟩
    |exact ⟨_, rfl, rfl, fin _ _ hB (by rw [dcells_on hok hoff, if_pos (by omega)]; rfl) (hI.own hB0 k_1), k_1.mono (fun x _ hx => by rw [show x = D from hx]; exact aD), hs_1⟩
  ·first
    |(exfalso; rw [hof, ho] at hoff; simp [h12] at hoff; done)
    |exact ⟨_, rfl, rfl, fin _ _ hB (by rw [dcells_off hoff]; rfl) (hI.own hB0 k_1), k_1.mono (fun x _ hx => by rw [show x = D from hx]; exact aD), hs_1⟩
set_option maxHeartbeats 1000000 in
theorem dWrite_calls {A : Nat → Prop} {w : World} {D : Nat} {s : RA} (h : RD A w D s) (hn : s.waits.length ≤ 1000000) (d a : Int) (b : List UInt8) :
 Calls Tryz.prog 23 [ptr D, vi d, vi a, .string (bs b)].toArray w (Ret fun v w' => v = vi (writeE s d a b.length) ∧ RD (fun x => A x ∨ w.heap.size ≤ x) w' D (writeS s d a b) ∧ Chg A w w') := by
 have hok := h.ok
 have aD := h.aD
 have hwok := writeS_ok h.ok d a b
 have hw := Chg.refl A w
 have hsz := bs_size b
 refine Calls.of_WC Tryz.func23 rfl Tryz.ntmps23 (by simp) ?_
 refine WC.sr (WL.assign rfl rfl (WL.t (WC.seq (WC.sr (WL.move rfl rfl (WL.move rfl rfl (WL.move rfl rfl (WL.call eg_62 rfl rfl (dIn_calls h d a) ?_))))))))
 rintro v w1 ⟨rfl, k1⟩
 have zs_k1 := k1.size
 replace h := h.pure k1
 replace hw := hw.pure k1
 obtain ⟨la, lc, ls, ga, gc, wa, wc, hB, hI⟩ := h.ex
 by_cases h12 : inS s d a
 ·rw [decide_eq_true h12]
  refine WL.not rfl rfl (WL.move rfl rfl (WL.qa rfl rfl rfl (WL.move rfl rfl (WL.qa rfl rfl rfl (WL.qv Tryz.underlying9 rfl rfl (WL.qa rfl rfl rfl (?_)))))))
  rw [hsz]
  by_cases h17 : b.length = 128
  ·refine WL.qz rfl rfl rfl (by omega) ?_
   refine WL.qb rfl rfl rfl (WL.t (WC.qa rfl (WC.skip (WX.qa (WC.seq (WC.seq (WC.region (WL.move rfl rfl (WL.nilCheck rfl rfl (WL.fieldAddr (fld_87_1) rfl rfl (WL.qd Tryz.isAgg84 hB rfl rfl rfl ?_)))))))))))
   refine WL.move rfl rfl (?_)
   have hgd := goneS_at hok (d := d) ⟨h12.1, h12.2.1⟩
   refine WL.qg (e := ebool) Tryz.underlying84 Tryz.sizeOf4 hI.gone.rsl rfl rfl ⟨hgd, by have := h12.1; omega⟩ rfl ?_
   intro bb oo hcc
   refine WL.load Tryz.isAgg4 rfl (hcc 0 _ rfl) rfl ?_
   rcases hg : goneS s d with _ | _
   ·refine WL.t (WC.qa rfl (WC.skip (WX.qa (WC.seq (WC.sr (WL.move rfl rfl (?_)))))))
    clear hB hI hcc
    refine WL.call eg_52 rfl rfl (dSpend_calls h) ?_
    rintro v w2 ⟨rfl, h2, k2, z2⟩
    replace hw := hw.chg k2 (by intro x h1 h2; exact h2)
    rcases ho : offS s with _ | _
    ·have hE : writeE s d a b.length = 0 := by simp [writeE, h12, h17, hg, ho]
     have hS : writeS s d a b = { spendS s with waits := s.waits ++ [((d, a), b)] } := by rw [writeS, if_pos hE]
     have hdn : (writeS s d a b).dn = s.dn := by rw [hS]; exact spendS_dn s
     have hsn : (writeS s d a b).sn = s.sn := by rw [hS]; exact spendS_sn s
     have hww : (writeS s d a b).waits = s.waits ++ [((d, a), b)] := by rw [hS]
     have hwin : ∀ p ∈ (writeS s d a b).waits, inS (writeS s d a b) p.1.1 p.1.2 := fun p hp => by
      rw [hww] at hp
      show 0 ≤ _ ∧ _ < ((writeS s d a b).dn : Int) ∧ 0 ≤ _ ∧ _ < ((writeS s d a b).sn : Int)
      rw [hdn, hsn]
      rcases List.mem_append.1 hp with h3 | h3
      ·exact h.win p h3
      ·rw [List.mem_singleton.1 h3]
       exact h12
     obtain ⟨la, lc, ls, ga, gc, wa, wc, hB, hI⟩ := h2.ex
     refine WL.not rfl rfl (WL.t (WC.qa rfl (WC.skip (WX.qa (WC.sr (WL.move rfl rfl (WL.move rfl rfl (WL.nilCheck rfl rfl (WL.fieldAddr (fld_87_2) rfl rfl (WL.qd Tryz.isAgg85 hB rfl rfl rfl (WL.move rfl rfl (WL.move rfl rfl (WL.move rfl rfl (WL.bld rfl (bld_104_0_1_2 _ _ _) rfl (?_)))))))))))))))
     refine WL.build (e := ewt) [((d, a), b)] Tryz.underlying85 Tryz.sizeOf104 Tryz.zeroValue104 rfl rfl rfl (by simp [Value.cells] <;> rfl) (by decide) rfl ?_
     intro a_b38 w_b38 b38 l_b38 z_b38 k_b38
     replace hw := hw.pure k_b38
     replace hB := hB.pure k_b38
     replace hI := hI.pure k_b38
     refine WL.append (e := ewt) (S := fun x => A x ∨ w.heap.size ≤ x) info_104 rfl Tryz.underlying85 rfl rfl (hI.waits.mono (fun x hx => .inl hx)) (b38.rsl.src Tryz.underlying85) (by rw [spendS_waits]; constructor <;> (simp only [List.length_cons, List.length_nil]; omega)) (fun x hx => .inr (by omega)) rfl ?_
     intro a9 c9 w9 hW9 g9 n9
     have k9 := g9.chg
     have hI9 := (hI.mono (S' := fun x => A x ∨ w.heap.size ≤ x) (fun x hx => .inl hx)).setWaits hW9 k9 (fun b h => h.1)
     replace hB := hB.chg k9 (fun hm => hI.neW hB hm.1)
     have hB0 := hB
     have hw9 := hw.chg k9 (fun x h0 hm => hm.2.resolve_right (by omega))
     refine WL.nilCheck rfl rfl (WL.fieldAddr (fld_87_2) rfl rfl (WL.store Tryz.sizeOf85 hB rfl rfl rfl rfl ?_))
     intro w_1 hs_1 hn_1 k_1
     have zs_k_1 := k_1.size
     replace hB := hn_1
     refine WL.t (WC.sr (WL.assign rfl rfl (WL.t (WC.ret (WX.qg (.inl rfl) Tryz.results23 rfl ?_)))))
     first
      |(refine ⟨_, rfl, by rw [hE], ⟨.inl aD, hwok, hwin, la, lc, ls, ga, gc, a9, c9, ?_, ?_⟩, hw9.chg k_1 (fun x _ hx => by rw [show x = D from hx]; exact aD)⟩
        ·rw [hS]
         rw [spendS_waits] at hB
         exact hB
        ·rw [hS]
         rw [spendS_waits] at hI9
         exact hI9.own hB0 k_1)
      |(refine ⟨_, rfl, by rw [hE], ?_, hw⟩
        rw [hS]
        exact h2.mono (fun x hx => .inl hx))
      |(refine ⟨_, rfl, by rw [hE], ?_, hw⟩
        rw [show writeS s d a b = s from by rw [writeS, if_neg (by rw [hE]; decide), if_neg (by rw [hE]; decide)]]
        exact h.mono (fun x hx => .inl hx))
    ·have hE : writeE s d a b.length = 16 := by simp [writeE, h12, h17, hg, ho]
     have hS : writeS s d a b = spendS s := by rw [writeS, if_neg (by rw [hE]; decide), if_pos hE]
     refine WL.not rfl rfl (WL.t (WC.qb rfl (WC.sr (WL.assign rfl rfl (WL.nil (WX.qa (WC.ret (WX.qb (WX.qg (.inl rfl) Tryz.results23 rfl ?_)))))))))
     first
      |(refine ⟨_, rfl, by rw [hE], ⟨.inl aD, hwok, hwin, la, lc, ls, ga, gc, a9, c9, ?_, ?_⟩, hw9.chg k_1 (fun x _ hx => by rw [show x = D from hx]; exact aD)⟩
        ·rw [hS]
         rw [spendS_waits] at hB
         exact hB
        ·rw [hS]
         rw [spendS_waits] at hI9
         exact hI9.own hB0 k_1)
      |(refine ⟨_, rfl, by rw [hE], ?_, hw⟩
        rw [hS]
        exact h2.mono (fun x hx => .inl hx))
      |(refine ⟨_, rfl, by rw [hE], ?_, hw⟩
        rw [show writeS s d a b = s from by rw [writeS, if_neg (by rw [hE]; decide), if_neg (by rw [hE]; decide)]]
        exact h.mono (fun x hx => .inl hx))
   ·have hE : writeE s d a b.length = 3 := by simp [writeE, h12, h17, hg]
    refine WL.t (WC.qb rfl (WC.sr (WL.assign rfl rfl (WL.t (WC.ret (WX.qb (WX.qg (.inl rfl) Tryz.results23 rfl ?_)))))))
    first
     |(refine ⟨_, rfl, by rw [hE], ⟨.inl aD, hwok, hwin, la, lc, ls, ga, gc, a9, c9, ?_, ?_⟩, hw9.chg k_1 (fun x _ hx => by rw [show x = D from hx]; exact aD)⟩
       ·rw [hS]
        rw [spendS_waits] at hB
        exact hB
       ·rw [hS]
        rw [spendS_waits] at hI9
        exact hI9.own hB0 k_1)
     |(refine ⟨_, rfl, by rw [hE], ?_, hw⟩
       rw [hS]
       exact h2.mono (fun x hx => .inl hx))
     |(refine ⟨_, rfl, by rw [hE], ?_, hw⟩
       rw [show writeS s d a b = s from by rw [writeS, if_neg (by rw [hE]; decide), if_neg (by rw [hE]; decide)]]
       exact h.mono (fun x hx => .inl hx))
  ·have hE : writeE s d a b.length = 1 := by simp [writeE, h17]
   refine WL.neqT rfl rfl rfl (by omega) ?_
   refine WL.qb rfl rfl rfl (WL.t (WC.qb rfl (WC.sr (WL.assign rfl rfl (WL.nil (WX.qa (WC.ret (WX.qb (WX.qg (.inl rfl) Tryz.results23 rfl ?_)))))))))
   first
    |(refine ⟨_, rfl, by rw [hE], ⟨.inl aD, hwok, hwin, la, lc, ls, ga, gc, a9, c9, ?_, ?_⟩, hw9.chg k_1 (fun x _ hx => by rw [show x = D from hx]; exact aD)⟩
      ·rw [hS]
       rw [spendS_waits] at hB
       exact hB
      ·rw [hS]
       rw [spendS_waits] at hI9
       exact hI9.own hB0 k_1)
    |(refine ⟨_, rfl, by rw [hE], ?_, hw⟩
      rw [hS]
      exact h2.mono (fun x hx => .inl hx))
    |(refine ⟨_, rfl, by rw [hE], ?_, hw⟩
      rw [show writeS s d a b = s from by rw [writeS, if_neg (by rw [hE]; decide), if_neg (by rw [hE]; decide)]]
      exact h.mono (fun x hx => .inl hx))
 ·have hE : writeE s d a b.length = 1 := by simp [writeE, h12]
  rw [decide_eq_false h12]
  refine WL.not rfl rfl (WL.move rfl rfl (WL.pass rfl rfl rfl rfl (WL.pass rfl rfl rfl rfl (WL.pass rfl rfl rfl rfl (WL.qc rfl rfl rfl (WL.t (WC.qb rfl (WC.sr (WL.assign rfl rfl (WL.t (WC.ret (WX.qb (WX.qg (.inl rfl) Tryz.results23 rfl ?_)))))))))))))
  first
   |(refine ⟨_, rfl, by rw [hE], ⟨.inl aD, hwok, hwin, la, lc, ls, ga, gc, a9, c9, ?_, ?_⟩, hw9.chg k_1 (fun x _ hx => by rw [show x = D from hx]; exact aD)⟩
     ·rw [hS]
      rw [spendS_waits] at hB
      exact hB
     ·rw [hS]
      rw [spendS_waits] at hI9
      exact hI9.own hB0 k_1)
   |(refine ⟨_, rfl, by rw [hE], ?_, hw⟩
     rw [hS]
     exact h2.mono (fun x hx => .inl hx))
   |(refine ⟨_, rfl, by rw [hE], ?_, hw⟩
     rw [show writeS s d a b = s from by rw [writeS, if_neg (by rw [hE]; decide), if_neg (by rw [hE]; decide)]]
     exact h.mono (fun x hx => .inl hx))
end Go.Proofs.YtjeldcjchipdgaaGreatDoor
namespace Go.Proofs.YtjeldcjchipdgaaGreatDoor
open Go.RowKit Go.HL
set_option maxRecDepth 100000
theorem tmod_two (x : Int) : x.tmod 2 ≠ 0 ↔ x % 2 = 1 := by
 constructor
 ·intro h
  rcases Int.emod_two_eq x with h1 | h1
  ·exact absurd (Int.tmod_eq_zero_of_dvd (Int.dvd_of_emod_eq_zero h1)) h
  ·exact h1
 ·intro h h1
  have h2 := Int.emod_eq_zero_of_dvd (Int.dvd_of_tmod_eq_zero h1)
  omega
end Go.Proofs.YtjeldcjchipdgaaGreatDoor
namespace Go.Proofs.YtjeldcjchipdgaaGreatDoor
open Go.RowKit Go.HL
set_option maxRecDepth 100000
def putLast (s : RA) (p : Pl) (b : List UInt8) : RA := { s with last := mput s.last p b }
theorem putLast_ok {s : RA} (h : s.ok) (p : Pl) {b : List UInt8} (hb : b.length = 128) : (putLast s p b).ok :=
 ⟨h.dn, h.sn, h.gl, fun q hq => by
  rcases mput_mem hq with h1 | h1
  ·exact h.ll q h1
  ·rw [h1]; exact hb, h.lw, h.lf, mput_nodup h.nd⟩
theorem putLast_lf {s : RA} (d a : Int) (hd : 0 ≤ d) (ha : 0 ≤ a) (b : List UInt8) (d' a' : Nat) : lf (putLast s (d, a) b) d' a' = if d' = d.toNat ∧ a' = a.toNat then bs b else lf s d' a' := by
 rw [lf, lf, lastS, lastS, show (putLast s (d, a) b).last = mput s.last (d, a) b from rfl, mget_put]
 by_cases h : d' = d.toNat ∧ a' = a.toNat
 ·rw [if_pos h, if_pos (show ((d' : Int), (a' : Int)) = (d, a) from Prod.ext (by show (d' : Int) = d; omega) (by show (a' : Int) = a; omega))]
  rfl
 ·rw [if_neg h, if_neg (fun e => h (by
   injection e with e1 e2
   exact ⟨by omega, by omega⟩))]
set_option maxHeartbeats 1000000 in
theorem dLast_calls {A : Nat → Prop} {w : World} {D : Nat} {s : RA} (h : RD A w D s) {d a : Int} (hi : inS s d a) {b : List UInt8} (hb : b.length = 128) :
 Calls Tryz.prog 53 [ptr D, .agg #[vi d, vi a, .string (bs b)]].toArray w (Ret fun v w' => v = .tuple #[] ∧ RD A w' D (putLast s (d, a) b) ∧ Chg A w w') := by
 have aD := h.aD
 have hok := h.ok
 have hwin := h.win
 replace h := h.old
 obtain ⟨la, lc, ls, ga, gc, wa, wc, hB, hI⟩ := h.ex
 have hlen := hI.ld.len
 have hd0 := hi.1
 have hd1 := hi.2.1
 have ha0 := hi.2.2.1
 have ha1 := hi.2.2.2
 have hw := Chg.refl A w
 refine Calls.of_WC Tryz.func53 rfl Tryz.ntmps53 (by simp) ?_
 refine WC.sr (WL.box rfl rfl ?_)
 intro g_1 w_1 hge_1 hlt_1 hb_1 k_1
 replace hB := hB.pure k_1
 replace hI := hI.pure k_1
 replace hw := hw.pure k_1
 refine WL.t (?_)
 obtain ⟨⟨rao, rc, rxs⟩, hr⟩ : ∃ r, ls[d.toNat]? = some r := ⟨_, List.getElem?_eq_getElem (by omega)⟩
 obtain ⟨g, hg, ⟨hgA, hgw⟩, hrow⟩ := hI.ld.own _ _ hr
 have hg' : rao = some ⟨g, 0, none⟩ := hg
 subst hg'
 have hrl : rxs.length = s.sn := hI.ld.rlen hr
 have hkg : kb _ g = some (some 9) := (hrow.kb.at_ _ rfl).2
 have hDg : D ≠ g := fun e => by
  have h1 := hB.kb
  rw [e, hkg] at h1
  exact absurd h1 (by decide)
 have hxg : g_1 ≠ g := by omega
 obtain ⟨go, hgo⟩ := hI.ld.outer.place0 (j := d.toNat) (by omega)
 subst hgo
 have hkgo : kb _ go = some (some 70) := (hI.ld.outer.kb.at_ _ rfl).2
 have hgog : go ≠ g := fun e => by
  rw [e, hkg] at hkgo
  exact absurd hkgo (by decide)
 have hOo : RSl (fun x => x ≠ g) w_1 esr (some ⟨go, 0, none⟩) lc ls := ⟨fun _ a ea => by injection ea with ea; subst ea; exact hgog, hI.ld.outer.rsl.cap, hI.ld.outer.rsl.sl⟩
 have hk6 := Chg.refl (fun x => x = g) w_1
 replace hrow : Row (fun x => x = g) w_1 9 es (some ⟨g, 0, none⟩) rc rxs := hrow
 refine WC.qc (fun x => x = g) [0, 1, 2, 3, 4, 5, 6, 7, 8, 9, 10, 11, 12] [13] mixed rfl rfl (fun wd_2 kd_2 zd_2 => ?_)
 replace hB := hB.pure kd_2
 replace hb_1 := hb_1.pure kd_2
 replace hOo := hOo.pure kd_2
 replace hrow := hrow.pure kd_2
 replace hk6 := hk6.pure kd_2
 apply DQ.step [(0, _)] rfl ⟨rfl, trivial⟩ rfl (fun _ _ => WL.move rfl rfl  WL.q)
 apply DQ.step [(4, _)] rfl ⟨rfl, trivial⟩ rfl (fun _ _ => WL.nilCheck rfl rfl  WL.q)
 apply DQ.step [(5, _)] rfl ⟨rfl, trivial⟩ rfl (fun _ _ => WL.fieldAddr (fld_87_0) rfl rfl  WL.q)
 apply DQ.step [(6, _)] rfl ⟨rfl, trivial⟩ rfl
 ·intro wq_7 kq_7
  replace hB := hB.chg kq_7 (by intro h1; have h2 : _ = _ := h1; exfalso; omega)
  refine WL.qd Tryz.isAgg83 hB rfl rfl rfl (WL.q)
 apply DQ.step [(3, _)] rfl ⟨rfl, trivial⟩ rfl (fun _ _ => WL.fieldAddr (fld_104_0) rfl rfl  WL.q)
 apply DQ.step [(8, _)] rfl ⟨rfl, trivial⟩ rfl
 ·intro wq_9 kq_9
  replace hb_1 := hb_1.chg kq_9 (by intro h1; have h2 : _ = _ := h1; exfalso; omega)
  refine WL.qd Tryz.isAgg3 hb_1 rfl rfl rfl (WL.q)
 apply DQ.step [(7, _), (9, _)] rfl ⟨rfl, rfl, trivial⟩ rfl
 ·intro wq_10 kq_10
  replace hOo := hOo.chg kq_10 (by intro x h1 h2; exact h2)
  refine WL.qh (e := esr) hOo Tryz.underlying83 Tryz.sizeOf70 (by show some (Value.slice _ s.dn _) = some (Value.slice _ ls.length _); rw [hlen]) rfl ⟨hr, by omega⟩ rfl ?_
  exact WL.q
 apply DQ.step [(10, _)] rfl ⟨rfl, trivial⟩ rfl
 ·intro wq_11 kq_11
  replace hOo := hOo.chg kq_11 (by intro x h1 h2; exact h2)
  refine WL.load Tryz.isAgg70 rfl ((hOo.cellsAt hr) 0 _ rfl) rfl (WL.q)
 apply DQ.step [(3, _)] rfl ⟨rfl, trivial⟩ rfl (fun _ _ => WL.fieldAddr (fld_104_1) rfl rfl  WL.q)
 apply DQ.step [(12, _)] rfl ⟨rfl, trivial⟩ rfl
 ·intro wq_13 kq_13
  replace hb_1 := hb_1.chg kq_13 (by intro h1; have h2 : _ = _ := h1; exfalso; omega)
  refine WL.qd Tryz.isAgg3 hb_1 rfl rfl rfl (WL.q)
 apply DQ.step [(3, _)] rfl ⟨rfl, trivial⟩ rfl (fun _ _ => WL.fieldAddr (fld_104_2) rfl rfl  WL.q)
 apply DQ.step [(14, _)] rfl ⟨rfl, trivial⟩ rfl
 ·intro wq_15 kq_15
  replace hb_1 := hb_1.chg kq_15 (by intro h1; have h2 : _ = _ := h1; exfalso; omega)
  refine WL.qd Tryz.isAgg9 hb_1 rfl rfl rfl (WL.q)
 apply DQ.step [(11, _), (13, _)] rfl ⟨rfl, rfl, trivial⟩ rfl
 ·intro wq_16 kq_16
  refine WL.index (sz := 1) (j := a.toNat) Tryz.underlying70 Tryz.sizeOf9 rfl rfl (by omega) (by show a.toNat < rxs.length; omega) rfl ?_
  exact WL.q
 refine DQ.done (fun hd_3 => ?_)
 refine DL.step [(16, _), (15, _)] rfl ⟨rfl, rfl, trivial⟩ rfl (fun wq_17 kq_17 => ?_)
 replace hB := hB.pure kq_17
 replace hrow := hrow.pure kq_17
 replace hk6 := hk6.pure kq_17
 replace hd_3 := hd_3.pure kq_17
 refine WL.qt (z := bs b) (a.toNat) Tryz.sizeOf9 hrow rfl rfl rfl (by simp; done) (by omega) rfl ?_
 intro w_18 zs_18 nr_18 k_18
 replace hB := hB.chg k_18 (by intro h1; have h2 : _ = _ := h1; exfalso; omega)
 replace hk6 := hk6.chg k_18 (by intro x h1 h2; exact h2)
 replace hd_3 := hd_3.chg k_18 (by intro x h1 h2; exact h2)
 replace hrow := nr_18
 refine WL.nil (WX.qk (v := undef) ⟨hd_3, ?_⟩)
 refine DL.done (fun we_19 ke_19 => ?_)
 replace hB := hB.pure ke_19
 replace hrow := hrow.pure ke_19
 replace hk6 := hk6.pure ke_19
 refine WX.ret0 (.inr rfl) Tryz.results53 ?_
 have hL := hI.ld.set (f' := lf (putLast s (d, a) b)) hr hk6 hkg hrow (fun d' a' _ _ => putLast_lf d a hd0 ha0 b d' a')
 have hI2 := (hI.setLd hL hk6 (fun b' _ e => .inl (by rw [show b' = g from e]; exact hkg))).mono (S' := A) (fun x hx => hx.1)
 exact ⟨_, rfl, rfl, ⟨aD, putLast_ok hok _ hb, hwin, some ⟨go, 0, none⟩, lc, ls.set d.toNat ⟨some ⟨g, 0, none⟩, rc, rxs.set a.toNat (bs b)⟩, ga, gc, wa, wc, hB, hI2⟩, hw.chg hk6 (fun x _ hx => by rw [show x = g from hx]; exact hgA)⟩
def pS (s : RA) (kp : Nat → Bool) (i : Nat) : RA := { s with last := puts kp s.waits s.last i }
theorem pS_yes {s : RA} {kp : Nat → Bool} {i : Nat} {x : Pl × List UInt8} (hx : s.waits[i]? = some x) (hk : kp i = true) : pS s kp (i + 1) = putLast (pS s kp i) x.1 x.2 := by
 unfold pS putLast
 rw [puts_yes hx hk]
theorem pS_not {s : RA} {kp : Nat → Bool} {i : Nat} {x : Pl × List UInt8} (hx : s.waits[i]? = some x) (hk : kp i = false) : pS s kp (i + 1) = pS s kp i := by
 unfold pS
 rw [puts_not hx hk]
theorem puts_stop {V : Type} {kp : Nat → Bool} {ws l : List (Pl × V)} {i : Nat} (h : ∀ j, i ≤ j → j < ws.length → kp j = false) : ∀ n, i ≤ n → puts kp ws l n = puts kp ws l i
 |0, hn => by rw [show i = 0 from by omega]
 |n + 1, hn => by
  rcases Nat.lt_or_ge n i with h1 | h1
  ·rw [show n + 1 = i from by omega]
  ·rw [puts]
   have ih := puts_stop (ws := ws) (l := l) h n h1
   split
   ·rename_i x hx
    rw [h n h1 (List.getElem?_eq_some_iff.1 hx).1, if_neg (by decide)]
    exact ih
   ·exact ih
theorem RD.emptied {A : Nat → Prop} {w w' : World} {D : Nat} {t t' : RA} (h : RD A w D t) (e1 : t'.dn = t.dn) (e2 : t'.sn = t.sn) (e3 : t'.last = t.last) (e4 : t'.gone = t.gone) (e5 : t'.waits = []) (hok : t'.ok) {la ga wa : Option Addr} {lc gc wc : Nat} {ls : List Sr} (hB : Blk w D 87 (dcells t la t.dn lc ga gc wa wc)) (hI : DI A w la lc ls ga gc wa wc t.dn t.sn (lf t) t.gone t.waits)
 (k : Chg (· = D) w w') (hB' : Blk w' D 87 (dcells t' la t'.dn lc ga gc none 0)) : RD A w' D t' := by
 refine ⟨h.aD, hok, (fun p hp => by rw [e5] at hp; cases hp), la, lc, ls, ga, gc, none, 0, hB', ?_⟩
 have h1 := hI.own hB k
 have el : lf t' = lf t := by
  funext d a
  rw [lf, lf, lastS, lastS, e3]
 rw [e1, e2, e4, e5, el]
 exact ⟨h1.ld, h1.gone, Row.nil _ _ _ _⟩
set_option maxHeartbeats 2000000 in
theorem dFlush_calls {A : Nat → Prop} {w : World} {D : Nat} {s : RA} (h : RD A w D s) (hn : s.waits.length ≤ 1000000) :
 Calls Tryz.prog 12 [ptr D].toArray w (Ret fun v w' => v = vi (if offS s = true then 16 else 0) ∧ RD A w' D (flushS s) ∧ Chg A w w') := by
 have aD := h.aD
 have hok := h.ok
 have hwin := h.win
 have hfok := flushS_ok hok
 have hw := Chg.refl A w
 refine Calls.of_WC Tryz.func12 rfl Tryz.ntmps12 (by simp) ?_
 refine WC.sr (WL.assign rfl rfl (WL.t (WC.seq (WC.sr (WL.move rfl rfl (WL.call eg_52 rfl rfl (dSpend_calls h) ?_))))))
 rintro v w2 ⟨rfl, h2, k2, z2⟩
 replace hw := hw.chg k2 (by intro x h1 h2; exact h2)
 rcases ho : offS s with _ | _
 ·refine WL.not rfl rfl (WL.t (WC.qa rfl (WC.skip (WX.qa (WC.seq (WC.seq (WC.region (WL.assign rfl rfl (WL.t (WC.block (?_)))))))))))
  have h20 : RD A w2 D (pS (spendS s) (fun _ => true) 0) := h2
  refine WC.loop (σ := Nat) (fun i => [(0, ptr D), (3, vi i)])
   (fun i w' => i ≤ s.waits.length ∧ RD A w' D (pS (spendS s) (fun _ => true) i) ∧ Chg A w w') (fun i => s.waits.length - i) 0 ⟨rfl, rfl, trivial⟩ ⟨Nat.zero_le _, h20, hw⟩ ?_
  clear h2 h20 hw
  rintro i w3 ⟨hi, h2, hw⟩
  have hwe : (pS (spendS s) (fun _ => true) i).waits = s.waits := spendS_waits s
  obtain ⟨la, lc, ls, ga, gc, wa, wc, hB, hI⟩ := h2.ex
  have hB0 := hB
  have hI0 := hI
  refine WC.seq (WC.sr (WL.move rfl rfl (WL.move rfl rfl (WL.nilCheck rfl rfl (WL.fieldAddr (fld_87_2) rfl rfl (WL.qd Tryz.isAgg85 hB rfl rfl rfl (WL.len Tryz.underlying85 rfl rfl ?_)))))))
  rw [hwe]
  refine WL.qi rfl rfl rfl (fun h13 => ?_) (fun h13 => ?_)
  ·refine WL.t (WC.qb rfl (WC.skip (WX.qa (WC.seq (WC.block (WC.region (WL.move rfl rfl (WL.move rfl rfl (WL.nilCheck rfl rfl (WL.fieldAddr (fld_87_2) rfl rfl (WL.qd Tryz.isAgg85 hB rfl rfl rfl (WL.move rfl rfl (?_)))))))))))))
   obtain ⟨⟨⟨x1, x2⟩, xb⟩, hx⟩ : ∃ x, s.waits[i]? = some x := ⟨_, List.getElem?_eq_getElem (by omega)⟩
   have hx2 : (pS (spendS s) (fun _ => true) i).waits[i]? = some ((x1, x2), xb) := by rw [hwe]; exact hx
   refine WL.qg Tryz.underlying85 Tryz.sizeOf104 hI.waits.rsl rfl rfl ⟨hx2, rfl⟩ rfl ?_
   intro b_1 o_1 hc_1
   refine WL.qo _ Tryz.isAgg104 Tryz.sizeOf104 rfl hc_1 rfl rfl (?_)
   have hxi := hwin _ (List.mem_of_getElem? hx)
   have hxl := hok.lw _ (List.mem_of_getElem? hx)
   have hin : inS (pS (spendS s) (fun _ => true) i) x1 x2 := by
    show 0 ≤ _ ∧ _ < ((spendS s).dn : Int) ∧ 0 ≤ _ ∧ _ < ((spendS s).sn : Int)
    rw [spendS_dn, spendS_sn]
    exact hxi
   refine WL.call eg_53 rfl rfl (dLast_calls h2 hin hxl) ?_
   rintro v w4 ⟨rfl, h4, k4⟩
   replace hw := hw.trans k4 (fun _ _ h => h)
   rw [← pS_yes (x := ((x1, x2), xb)) (by show (spendS s).waits[i]? = _; rw [spendS_waits]; exact hx) rfl] at h4
   refine WL.nil (WX.qd (WX.qa (WC.region (WL.move rfl rfl (WL.qe rfl rfl (by omega) rfl (WL.assign rfl rfl (WL.nil (?_))))))))
   exact WX.qc (i + 1) ⟨rfl, rfl, trivial⟩ ⟨by omega, h4, hw⟩ (by show s.waits.length - (i + 1) < s.waits.length - i; omega)
  ·refine WL.t (WC.qa rfl (WC.exit (WX.qe (WX.qe (WX.qh (WX.qa (WC.sr (?_))))))))
   have hil : i = s.waits.length := by omega
   have hkD := Chg.refl (fun x => x = D) w3
   refine WL.move rfl rfl (WL.nilCheck rfl rfl (WL.fieldAddr (fld_87_2) rfl rfl (WL.store Tryz.sizeOf85 hB rfl rfl rfl rfl ?_)))
   intro w_1 hs_1 hn_1 k_1
   have zs_k_1 := k_1.size
   replace hkD := hkD.chg k_1 (by intro x h1 h2; exact h2)
   replace hB := hn_1
   refine WL.t (WC.sr (WL.assign rfl rfl (WL.t (WC.ret (WX.qg (.inl rfl) Tryz.results12 rfl ?_)))))
   first
    |exact ⟨_, rfl, rfl, by rw [flushS, if_pos ho]; exact h2, hw⟩
    |(have hfl : flushS s = { pS (spendS s) (fun _ => true) i with waits := [] } := by
       rw [flushS, if_neg (by rw [ho]; decide), hil]
       unfold pS
       rw [spendS_waits, spendS_last]
      refine ⟨_, rfl, rfl, ?_, hw.chg hkD (fun x _ hx => by rw [show x = D from hx]; exact aD)⟩
      rw [hfl] at hfok ⊢
      exact h2.emptied rfl rfl rfl rfl rfl hfok hB0 hI0 hkD hB)
 ·refine WL.not rfl rfl (WL.t (WC.qb rfl (WC.sr (WL.assign rfl rfl (WL.nil (WX.qa (WC.ret (WX.qb (WX.qg (.inl rfl) Tryz.results12 rfl ?_)))))))))
  first
   |exact ⟨_, rfl, rfl, by rw [flushS, if_pos ho]; exact h2, hw⟩
   |(have hfl : flushS s = { pS (spendS s) (fun _ => true) i with waits := [] } := by
      rw [flushS, if_neg (by rw [ho]; decide), hil]
      unfold pS
      rw [spendS_waits, spendS_last]
     refine ⟨_, rfl, rfl, ?_, hw.chg hkD (fun x _ hx => by rw [show x = D from hx]; exact aD)⟩
     rw [hfl] at hfok ⊢
     exact h2.emptied rfl rfl rfl rfl rfl hfok hB0 hI0 hkD hB)
theorem dArm_calls {A : Nat → Prop} {w : World} {D : Nat} {s : RA} (h : RD A w D s) (n : Int) (hn : -9223372036854775808 ≤ n ∧ n ≤ 9223372036854775807) :
 Calls Tryz.prog 25 [ptr D, vi n].toArray w (Ret fun v w' => v = .tuple #[] ∧ RD A w' D (armS s n) ∧ Chg A w w') := by
 have aD := h.aD
 have hok := armS_ok h.ok hn
 have hwin := h.win
 obtain ⟨la, lc, ls, ga, gc, wa, wc, hB, hI⟩ := h.ex
 have hB0 := hB
 have hkD := Chg.refl (fun x => x = D) w
 refine Calls.of_WC Tryz.func25 rfl Tryz.ntmps25 (by simp) ?_
 refine WC.region (WL.move rfl rfl (WL.move rfl rfl (WL.maxi rfl rfl rfl ?_)))
 refine WL.nilCheck rfl rfl (WL.fieldAddr (fld_87_4) rfl rfl (WL.store Tryz.sizeOf3 hB rfl rfl rfl rfl ?_))
 intro w_1 hs_1 hn_1 k_1
 replace hkD := hkD.chg k_1 (by intro x h1 h2; exact h2)
 replace hB := hn_1
 refine WL.nil (WX.ret0 (.inr rfl) Tryz.results25 ?_)
 refine ⟨_, rfl, rfl, ⟨aD, hok, hwin, la, lc, ls, ga, gc, wa, wc, ?_, hI.own hB0 hkD⟩, hkD.mono (fun x _ hx => by rw [show x = D from hx]; exact aD)⟩
 have e : armD (armS s n) = if -1 > n then -1 else n := by
  unfold armD armS
  by_cases h1 : 0 ≤ n
  ·rw [if_pos (by simpa using h1), if_neg (by omega)]
  ·rw [if_neg (by simpa using h1)]
   split <;> omega
 show Blk _ D 87 [.slice la s.dn lc, .slice ga s.gone.length gc, .slice wa s.waits.length wc, .bool s.off, vi (armD (armS s n))]
 rw [e]
 exact hB
set_option maxHeartbeats 2000000 in
theorem dCrash_calls {A S : Nat → Prop} {w : World} {D : Nat} {s : RA} (h : RD A w D s) (hn : s.waits.length ≤ 1000000) {ao : Option Addr} {c : Nat} {ps : List Int} (hp : RSl S w ei ao c ps) (hS : ∀ x, S x → A x → False) :
 Calls Tryz.prog 14 [ptr D, .slice ao ps.length c].toArray w (Ret fun v w' => v = .tuple #[] ∧ RD A w' D (crashS s ps) ∧ Chg A w w') := by
 have aD := h.aD
 have hok := h.ok
 have hwin := h.win
 have hcok := crashS_ok hok ps
 have hw := Chg.refl A w
 refine Calls.of_WC Tryz.func14 rfl Tryz.ntmps14 (by simp) ?_
 refine WC.seq (WC.sr (WL.assign rfl rfl (WL.t (WC.block (?_)))))
 have h20 : RD A w D (pS s (keep ps) 0) := h
 refine WC.loop (σ := Nat) (fun i => [(0, ptr D), (1, .slice ao ps.length c), (4, vi i)])
  (fun i w' => i ≤ s.waits.length ∧ RD A w' D (pS s (keep ps) i) ∧ RSl S w' ei ao c ps ∧ Chg A w w') (fun i => s.waits.length - i) 0 ⟨rfl, rfl, rfl, trivial⟩ ⟨Nat.zero_le _, h20, hp, hw⟩ ?_
 clear h h20 hp hw
 rintro i w3 ⟨hi, h2, hp, hw⟩
 obtain ⟨la, lc, ls, ga, gc, wa, wc, hB, hI⟩ := h2.ex
 have hB0 := hB
 have hI0 := hI
 have hkD := Chg.refl (fun x => x = D) w3
 refine WC.seq (WC.sr (WL.move rfl rfl (WL.move rfl rfl (WL.nilCheck rfl rfl (WL.fieldAddr (fld_87_2) rfl rfl (WL.qd Tryz.isAgg85 hB rfl rfl rfl (WL.len Tryz.underlying85 rfl rfl ?_)))))))
 rw [show (pS s (keep ps) i).waits = s.waits from rfl]
 refine WL.qi rfl rfl rfl (fun h11 => ?_) (fun h11 => ?_)
 ·refine WL.move rfl rfl (WL.qa rfl rfl rfl (WL.move rfl rfl (WL.qa rfl rfl rfl (WL.move rfl rfl (WL.qa rfl rfl rfl (WL.len Tryz.underlying32 rfl rfl (WL.qa rfl rfl rfl (WL.qi rfl rfl rfl (fun h16 => ?_) (fun h16 => ?_)))))))))
  ·refine WL.qc rfl rfl rfl (WL.t (WC.qb rfl (WC.skip (WX.qa (WC.seq (WC.block (WC.sr (WL.move rfl rfl (WL.move rfl rfl (?_))))))))))
   obtain ⟨⟨⟨x1, x2⟩, xb⟩, hx⟩ : ∃ x, s.waits[i]? = some x := ⟨_, List.getElem?_eq_getElem (by omega)⟩
   obtain ⟨q, hq⟩ : ∃ q, ps[i]? = some q := ⟨_, List.getElem?_eq_getElem (by omega)⟩
   refine WL.qg Tryz.underlying32 Tryz.sizeOf3 hp rfl rfl ⟨hq, rfl⟩ rfl ?_
   intro b_1 o_1 hc_1
   refine WL.load Tryz.isAgg3 rfl (hc_1 0 _ rfl) rfl (WL.remk rfl rfl (by decide) rfl ?_)
   by_cases hq2 : q % 2 = 1
   ·have hkp : keep ps i = true := by rw [keep, hq]; exact decide_eq_true hq2
    refine WL.neqT rfl rfl rfl ((tmod_two q).2 hq2) (WL.t (WC.qb rfl (WC.region (WL.move rfl rfl (WL.move rfl rfl (WL.nilCheck rfl rfl (WL.fieldAddr (fld_87_2) rfl rfl (WL.qd Tryz.isAgg85 hB rfl rfl rfl (WL.move rfl rfl (WL.qg Tryz.underlying85 Tryz.sizeOf104 hI.waits.rsl rfl rfl ⟨hx, rfl⟩ rfl ?_))))))))))
    intro b_2 o_2 hc_2
    refine WL.qo _ Tryz.isAgg104 Tryz.sizeOf104 rfl hc_2 rfl rfl (?_)
    have hxi := hwin _ (List.mem_of_getElem? hx)
    have hxl := hok.lw _ (List.mem_of_getElem? hx)
    have hin : inS (pS s (keep ps) i) x1 x2 := hxi
    refine WL.call eg_53 rfl rfl (dLast_calls h2 hin hxl) ?_
    rintro v w4 ⟨rfl, h4, k4⟩
    replace hw := hw.trans k4 (fun _ _ h => h)
    replace hp := hp.chg k4 (fun x _ h1 h3 => hS x h1 h3)
    rw [← pS_yes (x := ((x1, x2), xb)) hx hkp] at h4
    refine WL.nil (WX.qd (WX.qa (WC.region (WL.move rfl rfl (WL.qe rfl rfl (by omega) rfl (WL.assign rfl rfl (WL.nil (?_))))))))
    first
     |exact WX.qc (i + 1) ⟨rfl, rfl, rfl, trivial⟩ ⟨by omega, h4, hp, hw⟩ (by show s.waits.length - (i + 1) < s.waits.length - i; omega)
     |(rw [← pS_not hx hkp] at h2
       exact WX.qc (i + 1) ⟨rfl, rfl, rfl, trivial⟩ ⟨by omega, h2, hp, hw⟩ (by show s.waits.length - (i + 1) < s.waits.length - i; omega))
   ·have hkp : keep ps i = false := by rw [keep, hq]; exact decide_eq_false hq2
    refine WL.qz rfl rfl rfl ((Decidable.not_not.1 (fun h => hq2 ((tmod_two q).1 h)))) (WL.t (WC.qa rfl (WC.skip (WX.qd (WX.qa (WC.region (WL.move rfl rfl (WL.qe rfl rfl (by omega) rfl (WL.assign rfl rfl (WL.nil (?_)))))))))))
    first
     |exact WX.qc (i + 1) ⟨rfl, rfl, rfl, trivial⟩ ⟨by omega, h4, hp, hw⟩ (by show s.waits.length - (i + 1) < s.waits.length - i; omega)
     |(rw [← pS_not hx hkp] at h2
       exact WX.qc (i + 1) ⟨rfl, rfl, rfl, trivial⟩ ⟨by omega, h2, hp, hw⟩ (by show s.waits.length - (i + 1) < s.waits.length - i; omega))
  ·refine WL.qc rfl rfl rfl (WL.t (WC.qa rfl (WC.exit (WX.qe (WX.qe (WX.qh (WX.qa (WC.region (WL.move rfl rfl ?_)))))))))
   refine WL.move rfl rfl (WL.move rfl rfl (WL.nilCheck rfl rfl (WL.fieldAddr (fld_87_2) rfl rfl (WL.store Tryz.sizeOf85 hB rfl rfl rfl rfl ?_))))
   intro w_1 hs_1 hn_1 k_1
   have zs_k_1 := k_1.size
   replace hkD := hkD.chg k_1 (by intro x h1 h2; exact h2)
   replace hB := hn_1
   refine WL.nilCheck rfl rfl (WL.fieldAddr (fld_87_3) rfl rfl (WL.store Tryz.sizeOf4 hB rfl rfl rfl rfl ?_))
   intro w_2 hs_2 hn_2 k_2
   have zs_k_2 := k_2.size
   replace hkD := hkD.chg k_2 (by intro x h1 h2; exact h2)
   replace hB := hn_2
   refine WL.nilCheck rfl rfl (WL.fieldAddr (fld_87_4) rfl rfl (WL.store Tryz.sizeOf3 hB rfl rfl rfl rfl ?_))
   intro w_3 hs_3 hn_3 k_3
   have zs_k_3 := k_3.size
   replace hkD := hkD.chg k_3 (by intro x h1 h2; exact h2)
   replace hB := hn_3
   refine WL.nil (WX.ret0 (.inr rfl) Tryz.results14 ?_)
   have hfl : crashS s ps = { pS s (keep ps) i with waits := [], off := false, armed := false } := by
    unfold crashS pS
    rw [puts_stop (i := i) (kp := keep ps) (fun j hj hj2 => by rw [keep, List.getElem?_eq_none (by omega)]) s.waits.length hi]
   refine ⟨_, rfl, rfl, ?_, hw.chg hkD (fun x _ hx => by rw [show x = D from hx]; exact aD)⟩
   rw [hfl] at hcok ⊢
   exact h2.emptied rfl rfl rfl rfl rfl hcok hB0 hI0 hkD hB
 ·refine WL.move rfl rfl (WL.pass rfl rfl rfl rfl (WL.pass rfl rfl rfl rfl (WL.pass rfl rfl rfl rfl (WL.pass rfl rfl rfl rfl (WL.qb rfl rfl rfl (WL.t (WC.qa rfl (WC.exit (WX.qe (WX.qe (WX.qh (WX.qa (WC.region (WL.move rfl rfl ?_))))))))))))))
  refine WL.move rfl rfl (WL.move rfl rfl (WL.nilCheck rfl rfl (WL.fieldAddr (fld_87_2) rfl rfl (WL.store Tryz.sizeOf85 hB rfl rfl rfl rfl ?_))))
  intro w_1 hs_1 hn_1 k_1
  have zs_k_1 := k_1.size
  replace hkD := hkD.chg k_1 (by intro x h1 h2; exact h2)
  replace hB := hn_1
  refine WL.nilCheck rfl rfl (WL.fieldAddr (fld_87_3) rfl rfl (WL.store Tryz.sizeOf4 hB rfl rfl rfl rfl ?_))
  intro w_2 hs_2 hn_2 k_2
  have zs_k_2 := k_2.size
  replace hkD := hkD.chg k_2 (by intro x h1 h2; exact h2)
  replace hB := hn_2
  refine WL.nilCheck rfl rfl (WL.fieldAddr (fld_87_4) rfl rfl (WL.store Tryz.sizeOf3 hB rfl rfl rfl rfl ?_))
  intro w_3 hs_3 hn_3 k_3
  have zs_k_3 := k_3.size
  replace hkD := hkD.chg k_3 (by intro x h1 h2; exact h2)
  replace hB := hn_3
  refine WL.nil (WX.ret0 (.inr rfl) Tryz.results14 ?_)
  have hfl : crashS s ps = { pS s (keep ps) i with waits := [], off := false, armed := false } := by
   unfold crashS pS
   rw [puts_stop (i := i) (kp := keep ps) (fun j hj hj2 => by rw [keep, List.getElem?_eq_none (by omega)]) s.waits.length hi]
  refine ⟨_, rfl, rfl, ?_, hw.chg hkD (fun x _ hx => by rw [show x = D from hx]; exact aD)⟩
  rw [hfl] at hcok ⊢
  exact h2.emptied rfl rfl rfl rfl rfl hcok hB0 hI0 hkD hB
end Go.Proofs.YtjeldcjchipdgaaGreatDoor
namespace Go.Proofs.YtjeldcjchipdgaaGreatDoor
open Go.RowKit Go.HL
set_option maxRecDepth 100000
set_option maxHeartbeats 1000000 in
theorem dForget_calls {A : Nat → Prop} {w : World} {D : Nat} {s : RA} (h : RD A w D s) (hn : s.waits.length ≤ 1000000) (d : Int) :
 Calls Tryz.prog 57 [ptr D, vi d].toArray w (Ret fun v w' => v = .tuple #[] ∧ RD (fun x => A x ∨ w.heap.size ≤ x) w' D (forgetS s d) ∧ Chg A w w') := by
 have aD := h.aD
 have hok := forgetS_ok h.ok d
 have hwin := h.win
 replace h := h.old
 have hDw := h.lt
 obtain ⟨la, lc, ls, ga, gc, wa, wc, hB, hI⟩ := h.ex
 have hw := Chg.refl Nob w
 refine Calls.of_WC Tryz.func57 rfl Tryz.ntmps57 (by simp) ?_
 refine WC.sr (WL.assign rfl rfl (WL.t (WC.seq (WC.sr (WL.assign rfl rfl (WL.t (WC.block (?_))))))))
 refine WC.loop (σ := Nat × Option Addr × Nat) (fun q => [(0, ptr D), (1, vi d), (4, .slice q.2.1 (stay d (s.waits.take q.1)).length q.2.2), (5, vi q.1)])
  (fun q w' => q.1 ≤ s.waits.length ∧ Row (fun x => w.heap.size ≤ x) w' 104 ewt q.2.1 q.2.2 (stay d (s.waits.take q.1)) ∧ Blk w' D 87 (dcells s la s.dn lc ga gc wa wc) ∧ DI (fun b => A b ∧ b < w.heap.size) w' la lc ls ga gc wa wc s.dn s.sn (lf s) s.gone s.waits ∧ Chg Nob w w') (fun q => s.waits.length - q.1) (0, none, 0) ⟨rfl, rfl, rfl, rfl, trivial⟩ ⟨Nat.zero_le _, Row.nil _ _ _ _, hB, hI, hw⟩ ?_
 clear hB hI hw
 rintro ⟨i, ao, c⟩ w2 ⟨hi, hO, hB, hI, hw⟩
 simp only at hi hO
 dsimp only
 have hB0 := hB
 have hI0 := hI
 have hkD := Chg.refl (fun x => x = D) w2
 have hsl := stay_len d (s.waits.take i)
 have hst : (s.waits.take i).length ≤ 1000000 := by rw [List.length_take]; omega
 refine WC.seq (WC.sr (WL.move rfl rfl (WL.move rfl rfl (WL.nilCheck rfl rfl (WL.fieldAddr (fld_87_2) rfl rfl (WL.qd Tryz.isAgg85 hB rfl rfl rfl (WL.len Tryz.underlying85 rfl rfl (WL.qi rfl rfl rfl (fun h12 => ?_) (fun h12 => ?_)))))))))
 ·refine WL.t (WC.qb rfl (WC.skip (WX.qa (WC.seq (WC.block (WC.seq (WC.region (WL.move rfl rfl (WL.nilCheck rfl rfl (WL.fieldAddr (fld_87_2) rfl rfl (WL.qd Tryz.isAgg85 hB rfl rfl rfl (WL.move rfl rfl (?_)))))))))))))
  obtain ⟨⟨⟨x1, x2⟩, xb⟩, hx⟩ : ∃ x, s.waits[i]? = some x := ⟨_, List.getElem?_eq_getElem (by omega)⟩
  have hsn := stay_snoc (d := d) hx
  refine WL.qg Tryz.underlying85 Tryz.sizeOf104 hI.waits.rsl rfl rfl ⟨hx, rfl⟩ rfl ?_
  intro b_1 o_1 hc_1
  refine WL.fieldAddr (fld_104_0) rfl rfl (WL.load Tryz.isAgg3 rfl (hc_1 _ _ rfl) rfl (WL.move rfl rfl (WL.qk rfl rfl rfl (fun h24 => ?_) (fun h24 => ?_))))
  ·refine WL.t (WC.qb rfl (WC.region (WL.move rfl rfl (WL.move rfl rfl (WL.nilCheck rfl rfl (WL.fieldAddr (fld_87_2) rfl rfl (WL.qd Tryz.isAgg85 hB rfl rfl rfl (WL.move rfl rfl (WL.qg Tryz.underlying85 Tryz.sizeOf104 hI.waits.rsl rfl rfl ⟨hx, rfl⟩ rfl ?_)))))))))
   intro b_2 o_2 hc_2
   refine WL.qo _ Tryz.isAgg104 Tryz.sizeOf104 rfl hc_2 rfl rfl (?_)
   refine WL.build (e := ewt) [((x1, x2), xb)] Tryz.underlying85 Tryz.sizeOf104 Tryz.zeroValue104 rfl rfl rfl (by simp [Value.cells] <;> rfl) (by decide) rfl ?_
   intro a_b33 w_b33 b33 l_b33 z_b33 k_b33
   have zs_k_b33 := k_b33.size
   replace hO := hO.pure k_b33
   replace hB := hB.pure k_b33
   replace hI := hI.pure k_b33
   replace hw := hw.pure k_b33
   replace hkD := hkD.pure k_b33
   refine WL.append (e := ewt) (xs := stay d (s.waits.take i)) (S := fun x => w.heap.size ≤ x) info_104 rfl Tryz.underlying85 rfl rfl hO (b33.rsl.src Tryz.underlying85) (by constructor <;> (simp only [List.length_cons, List.length_nil]; omega)) (fun x hx => by have := hw.size; omega) rfl ?_
   intro a9 c9 w9 hO9 g9 n9
   have k9 := g9.chg
   replace hB := hB.chg k9 (fun hm => by have := hm.2; omega)
   replace hI := hI.chg k9 (fun b _ h1 h2 => by have := h1.2; have := h2.2; omega)
   replace hw := hw.chg k9 (fun x h1 h2 => by have := h2.2; omega)
   refine WL.assign rfl rfl (WL.nil (WX.qd (WX.qa (WC.region (WL.move rfl rfl (WL.qe rfl rfl (by omega) rfl (WL.assign rfl rfl (?_))))))))
   refine WL.nil (?_)
   first
    |(rw [if_neg h24] at hsn
      have e9 : stay d (s.waits.take i) ++ [((x1, x2), xb)] = stay d (s.waits.take (i + 1)) := hsn.symm
      rw [e9] at hO9
      exact WX.qc (i + 1, a9, c9) ⟨rfl, rfl, by rw [e9]; rfl, rfl, trivial⟩ ⟨by show i + 1 ≤ _; omega, hO9, hB, hI, hw⟩ (by show s.waits.length - (i + 1) < s.waits.length - i; omega))
    |(rw [if_pos h24] at hsn
      rw [← hsn] at hO ⊢
      exact WX.qc (i + 1, ao, c) ⟨rfl, rfl, rfl, rfl, trivial⟩ ⟨by show i + 1 ≤ _; omega, hO, hB, hI, hw⟩ (by show s.waits.length - (i + 1) < s.waits.length - i; omega))
  ·refine WL.t (WC.qa rfl (WC.skip (WX.qd (WX.qa (WC.region (WL.move rfl rfl (WL.qe rfl rfl (by omega) rfl (WL.assign rfl rfl (WL.nil (?_))))))))))
   first
    |(rw [if_neg h24] at hsn
      have e9 : stay d (s.waits.take i) ++ [((x1, x2), xb)] = stay d (s.waits.take (i + 1)) := hsn.symm
      rw [e9] at hO9
      exact WX.qc (i + 1, a9, c9) ⟨rfl, rfl, by rw [e9]; rfl, rfl, trivial⟩ ⟨by show i + 1 ≤ _; omega, hO9, hB, hI, hw⟩ (by show s.waits.length - (i + 1) < s.waits.length - i; omega))
    |(rw [if_pos h24] at hsn
      rw [← hsn] at hO ⊢
      exact WX.qc (i + 1, ao, c) ⟨rfl, rfl, rfl, rfl, trivial⟩ ⟨by show i + 1 ≤ _; omega, hO, hB, hI, hw⟩ (by show s.waits.length - (i + 1) < s.waits.length - i; omega))
 ·refine WL.t (WC.qa rfl (WC.exit (WX.qe (WX.qe (WX.qh (WX.qa (WC.region (?_))))))))
  have hil : i = s.waits.length := by omega
  rw [hil, List.take_length] at hO ⊢
  have hO0 := hO
  refine WL.move rfl rfl (WL.move rfl rfl (WL.nilCheck rfl rfl (WL.fieldAddr (fld_87_2) rfl rfl (WL.store Tryz.sizeOf85 hB rfl rfl rfl rfl ?_))))
  intro w_1 hs_1 hn_1 k_1
  replace hkD := hkD.chg k_1 (by intro x h1 h2; exact h2)
  replace hB := hn_1
  refine WL.nil (WX.ret0 (.inr rfl) Tryz.results57 ?_)
  have hwk := hkD.mono (M' := A) (fun x _ hx => by rw [show x = D from hx]; exact aD)
  refine ⟨_, rfl, rfl, ⟨.inl aD, hok, fun p hp => ?_, la, lc, ls, ga, gc, ao, c, ?_, ?_⟩, (hw.mono (M' := A) (fun _ _ h => h.elim)).trans hwk (fun _ _ h => h)⟩
  ·exact hwin p (List.mem_filter.1 hp).1
  ·exact hB
  ·have hI2 := hI0.own hB0 hkD
   refine ⟨hI2.ld.mono (fun x hx => .inl hx.1), hI2.gone.mono (fun x hx => .inl hx.1), ?_⟩
   have hne : ∀ b, b = D → kb w2 b ≠ some (some 104) := fun b e => by rw [e, hB0.kb]; decide
   exact (hO0.chgK hkD (fun b _ m => hne b m)).mono (fun x hx => .inr hx)
set_option maxHeartbeats 1000000 in
theorem dLose_calls {A : Nat → Prop} {w : World} {D : Nat} {s : RA} (h : RD A w D s) (hn : s.waits.length ≤ 1000000) (d : Int) :
 Calls Tryz.prog 16 [ptr D, vi d].toArray w (Ret fun v w' => v = vi (if isS s d then 0 else 1) ∧ RD (fun x => A x ∨ w.heap.size ≤ x) w' D (if isS s d then loseS s d true else s) ∧ Chg A w w') := by
 have aD := h.aD
 have hok := loseS_ok h.ok d true
 have hgl := h.ok.gl
 have hwin := h.win
 have hw := Chg.refl A w
 refine Calls.of_WC Tryz.func16 rfl Tryz.ntmps16 (by simp) ?_
 refine WC.sr (WL.assign rfl rfl (WL.t (WC.seq (WC.sr (WL.move rfl rfl (WL.move rfl rfl (WL.call eg_56 rfl rfl (dIs_calls h d) ?_)))))))
 rintro v w1 ⟨rfl, k1⟩
 have zs_k1 := k1.size
 replace h := h.pure k1
 replace hw := hw.pure k1
 by_cases h7 : isS s d
 ·rw [decide_eq_true h7]
  refine WL.not rfl rfl (WL.t (WC.qa rfl (WC.skip (WX.qa (WC.sr (WL.move rfl rfl (WL.move rfl rfl (WL.call eg_57 rfl rfl (dForget_calls h hn d) ?_))))))))
  rintro v w2 ⟨rfl, h2, k2⟩
  replace hw := hw.trans k2 (fun _ _ h => h)
  obtain ⟨la, lc, ls, ga, gc, wa, wc, hB, hI⟩ := h2.ex
  have hlt : d.toNat < s.gone.length := by rw [hgl]; have := h7.1; have := h7.2; omega
  obtain ⟨g, hg⟩ := hI.gone.place0 (j := d.toNat) hlt
  subst hg
  have hgA : A g ∨ w1.heap.size ≤ g := hI.gone.at_ _ rfl
  refine WL.t (WC.sr (WL.move rfl rfl (WL.nilCheck rfl rfl (WL.fieldAddr (fld_87_1) rfl rfl (WL.qd Tryz.isAgg84 hB rfl rfl rfl (WL.move rfl rfl (?_)))))))
  refine WL.index (sz := 1) (j := d.toNat) Tryz.underlying84 Tryz.sizeOf4 rfl rfl (by have := h7.1; omega) hlt rfl ?_
  refine WL.qt (z := true) d.toNat Tryz.sizeOf4 hI.gone rfl rfl rfl (by show 0 + d.toNat * 1 = d.toNat; omega) hlt rfl ?_
  intro w5 z5 hG5 k5
  have hI5 := hI.setGone hG5 k5
  have hB5 := hB.chg k5 (fun e => hI.neG hB ⟨_, rfl, e⟩)
  refine WL.t (WC.sr (WL.assign rfl rfl (WL.t (WC.ret (WX.qg (.inl rfl) Tryz.results16 rfl ?_)))))
  first
   |(rw [if_pos h7, if_pos h7]
     refine ⟨_, rfl, rfl, ?_, ?_⟩
     ·have hR : RD (fun x => A x ∨ w1.heap.size ≤ x) w5 D (loseS s d true) := ⟨.inl aD, hok, (fun p hp => hwin p (List.mem_filter.1 hp).1), la, lc, ls, some ⟨g, 0, none⟩, gc, wa, wc, by
       show Blk w5 D 87 [.slice la s.dn lc, .slice (some ⟨g, 0, none⟩) (s.gone.set d.toNat true).length gc, _, _, _]
       rw [List.length_set]
       exact hB5, hI5⟩
      exact hR.mono (fun x hx => hx.imp id (fun h => by omega))
     ·refine hw.chg k5 (fun x h1 hx => ?_)
      rcases hgA with h3 | h3
      ·rw [show x = g from hx]; exact h3
      ·exfalso
       omega)
   |(rw [if_neg h7, if_neg h7]
     exact ⟨_, rfl, rfl, h.mono (fun x hx => .inl hx), hw⟩)
 ·rw [decide_eq_false h7]
  refine WL.not rfl rfl (WL.t (WC.qb rfl (WC.sr (WL.assign rfl rfl (WL.nil (WX.qa (WC.ret (WX.qb (WX.qg (.inl rfl) Tryz.results16 rfl ?_)))))))))
  first
   |(rw [if_pos h7, if_pos h7]
     refine ⟨_, rfl, rfl, ?_, ?_⟩
     ·have hR : RD (fun x => A x ∨ w1.heap.size ≤ x) w5 D (loseS s d true) := ⟨.inl aD, hok, (fun p hp => hwin p (List.mem_filter.1 hp).1), la, lc, ls, some ⟨g, 0, none⟩, gc, wa, wc, by
       show Blk w5 D 87 [.slice la s.dn lc, .slice (some ⟨g, 0, none⟩) (s.gone.set d.toNat true).length gc, _, _, _]
       rw [List.length_set]
       exact hB5, hI5⟩
      exact hR.mono (fun x hx => hx.imp id (fun h => by omega))
     ·refine hw.chg k5 (fun x h1 hx => ?_)
      rcases hgA with h3 | h3
      ·rw [show x = g from hx]; exact h3
      ·exfalso
       have h4 : x = g := hx
       omega)
   |(rw [if_neg h7, if_neg h7]
     exact ⟨_, rfl, rfl, h.mono (fun x hx => .inl hx), hw⟩)
end Go.Proofs.YtjeldcjchipdgaaGreatDoor
namespace Go.Proofs.YtjeldcjchipdgaaGreatDoor
open Go.RowKit Go.HL
set_option maxRecDepth 100000
theorem blank_calls (w : World) (n : Nat) (hn : 1 ≤ n ∧ n ≤ 2000) :
 Calls Tryz.prog 46 [vi n].toArray w (Ret fun v w' => (∃ g c, v = .slice (some ⟨g, 0, none⟩) n c ∧ Row (· = g) w' 9 es (some ⟨g, 0, none⟩) c (List.replicate n (bs zeros)) ∧ w.heap.size ≤ g) ∧ Chg Nob w w') := by
 have hw := Chg.refl Nob w
 refine Calls.of_WC Tryz.func46 rfl Tryz.ntmps46 (by simp) ?_
 refine WC.sr (WL.assign rfl rfl (WL.t (WC.sr (WL.za (e := eb) (0 : UInt8) 128 128 Tryz.underlying51 info_5 rfl rfl rfl ⟨rfl, rfl, by decide⟩ (by decide) rfl ?_))))
 intro g1 w1 h1 k1 z1 e1
 replace hw := hw.pure k1
 refine WL.qp Tryz.underlying51 Tryz.underlying5 Tryz.underlying9 h1.rsl rfl rfl (WL.assign rfl rfl (WL.t (WC.sr (WL.assign rfl rfl (WL.t (WC.seq (WC.sr (WL.assign rfl rfl (WL.t (WC.block (?_)))))))))))
 obtain ⟨Z, hZ⟩ : ∃ Z, Z = bs zeros := ⟨_, rfl⟩
 refine WC.loop (σ := Nat × Option Addr × Nat) (fun q => [(0, vi n), (3, .string Z), (4, .slice q.2.1 (List.replicate q.1 Z).length q.2.2), (5, vi q.1)])
  (fun q w' => q.1 ≤ n ∧ Row (fun x => w.heap.size ≤ x) w' 9 es q.2.1 q.2.2 (List.replicate q.1 Z) ∧ Chg Nob w w') (fun q => n - q.1) (0, none, 0) ⟨rfl, by rw [hZ]; rfl, rfl, rfl, trivial⟩ ⟨Nat.zero_le _, Row.nil _ _ _ _, hw⟩ ?_
 clear hw h1
 rintro ⟨i, ao, c⟩ w2 ⟨hi, hO, hw⟩
 simp only at hi hO
 dsimp only
 refine WC.seq (WC.sr (WL.move rfl rfl (WL.move rfl rfl (WL.qi rfl rfl rfl (fun h10 => ?_) (fun h10 => ?_)))))
 ·refine WL.t (WC.qb rfl (WC.skip (WX.qa (WC.seq (WC.block (WC.region (WL.move rfl rfl (WL.move rfl rfl (?_)))))))))
  refine WL.build (e := es) [Z] Tryz.underlying70 Tryz.sizeOf9 Tryz.zeroValue9 rfl rfl rfl (by simp [Value.cells] <;> rfl) (by decide) rfl ?_
  intro a_b15 w_b15 b15 l_b15 z_b15 k_b15
  replace hO := hO.pure k_b15
  replace hw := hw.pure k_b15
  refine WL.append (e := es) (xs := List.replicate i Z) (S := fun x => w.heap.size ≤ x) info_9 rfl Tryz.underlying70 rfl rfl hO (b15.rsl.src Tryz.underlying70) (by constructor <;> (simp only [List.length_cons, List.length_nil, List.length_replicate]; omega)) (fun x hx => by have := hw.size; omega) rfl ?_
  intro a9 c9 w9 hO9 g9 n9
  have k9 := g9.chg
  replace hw := hw.chg k9 (fun x h1 h2 => by have := h2.2; omega)
  have e9 : List.replicate i Z ++ [Z] = List.replicate (i + 1) Z := by rw [List.replicate_succ']
  rw [e9] at hO9 ⊢
  refine WL.assign rfl rfl (WL.nil (WX.qd (WX.qa (WC.region (WL.move rfl rfl (WL.qe rfl rfl (by omega) rfl (WL.assign rfl rfl (?_))))))))
  refine WL.nil (?_)
  exact WX.qc (i + 1, a9, c9) ⟨rfl, rfl, rfl, rfl, trivial⟩ ⟨by show i + 1 ≤ _; omega, hO9, hw⟩ (by show n - (i + 1) < n - i; omega)
 ·refine WL.t (WC.qa rfl (WC.exit (WX.qe (WX.qe (WX.qh (WX.qa (WC.sr (WL.move rfl rfl (WL.assign rfl rfl (WL.t (WC.ret (WX.qg (.inl rfl) Tryz.results46 rfl ?_))))))))))))
  have hin : i = n := by omega
  subst hin
  obtain ⟨g, rfl⟩ := hO.place0 (j := 0) (by rw [List.length_replicate]; omega)
  refine ⟨_, rfl, ⟨g, c, by rw [List.length_replicate], ?_, hO.at_ _ rfl⟩, hw⟩
  rw [← hZ]
  exact ⟨fun a ea => by injection ea with ea; subst ea; rfl, hO.own⟩
theorem replace_lf {s : RA} (h : s.ok) {d : Int} (hd : 0 ≤ d) (d' a' : Nat) (ha : a' < s.sn) : lf (replaceS s d) d' a' = if d' = d.toNat then bs zeros else lf s d' a' := by
 rw [lf, lf, lastS, lastS, show (replaceS s d).last = delN s.last d s.sn from rfl, delN_get h.nd]
 by_cases e : d' = d.toNat
 ·rw [if_pos e, if_pos ⟨by show (d' : Int) = d; omega, by show (0 : Int) ≤ a'; omega, by show (a' : Int) < s.sn; omega⟩]
  rfl
 ·rw [if_neg e, if_neg (fun h => e (by have h1 : (d' : Int) = d := h.1; omega))]
set_option maxHeartbeats 2000000 in
theorem dReplace_calls {A : Nat → Prop} {w : World} {D : Nat} {s : RA} (h : RD A w D s) (hn : s.waits.length ≤ 1000000) (d : Int) :
 Calls Tryz.prog 18 [ptr D, vi d].toArray w (Ret fun v w' => v = vi (if isS s d then 0 else 1) ∧ RD (fun x => A x ∨ w.heap.size ≤ x) w' D (if isS s d then replaceS s d else s) ∧ Chg A w w') := by
 have aD := h.aD
 have hok0 := h.ok
 have hok := replaceS_ok h.ok d
 have hgl := h.ok.gl
 have hsn := h.ok.sn
 have hwin := h.win
 have hw := Chg.refl A w
 refine Calls.of_WC Tryz.func18 rfl Tryz.ntmps18 (by simp) ?_
 refine WC.sr (WL.assign rfl rfl (WL.t (WC.seq (WC.sr (WL.move rfl rfl (WL.move rfl rfl (WL.call eg_56 rfl rfl (dIs_calls h d) ?_)))))))
 rintro v w1 ⟨rfl, k1⟩
 have zs_k1 := k1.size
 replace h := h.pure k1
 replace hw := hw.pure k1
 by_cases h7 : isS s d
 ·rw [decide_eq_true h7]
  refine WL.not rfl rfl (WL.t (WC.qa rfl (WC.skip (WX.qa (WC.sr (WL.move rfl rfl (WL.move rfl rfl (WL.call eg_57 rfl rfl (dForget_calls h hn d) ?_))))))))
  rintro v w2 ⟨rfl, h2, k2⟩
  replace hw := hw.trans k2 (fun _ _ h => h)
  replace h2 := h2.old
  obtain ⟨la, lc, ls, ga, gc, wa, wc, hB, hI⟩ := h2.ex
  have hlen : ls.length = s.dn := hI.ld.len
  have hd0 := h7.1
  have hd1 := h7.2
  have hlt : d.toNat < s.gone.length := by rw [hgl]; omega
  obtain ⟨g, hg⟩ := hI.gone.place0 (j := d.toNat) hlt
  subst hg
  obtain ⟨hgA, hgw⟩ : (A g ∨ w1.heap.size ≤ g) ∧ g < w2.heap.size := hI.gone.at_ _ rfl
  have zk2 := k2.size
  refine WL.t (WC.sr (WL.move rfl rfl (WL.nilCheck rfl rfl (WL.fieldAddr (fld_87_1) rfl rfl (WL.qd Tryz.isAgg84 hB rfl rfl rfl (WL.move rfl rfl (WL.index (sz := 1) (j := d.toNat) Tryz.underlying84 Tryz.sizeOf4 rfl rfl (by omega) hlt rfl ?_)))))))
  refine WL.qt (z := false) d.toNat Tryz.sizeOf4 hI.gone rfl rfl rfl (by show 0 + d.toNat * 1 = d.toNat; omega) hlt rfl ?_
  intro w5 z5 hG5 k5
  replace hB := hB.chg k5 (fun e => hI.neG hB ⟨_, rfl, e⟩)
  replace hI := hI.setGone hG5 k5
  have hw5 : Chg A w w5 := hw.chg k5 (fun x h1 hx => by
   rcases hgA with h3 | h3
   ·rw [show x = g from hx]; exact h3
   ·exfalso
    omega)
  refine WL.t (WC.seq (?_))
  obtain ⟨⟨rao, rc, rxs⟩, hr⟩ : ∃ r, ls[d.toNat]? = some r := ⟨_, List.getElem?_eq_getElem (by omega)⟩
  have hrl : rxs.length = s.sn := hI.ld.rlen hr
  obtain ⟨go, hgo⟩ := hI.ld.outer.place0 (j := d.toNat) (by omega)
  subst hgo
  obtain ⟨hgoA, hgow⟩ : (A go ∨ w1.heap.size ≤ go) ∧ go < w2.heap.size := hI.ld.outer.at_ _ rfl
  have hDgo : D ≠ go := fun e => hI.neL hB ⟨_, rfl, e⟩
  have hrow : Row (fun x => x = go) w5 70 esr (some ⟨go, 0, none⟩) lc ls := ⟨fun a ea => by injection ea with ea; subst ea; rfl, hI.ld.outer.own⟩
  have hk6 := Chg.refl (fun x => x = go) w5
  refine WC.qc (fun x => x = go) [0, 1, 2, 3, 4, 5, 6, 7, 8, 9, 14] [10, 11, 12, 13, 15] mixed rfl rfl (fun wd_1 kd_1 zd_1 => ?_)
  replace hB := hB.pure kd_1
  replace hI := hI.pure kd_1
  replace hrow := hrow.pure kd_1
  replace hk6 := hk6.pure kd_1
  apply DQ.step [(0, _)] rfl ⟨rfl, trivial⟩ rfl (fun _ _ => WL.move rfl rfl  WL.q)
  apply DQ.step [(18, _)] rfl ⟨rfl, trivial⟩ rfl (fun _ _ => WL.nilCheck rfl rfl  WL.q)
  apply DQ.step [(19, _)] rfl ⟨rfl, trivial⟩ rfl (fun _ _ => WL.fieldAddr (fld_87_0) rfl rfl  WL.q)
  apply DQ.step [(20, _)] rfl ⟨rfl, trivial⟩ rfl
  ·intro wq_6 kq_6
   replace hB := hB.chg kq_6 (by intro h1; have h2 : _ = _ := h1; exfalso; omega)
   refine WL.qd Tryz.isAgg83 hB rfl rfl rfl (WL.q)
  apply DQ.step [(1, _)] rfl ⟨rfl, trivial⟩ rfl (fun _ _ => WL.move rfl rfl  WL.q)
  apply DQ.step [(0, _)] rfl ⟨rfl, trivial⟩ rfl (fun _ _ => WL.move rfl rfl  WL.q)
  apply DQ.step [(23, _)] rfl ⟨rfl, trivial⟩ rfl (fun _ _ => WL.nilCheck rfl rfl  WL.q)
  apply DQ.step [(24, _)] rfl ⟨rfl, trivial⟩ rfl (fun _ _ => WL.fieldAddr (fld_87_0) rfl rfl  WL.q)
  apply DQ.step [(25, _)] rfl ⟨rfl, trivial⟩ rfl
  ·intro wq_11 kq_11
   replace hB := hB.chg kq_11 (by intro h1; have h2 : _ = _ := h1; exfalso; omega)
   refine WL.qd Tryz.isAgg83 hB rfl rfl rfl (WL.q)
  apply DQ.step [(1, _)] rfl ⟨rfl, trivial⟩ rfl (fun _ _ => WL.move rfl rfl  WL.q)
  apply DQ.step [(21, _), (22, _)] rfl ⟨rfl, rfl, trivial⟩ rfl
  ·intro wq_13 kq_13
   refine WL.index (sz := 1) (j := d.toNat) Tryz.underlying83 Tryz.sizeOf70 rfl rfl (by omega) (show d.toNat < s.dn by omega) rfl ?_
   exact WL.q
  refine DQ.done (fun hd_2 => ?_)
  refine DL.step [(26, _), (27, _)] rfl ⟨rfl, rfl, trivial⟩ rfl (fun wq_14 kq_14 => ?_)
  have zs_kq_14 := kq_14.size
  replace hB := hB.pure kq_14
  replace hI := hI.pure kq_14
  replace hrow := hrow.pure kq_14
  replace hk6 := hk6.pure kq_14
  replace hd_2 := hd_2.pure kq_14
  refine WL.qh (e := esr) hI.ld.outer.rsl Tryz.underlying83 Tryz.sizeOf70 (by show some (Value.slice _ s.dn _) = some (Value.slice _ ls.length _); rw [hlen]) rfl ⟨hr, (Int.toNat_of_nonneg hd0).symm⟩ rfl ?_
  refine WL.nil (WX.one ⟨hd_2, ?_⟩)
  refine DL.step [(28, _)] rfl ⟨rfl, trivial⟩ rfl (fun wq_15 kq_15 => ?_)
  have zs_kq_15 := kq_15.size
  replace hB := hB.pure kq_15
  replace hI := hI.pure kq_15
  replace hrow := hrow.pure kq_15
  replace hk6 := hk6.pure kq_15
  replace hd_2 := hd_2.pure kq_15
  refine WL.load Tryz.isAgg70 rfl ((hI.ld.outer.rsl.cellsAt hr) 0 _ rfl) rfl ?_
  rw [show (⟨rao, rc, rxs⟩ : Sr).xs.length = s.sn from hrl]
  refine WL.nil (WX.one ⟨hd_2, ?_⟩)
  refine DL.step [(29, _)] rfl ⟨rfl, trivial⟩ rfl (fun wq_16 kq_16 => ?_)
  have zs_kq_16 := kq_16.size
  replace hB := hB.pure kq_16
  replace hI := hI.pure kq_16
  replace hrow := hrow.pure kq_16
  replace hk6 := hk6.pure kq_16
  replace hd_2 := hd_2.pure kq_16
  refine WL.len Tryz.underlying70 rfl rfl (WL.nil ?_)
  refine WX.one ⟨hd_2, ?_⟩
  refine DL.step [(30, _)] rfl ⟨rfl, trivial⟩ rfl (fun wq_17 kq_17 => ?_)
  have zs_kq_17 := kq_17.size
  replace hB := hB.pure kq_17
  replace hI := hI.pure kq_17
  replace hrow := hrow.pure kq_17
  replace hk6 := hk6.pure kq_17
  replace hd_2 := hd_2.pure kq_17
  refine WL.call eg_46 rfl rfl (blank_calls _ s.sn hsn) ?_
  rintro v w7 ⟨⟨gn, cn, rfl, hbl, hgn⟩, k7⟩
  replace hB := hB.pure k7
  replace hI := hI.pure k7
  replace hrow := hrow.pure k7
  replace hk6 := hk6.pure k7
  replace hd_2 := hd_2.pure k7
  refine WL.nil (WX.one ⟨hd_2, ?_⟩)
  refine DL.step [(32, _), (31, _)] rfl ⟨rfl, rfl, trivial⟩ rfl (fun wq_18 kq_18 => ?_)
  replace hB := hB.pure kq_18
  replace hI := hI.pure kq_18
  replace hrow := hrow.pure kq_18
  replace hk6 := hk6.pure kq_18
  replace hd_2 := hd_2.pure kq_18
  replace hbl := hbl.pure kq_18
  refine WL.qt (z := ⟨some ⟨gn, 0, none⟩, cn, List.replicate s.sn (bs zeros)⟩) d.toNat Tryz.sizeOf70 hrow rfl (by show [Value.slice (some ⟨gn, 0, none⟩) (List.replicate s.sn (bs zeros)).length cn] = _; rw [List.length_replicate]) rfl (by show 0 + d.toNat * 1 = d.toNat; omega) (by omega) rfl ?_
  intro w9 z9 hO9 k9
  have hL9 : LD (fun x => A x ∨ w.heap.size ≤ x) w9 (some ⟨go, 0, none⟩) lc (ls.set d.toNat ⟨some ⟨gn, 0, none⟩, cn, List.replicate s.sn (bs zeros)⟩) s.dn s.sn (lf (replaceS s d)) := by
   refine ((hI.ld.mono (S' := fun x => A x ∨ w.heap.size ≤ x) (fun x hx => hx.1.imp id (fun h => by omega))).put k9 (hO9.mono (fun x hx => by rw [show x = go from hx]; exact hgoA.imp id (fun h => by omega))) (.inr (by omega)) (fun e r he h9 => ?_) hbl (show d.toNat < s.dn by omega) (fun d' a' h1 h2 h3 => ?_) ?_)
   ·obtain ⟨g', e1, e2, e3⟩ := hI.ld.own e r he
    rw [e1] at h9
    injection h9 with h9
    injection h9 with h9
    have := e2.2
    omega
   ·rw [replace_lf hok0 hd0 d' a' h2, if_neg h3]
    rfl
   ·apply List.ext_getElem?
    intro j
    rcases Nat.lt_or_ge j s.sn with hj | hj
    ·rw [List.getElem?_replicate, if_pos hj, List.getElem?_map, List.getElem?_range (show j < (forgetS s d).sn from hj)]
     show _ = some (lf (replaceS s d) d.toNat j)
     rw [replace_lf hok0 hd0 d.toNat j hj, if_pos rfl]
    ·rw [List.getElem?_replicate, if_neg (by omega), List.getElem?_eq_none (by rw [List.length_map, List.length_range]; exact hj)]
  have hI9 : DI (fun x => A x ∨ w.heap.size ≤ x) w9 (some ⟨go, 0, none⟩) lc (ls.set d.toNat ⟨some ⟨gn, 0, none⟩, cn, List.replicate s.sn (bs zeros)⟩) (some ⟨g, 0, none⟩) gc wa wc s.dn s.sn (lf (replaceS s d)) (s.gone.set d.toNat false) (stay d s.waits) :=
   (hI.mono (S' := fun x => A x ∨ w.heap.size ≤ x) (fun x hx => hx.1.imp id (fun h => by omega))).setLd hL9 k9 (fun b hb e => .inr (by rw [show b = go from e]; exact (hI.ld.outer.kb.at_ _ rfl).2))
  replace hB := hB.chg k9 (by intro h1; have h2 : _ = _ := h1; exfalso; omega)
  replace hk6 := hk6.chg k9 (by intro x h1 h2; exact h2)
  replace hd_2 := hd_2.chg k9 (by intro x h1 h2; exact h2)
  refine WL.nil (WX.qk (v := undef) ⟨hd_2, ?_⟩)
  refine DL.done (fun we_19 ke_19 => ?_)
  replace hB := hB.pure ke_19
  replace hk6 := hk6.pure ke_19
  replace hI9 := hI9.pure ke_19
  refine WX.qa (WC.sr (WL.assign rfl rfl (WL.t (WC.ret (WX.qg (.inl rfl) Tryz.results18 rfl ?_)))))
  first
   |(rw [if_pos h7, if_pos h7]
     refine ⟨_, rfl, rfl, ⟨.inl aD, hok, (fun p hp => hwin p (List.mem_filter.1 hp).1), some ⟨go, 0, none⟩, lc, _, some ⟨g, 0, none⟩, gc, wa, wc, ?_, hI9⟩, hw5.chg hk6 (fun x h1 hx => ?_)⟩
     ·show Blk _ D 87 [.slice (some ⟨go, 0, none⟩) s.dn lc, .slice (some ⟨g, 0, none⟩) (s.gone.set d.toNat false).length gc, _, _, _]
      rw [List.length_set]
      exact hB
     ·rcases hgoA with h3 | h3
      ·rw [show x = go from hx]; exact h3
      ·exfalso
       omega)
   |(rw [if_neg h7, if_neg h7]
     exact ⟨_, rfl, rfl, h.mono (fun x hx => .inl hx), hw⟩)
 ·rw [decide_eq_false h7]
  refine WL.not rfl rfl (WL.t (WC.qb rfl (WC.sr (WL.assign rfl rfl (WL.nil (WX.qa (WC.ret (WX.qb (WX.qg (.inl rfl) Tryz.results18 rfl ?_)))))))))
  first
   |(rw [if_pos h7, if_pos h7]
     refine ⟨_, rfl, rfl, ⟨.inl aD, hok, (fun p hp => hwin p (List.mem_filter.1 hp).1), some ⟨go, 0, none⟩, lc, _, some ⟨g, 0, none⟩, gc, wa, wc, ?_, hI9⟩, hw5.chg hk6 (fun x h1 hx => ?_)⟩
     ·show Blk _ D 87 [.slice (some ⟨go, 0, none⟩) s.dn lc, .slice (some ⟨g, 0, none⟩) (s.gone.set d.toNat false).length gc, _, _, _]
      rw [List.length_set]
      exact hB
     ·rcases hgoA with h3 | h3
      ·rw [show x = go from hx]; exact h3
      ·exfalso
       have h4 : x = go := hx
       omega)
   |(rw [if_neg h7, if_neg h7]
     exact ⟨_, rfl, rfl, h.mono (fun x hx => .inl hx), hw⟩)
end Go.Proofs.YtjeldcjchipdgaaGreatDoor
