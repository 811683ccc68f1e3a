import Derived.Test.YtjeldcjchipdgaaDoorQIntentRooms6
namespace Go.Proofs.YtjeldcjchipdgaaDoor
open Go.RowKit Go.HL
set_option maxRecDepth 100000

/-! a log -/
abbrev lgC (R : Nat) (l : LgV) : List Value := [ptr R, vi l.f, vi l.c, vi l.b, vi l.nx]
theorem stF_read {s : RA} {f b n d : Int} {r : Rw} {e : Int} (he : e = errS s d (f + n)) (hx : e = 0 → r.xs = heldS s (d, f + n)) :
    (e = 16 → stF s f b n d = (16, none)) ∧ (e ≠ 16 → e ≠ 0 → stF s f b n d = (0, none)) ∧ (e = 0 → pcD r.xs = none → stF s f b n d = (0, none)) ∧
    (∀ p, e = 0 → pcD r.xs = some p → ¬ (p.base = b ∧ p.num = n) → stF s f b n d = (0, none)) ∧ (∀ p, e = 0 → pcD r.xs = some p → p.base = b → p.num = n → stF s f b n d = (0, some p)) := by
  subst he
  refine ⟨fun h => ?_, fun h1 h2 => ?_, fun h1 h2 => ?_, fun p h1 h2 h3 => ?_, fun p h1 h2 h3 h4 => ?_⟩
  · rw [stF, if_pos h]
  · rw [stF, if_neg h1, if_pos h2]
  · rw [hx h1] at h2
    rw [stF, if_neg (by omega), if_neg (fun x => x h1), h2]
  · rw [hx h1] at h2
    rw [stF, if_neg (by omega), if_neg (fun x => x h1), h2]
    exact if_neg h3
  · rw [hx h1] at h2
    rw [stF, if_neg (by omega), if_neg (fun x => x h1), h2]
    exact if_pos ⟨h3, h4⟩
set_option maxHeartbeats 2000000 in
theorem find_calls {A : Nat → Prop} {w : World} {R L : Nat} {s : RA} {l : LgV} (h : RK A w R s) (hL : Blk w L 103 (lgC R l)) (hl : l.ok s.sn) (n : Nat) (hn : (n : Int) < l.c) :
    Calls Tryd.prog 54 [ptr L, vi n].toArray w (Ret fun v w' => (∃ p : PcV, v = .tuple #[.agg (epc.f p).toArray, .bool (findP s l.f l.b n).isSome, vi (findE s l.f l.b n)] ∧ (∀ q, findP s l.f l.b n = some q → p = q)) ∧ Chg Nob w w') := by
  have hw := Chg.refl Nob w
  have hdn := h.ok.dn
  have lf := hl.f
  have lin := hl.in_
  have hsn := h.ok.sn
  have hLl := hL.lt
  replace h : RK (fun x => x < w.heap.size) w R s := h.old.mono (fun x hx => hx.2)
  refine Calls.of_WC Tryd.func54 rfl Tryd.ntmps54 (by simp) ?_
  refine WC.seq (WC.region (?_))
  refine WL.alloc Tryd.zeroValue108 rfl ?_
  intro g_1 w_1 hge_1 hlt_1 hb_1 k_1
  have zs_k_1 := k_1.size
  replace h := h.pure k_1
  replace hL := hL.pure k_1
  replace hw := hw.pure k_1
  refine WL.assign rfl rfl (WL.assign rfl rfl (WL.nil (WX.then_normal (WC.seq (WC.seq (WC.region (WL.move rfl rfl (?_))))))))
  refine WL.nilCheck rfl rfl (WL.fieldAddr (fld_103_0) rfl rfl (WL.loadB Tryd.isAgg41 hL rfl rfl rfl (?_)))
  refine WL.call eg_43 rfl rfl (Drives_calls h) ?_
  rintro v w4 ⟨rfl, k4⟩
  have zs_k4 := k4.size
  replace h := h.pure k4
  replace hL := hL.pure k4
  replace hw := hw.pure k4
  replace hb_1 := hb_1.pure k4
  refine WL.move rfl rfl (WL.nil (WX.then_normal (WC.block (?_))))
  have hg1 : w.heap.size ≤ g_1 := hge_1
  refine WC.loop (σ := Nat) (fun k => [(0, ptr L), (1, vi n), (4, ptr g_1), (16, vi (s.dn : Int)), (17, vi (k : Int))])
    (fun k w' => k ≤ s.dn ∧ fdR s l.f l.b n k = (0, none) ∧ Blk w' g_1 108 (epc.f zeroC) ∧ RK (fun x => x < w.heap.size) w' R s ∧ Blk w' L 103 (lgC R l) ∧ Chg Nob w w') (fun k => s.dn - k) 0 ⟨rfl, rfl, rfl, rfl, rfl, trivial⟩
    ⟨Nat.zero_le _, rfl, Blk.eqc hb_1 rfl, h, hL, hw⟩ ?_
  clear hb_1 h hL hw
  rintro k w3 ⟨hk, hF, hb_1, h, hL, hw⟩
  have lg1 := hb_1.lt
  refine WC.seq (WC.region (?_))
  refine WL.lss? rfl rfl rfl (fun h18 => ?_) (fun h18 => ?_)
  ·
    refine WL.nil (WX.then_normal (WC.seq (WC.cond_true rfl (WC.skip (WX.then_normal (WC.seq (WC.block (?_))))))))
    refine WC.seq (WC.region (WL.move rfl rfl (WL.assign rfl rfl (WL.nil (WX.then_normal (WC.seq (?_)))))))
    refine WC.drawP (Nob) [0, 1, 2, 3, 4, 5, 6, 7, 8, 9, 10] [(11, [12, 13, 14, 15, 16])] mixed rfl rfl (fun wd_2 kd_2 zd_2 => ?_)
    have zs_kd_2 := kd_2.size
    replace hb_1 := hb_1.pure kd_2
    replace h := h.pure kd_2
    replace hL := hL.pure kd_2
    replace hw := hw.pure kd_2
    apply DPQ.step (E' := [(0, _)])
    case ho => rfl
    case hs => exact ⟨rfl, trivial⟩
    case hk => rfl
    case h1 =>
      intro wq_3 kq_3
      refine WL.move rfl rfl (?_)
      refine WL.nil ?_
      exact WX.one ⟨rfl, by exact Chg.refl _ _⟩
    apply DPQ.step (E' := [(21, _)])
    case ho => rfl
    case hs => exact ⟨rfl, trivial⟩
    case hk => rfl
    case h1 =>
      intro wq_4 kq_4
      refine WL.nilCheck rfl rfl (?_)
      refine WL.nil ?_
      exact WX.one ⟨rfl, by exact Chg.refl _ _⟩
    apply DPQ.step (E' := [(22, _)])
    case ho => rfl
    case hs => exact ⟨rfl, trivial⟩
    case hk => rfl
    case h1 =>
      intro wq_5 kq_5
      refine WL.fieldAddr (fld_103_0) rfl rfl (?_)
      refine WL.nil ?_
      exact WX.one ⟨rfl, by exact Chg.refl _ _⟩
    apply DPQ.step (E' := [(23, _)])
    case ho => rfl
    case hs => exact ⟨rfl, trivial⟩
    case hk => rfl
    case h1 =>
      intro wq_6 kq_6
      have zs_kq_6 := kq_6.size
      replace hb_1 := hb_1.pure kq_6
      replace h := h.pure kq_6
      replace hL := hL.pure kq_6
      replace hw := hw.pure kq_6
      refine WL.loadB Tryd.isAgg41 hL rfl rfl rfl (?_)
      refine WL.nil ?_
      exact WX.one ⟨rfl, by exact Chg.refl _ _⟩
    apply DPQ.step (E' := [(7, _)])
    case ho => rfl
    case hs => exact ⟨rfl, trivial⟩
    case hk => rfl
    case h1 =>
      intro wq_7 kq_7
      refine WL.move rfl rfl (?_)
      refine WL.nil ?_
      exact WX.one ⟨rfl, by exact Chg.refl _ _⟩
    apply DPQ.step (E' := [(0, _)])
    case ho => rfl
    case hs => exact ⟨rfl, trivial⟩
    case hk => rfl
    case h1 =>
      intro wq_8 kq_8
      refine WL.move rfl rfl (?_)
      refine WL.nil ?_
      exact WX.one ⟨rfl, by exact Chg.refl _ _⟩
    apply DPQ.step (E' := [(26, _)])
    case ho => rfl
    case hs => exact ⟨rfl, trivial⟩
    case hk => rfl
    case h1 =>
      intro wq_9 kq_9
      refine WL.nilCheck rfl rfl (?_)
      refine WL.nil ?_
      exact WX.one ⟨rfl, by exact Chg.refl _ _⟩
    apply DPQ.step (E' := [(27, _)])
    case ho => rfl
    case hs => exact ⟨rfl, trivial⟩
    case hk => rfl
    case h1 =>
      intro wq_10 kq_10
      refine WL.fieldAddr (fld_103_1) rfl rfl (?_)
      refine WL.nil ?_
      exact WX.one ⟨rfl, by exact Chg.refl _ _⟩
    apply DPQ.step (E' := [(28, _)])
    case ho => rfl
    case hs => exact ⟨rfl, trivial⟩
    case hk => rfl
    case h1 =>
      intro wq_11 kq_11
      have zs_kq_11 := kq_11.size
      replace hb_1 := hb_1.pure kq_11
      replace h := h.pure kq_11
      replace hL := hL.pure kq_11
      replace hw := hw.pure kq_11
      refine WL.loadB Tryd.isAgg3 hL rfl rfl rfl (?_)
      refine WL.nil ?_
      exact WX.one ⟨rfl, by exact Chg.refl _ _⟩
    apply DPQ.step (E' := [(1, _)])
    case ho => rfl
    case hs => exact ⟨rfl, trivial⟩
    case hk => rfl
    case h1 =>
      intro wq_12 kq_12
      refine WL.move rfl rfl (?_)
      refine WL.nil ?_
      exact WX.one ⟨rfl, by exact Chg.refl _ _⟩
    apply DPQ.step (E' := [(29, _), (30, _)])
    case ho => rfl
    case hs => exact ⟨rfl, rfl, trivial⟩
    case hk => rfl
    case h1 =>
      intro wq_13 kq_13
      refine WL.add64 rfl rfl (by omega) rfl (?_)
      refine WL.nil ?_
      exact WX.one ⟨rfl, by exact Chg.refl _ _⟩
    refine DPQ.done ?_
    refine DPR.step [(24, _), (25, _), (31, _)] rfl ⟨rfl, rfl, rfl, trivial⟩ rfl (fun wq_14 kq_14 => ?_)
    have zs_kq_14 := kq_14.size
    replace hb_1 := hb_1.pure kq_14
    replace h := h.pure kq_14
    replace hL := hL.pure kq_14
    replace hw := hw.pure kq_14
    have hd_14 := Chg.refl (Nob) wq_14
    refine WL.call eg_27 rfl rfl (Read_calls h k (l.f + n)) ?_
    rintro v w5 ⟨⟨r, e, rfl, he, hx, -, hq⟩, k5⟩
    obtain ⟨f1, f2, f3, f4, f5⟩ := stF_read (b := l.b) he hx
    have zs_k5 := k5.size
    replace hb_1 := hb_1.pure k5
    replace h := h.pure k5
    replace hL := hL.pure k5
    replace hw := hw.pure k5
    replace hd_14 := hd_14.pure k5
    replace hq := hq.lt
    refine WL.nil ?_
    refine WX.one ⟨hd_14, ?_⟩
    apply DPQ.step (E' := [(32, _)])
    case ho => rfl
    case hs => exact ⟨rfl, trivial⟩
    case hk => rfl
    case h1 =>
      intro wq_15 kq_15
      refine WL.move rfl rfl (?_)
      refine WL.nil ?_
      exact WX.one ⟨rfl, by exact Chg.refl _ _⟩
    apply DPQ.step (E' := [(20, _)])
    case ho => rfl
    case hs => exact ⟨rfl, trivial⟩
    case hk => rfl
    case h1 =>
      intro wq_16 kq_16
      refine WL.extract rfl rfl rfl (?_)
      refine WL.nil ?_
      exact WX.one ⟨rfl, by exact Chg.refl _ _⟩
    apply DPQ.step (E' := [(20, _)])
    case ho => rfl
    case hs => exact ⟨rfl, trivial⟩
    case hk => rfl
    case h1 =>
      intro wq_17 kq_17
      refine WL.extract rfl rfl rfl (?_)
      refine WL.nil ?_
      exact WX.one ⟨rfl, by exact Chg.refl _ _⟩
    apply DPQ.step (E' := [(33, _)])
    case ho => rfl
    case hs => exact ⟨rfl, trivial⟩
    case hk => rfl
    case h1 =>
      intro wq_18 kq_18
      refine WL.assign rfl rfl (?_)
      refine WL.nil ?_
      exact WX.one ⟨rfl, by exact Chg.refl _ _⟩
    apply DPQ.step (E' := [(34, _)])
    case ho => rfl
    case hs => exact ⟨rfl, trivial⟩
    case hk => rfl
    case h1 =>
      intro wq_19 kq_19
      refine WL.assign rfl rfl (?_)
      refine WL.nil ?_
      exact WX.one ⟨rfl, by exact Chg.refl _ _⟩
    refine DPQ.done ?_
    refine DPR.done (fun we_20 ke_20 => ?_)
    have zs_ke_20 := ke_20.size
    replace hb_1 := hb_1.pure ke_20
    replace h := h.pure ke_20
    replace hL := hL.pure ke_20
    replace hw := hw.pure ke_20
    replace hq := hq.pure ke_20
    refine WX.then_normal (WC.seq (WC.seq (WC.region (WL.move rfl rfl (?_)))))
    refine WL.eql? rfl rfl rfl (fun h36 => ?_) (fun h36 => ?_)
    ·
      refine WL.nil (WX.then_normal (WC.cond_true rfl (WC.seq (WC.region (WL.bld rfl (bld_108_z) rfl (WL.move rfl rfl (?_)))))))
      refine WL.stores Tryd.sizeOf108 hb_1 rfl rfl (by simp; done) (by simp [Value.oneCell']; done) (by exact Nat.le_of_ble_eq_true rfl) rfl ?_
      intro w_21 hs_21 hn_21 k_21
      have zs_k_21 := k_21.size
      replace h := h.chg k_21 (by intro b h1 h2 h3; have h4 : _ = _ := h3; (try dsimp only at h2); exfalso; omega)
      replace hL := hL.chg k_21 (by intro h1; have h2 : _ = _ := h1; exfalso; omega)
      replace hw := hw.chg k_21 (by intro x h1 h2; have h3 : _ = _ := h2; exfalso; omega)
      replace hq := hq.chg k_21 (by intro b h1 h2 h3; have h4 : _ = _ := h3; (try dsimp only at h2); exfalso; omega)
      replace hb_1 := hn_21
      refine WL.assign rfl rfl (WL.assign rfl rfl (WL.nil (WX.then_normal (WC.ret (WX.then_ret (WX.block_ret (WX.then_ret (?_))))))))
      refine WX.then_ret (WX.block_ret (WX.then_ret (?_)))
      refine WX.ret3c (.inl rfl) Tryd.results54 Tryd.isAgg108 Tryd.sizeOf108 hb_1 rfl (by rfl) rfl rfl ?_
      have hE : ∀ e' p', fdR s l.f l.b n s.dn = (e', p') → findE s l.f l.b n = e' ∧ findP s l.f l.b n = p' := fun e' p' h9 => by rw [findE, findP, h9]; exact ⟨rfl, rfl⟩
      first
        | (have hz : e = 16 := h36
           obtain ⟨e1, e2⟩ := hE _ _ (fdR_hit hF (f1 hz) (by decide) (by omega))
           rw [e1, e2]
           refine ⟨_, rfl, ⟨zeroC, ?_, fun q hq9 => by cases hq9⟩, hw⟩
           rw [hz]
           rfl)
        | (have he0 : e = 0 := h40
           obtain ⟨e1, e2⟩ := hE _ _ (fdR_hit hF (f5 p he0 hpc hb54 hb60) (fun x => by cases x.2) (by omega))
           rw [e1, e2]
           exact ⟨_, rfl, ⟨p, rfl, fun q hq9 => by injection hq9⟩, hw⟩)
        | (have hkd : k = s.dn := by omega
           subst hkd
           obtain ⟨e1, e2⟩ := hE _ _ hF
           rw [e1, e2]
           exact ⟨_, rfl, ⟨zeroC, rfl, fun q hq9 => by cases hq9⟩, hw⟩)
    ·
      refine WL.nil (WX.then_normal (WC.cond_false rfl (WC.skip (WX.then_normal (WC.seq (WC.seq (WC.region (?_))))))))
      refine WL.move rfl rfl (?_)
      refine WL.neq? rfl rfl rfl (fun h40 => ?_) (fun h40 => ?_)
      ·
        refine WL.nil (WX.then_normal (WC.cond_true rfl (WC.exit (WX.then_exit (WX.block_here (WX.then_normal (WC.region (?_))))))))
        refine WL.add64 rfl rfl (by omega) rfl (WL.move rfl rfl (WL.nil (?_)))
        have hs : stF s l.f l.b n (k : Nat) = (0, none) := by
          first
            | (have he0 : e ≠ 0 := h40
               exact f2 h36 he0)
            | (have he0 : e = 0 := h40
               first
                 | exact f3 he0 hpc
                 | exact f4 p he0 hpc (fun x => by first | exact hb54 x.1 | exact hb60 x.2))
        exact WX.loop_next (k + 1) ⟨rfl, rfl, rfl, rfl, rfl, trivial⟩ ⟨by omega, (fdR_go hF).trans hs, hb_1, h, hL, hw⟩ (by show _ - _ < _ - _; omega)
      ·
        refine WL.nil (WX.then_normal (WC.cond_false rfl (WC.skip (WX.then_normal (WC.seq (WC.region (WL.move rfl rfl (?_))))))))
        have he0 : e = 0 := h40
        have hxl : r.xs.length = 128 := by rw [hx he0]; exact heldS_len h.ok _
        have hq2 := hq.rsl.old
        refine WL.call eg_73 rfl rfl (parse_calls hq2 (by omega)) ?_
        rintro v w6 ⟨⟨p, rfl, hp⟩, k6⟩
        have zs_k6 := k6.size
        replace hb_1 := hb_1.pure k6
        replace h := h.pure k6
        replace hL := hL.pure k6
        replace hw := hw.pure k6
        replace hq := hq.pure k6
        cases hpc : pcD r.xs
        ·
          refine WL.move rfl rfl (WL.extract rfl rfl rfl (WL.extract rfl rfl rfl (?_)))
          refine WL.alloc Tryd.zeroValue108 rfl ?_
          intro g_21 w_21 hge_21 hlt_21 hb_21 k_21
          have zs_k_21 := k_21.size
          replace hb_1 := hb_1.pure k_21
          replace h := h.pure k_21
          replace hL := hL.pure k_21
          replace hw := hw.pure k_21
          replace hq := hq.pure k_21
          refine WL.stores Tryd.sizeOf108 hb_21 rfl rfl (by rfl) (by exact Enc.one _ _) (by exact Nat.le_of_ble_eq_true rfl) rfl ?_
          intro w_22 hs_22 hn_22 k_22
          have zs_k_22 := k_22.size
          replace hb_1 := hb_1.chg k_22 (by intro h1; have h2 : _ = _ := h1; exfalso; omega)
          replace h := h.chg k_22 (by intro b h1 h2 h3; have h4 : _ = _ := h3; (try dsimp only at h2); exfalso; omega)
          replace hL := hL.chg k_22 (by intro h1; have h2 : _ = _ := h1; exfalso; omega)
          replace hw := hw.chg k_22 (by intro x h1 h2; have h3 : _ = _ := h2; exfalso; omega)
          replace hq := hq.chg k_22 (by intro b h1 h2 h3; have h4 : _ = _ := h3; (try dsimp only at h2); exfalso; omega)
          replace hb_21 := hn_22
          refine WL.assign rfl rfl (WL.nil (WX.then_normal (WC.seq (?_))))
          have hb10 := Blk.eqc (cs' := epc.f p) hb_21 rfl
          refine WC.draw (Nob) [0, 1, 2, 3, 4, 5, 6, 7, 8, 9, 10, 11, 12, 13, 14, 15] [] mixed rfl rfl (fun wd_23 kd_23 zd_23 => ?_)
          have zs_kd_23 := kd_23.size
          replace hb_1 := hb_1.pure kd_23
          replace h := h.pure kd_23
          replace hL := hL.pure kd_23
          replace hw := hw.pure kd_23
          replace hq := hq.pure kd_23
          replace hb10 := hb10.pure kd_23
          apply DQ.step (E' := [(11, _)])
          case ho => rfl
          case hs => exact ⟨rfl, trivial⟩
          case hk => rfl
          case h1 =>
            intro wq_24 kq_24
            refine WL.move rfl rfl (?_)
            refine WL.nil ?_
            exact WX.one ⟨rfl, by exact Chg.refl _ _⟩
          apply DQ.step (E' := [(46, _)])
          case ho => rfl
          case hs => exact ⟨rfl, trivial⟩
          case hk => rfl
          case h1 =>
            intro wq_25 kq_25
            refine WL.move rfl rfl (?_)
            refine WL.nil ?_
            exact WX.one ⟨rfl, by exact Chg.refl _ _⟩
          apply DQ.step (E' := [(10, _), (47, _)])
          case ho => rfl
          case hs => exact ⟨rfl, rfl, trivial⟩
          case hk => rfl
          case h1 =>
            intro wq_26 kq_26
            refine WL.pass rfl rfl rfl rfl (WL.nil (?_))
            exact WX.one ⟨rfl, by exact Chg.refl _ _⟩
          apply DQ.step (E' := [(48, _), (47, _)])
          case ho => rfl
          case hs => exact ⟨rfl, rfl, trivial⟩
          case hk => rfl
          case h1 =>
            intro wq_27 kq_27
            have zs_kq_27 := kq_27.size
            replace hb_1 := hb_1.pure kq_27
            replace h := h.pure kq_27
            replace hL := hL.pure kq_27
            replace hw := hw.pure kq_27
            replace hq := hq.pure kq_27
            replace hb10 := hb10.pure kq_27
            refine WL.pass rfl rfl rfl rfl (WL.nil (?_))
            exact WX.one ⟨rfl, by exact Chg.refl _ _⟩
          apply DQ.step (E' := [(0, _), (47, _)])
          case ho => rfl
          case hs => exact ⟨rfl, rfl, trivial⟩
          case hk => rfl
          case h1 =>
            intro wq_28 kq_28
            refine WL.pass rfl rfl rfl rfl (WL.nil (?_))
            exact WX.one ⟨rfl, by exact Chg.refl _ _⟩
          apply DQ.step (E' := [(50, _), (47, _)])
          case ho => rfl
          case hs => exact ⟨rfl, rfl, trivial⟩
          case hk => rfl
          case h1 =>
            intro wq_29 kq_29
            refine WL.pass rfl rfl rfl rfl (WL.nil (?_))
            exact WX.one ⟨rfl, by exact Chg.refl _ _⟩
          apply DQ.step (E' := [(51, _), (47, _)])
          case ho => rfl
          case hs => exact ⟨rfl, rfl, trivial⟩
          case hk => rfl
          case h1 =>
            intro wq_30 kq_30
            refine WL.pass rfl rfl rfl rfl (WL.nil (?_))
            exact WX.one ⟨rfl, by exact Chg.refl _ _⟩
          apply DQ.step (E' := [(52, _), (47, _)])
          case ho => rfl
          case hs => exact ⟨rfl, rfl, trivial⟩
          case hk => rfl
          case h1 =>
            intro wq_31 kq_31
            have zs_kq_31 := kq_31.size
            replace hb_1 := hb_1.pure kq_31
            replace h := h.pure kq_31
            replace hL := hL.pure kq_31
            replace hw := hw.pure kq_31
            replace hq := hq.pure kq_31
            replace hb10 := hb10.pure kq_31
            refine WL.pass rfl rfl rfl rfl (WL.nil (?_))
            exact WX.one ⟨rfl, by exact Chg.refl _ _⟩
          apply DQ.step (E' := [(49, _), (53, _), (47, _)])
          case ho => rfl
          case hs => exact ⟨rfl, rfl, rfl, trivial⟩
          case hk => rfl
          case h1 =>
            intro wq_32 kq_32
            refine WL.pass rfl rfl rfl rfl (WL.nil (?_))
            exact WX.one ⟨rfl, by exact Chg.refl _ _⟩
          apply DQ.step (E' := [(47, _), (54, _)])
          case ho => rfl
          case hs => exact ⟨rfl, rfl, trivial⟩
          case hk => rfl
          case h1 =>
            intro wq_33 kq_33
            refine WL.pickF rfl rfl rfl (?_)
            refine WL.nil ?_
            exact WX.one ⟨rfl, by exact Chg.refl _ _⟩
          apply DQ.step (E' := [(55, _)])
          case ho => rfl
          case hs => exact ⟨rfl, trivial⟩
          case hk => rfl
          case h1 =>
            intro wq_34 kq_34
            refine WL.move rfl rfl (?_)
            refine WL.nil ?_
            exact WX.one ⟨rfl, by exact Chg.refl _ _⟩
          apply DQ.step (E' := [(10, _), (56, _)])
          case ho => rfl
          case hs => exact ⟨rfl, rfl, trivial⟩
          case hk => rfl
          case h1 =>
            intro wq_35 kq_35
            refine WL.pass rfl rfl rfl rfl (WL.nil (?_))
            exact WX.one ⟨rfl, by exact Chg.refl _ _⟩
          apply DQ.step (E' := [(57, _), (56, _)])
          case ho => rfl
          case hs => exact ⟨rfl, rfl, trivial⟩
          case hk => rfl
          case h1 =>
            intro wq_36 kq_36
            have zs_kq_36 := kq_36.size
            replace hb_1 := hb_1.pure kq_36
            replace h := h.pure kq_36
            replace hL := hL.pure kq_36
            replace hw := hw.pure kq_36
            replace hq := hq.pure kq_36
            replace hb10 := hb10.pure kq_36
            refine WL.pass rfl rfl rfl rfl (WL.nil (?_))
            exact WX.one ⟨rfl, by exact Chg.refl _ _⟩
          apply DQ.step (E' := [(1, _), (56, _)])
          case ho => rfl
          case hs => exact ⟨rfl, rfl, trivial⟩
          case hk => rfl
          case h1 =>
            intro wq_37 kq_37
            refine WL.pass rfl rfl rfl rfl (WL.nil (?_))
            exact WX.one ⟨rfl, by exact Chg.refl _ _⟩
          apply DQ.step (E' := [(58, _), (59, _), (56, _)])
          case ho => rfl
          case hs => exact ⟨rfl, rfl, rfl, trivial⟩
          case hk => rfl
          case h1 =>
            intro wq_38 kq_38
            refine WL.pass rfl rfl rfl rfl (WL.nil (?_))
            exact WX.one ⟨rfl, by exact Chg.refl _ _⟩
          apply DQ.step (E' := [(56, _), (60, _)])
          case ho => rfl
          case hs => exact ⟨rfl, rfl, trivial⟩
          case hk => rfl
          case h1 =>
            intro wq_39 kq_39
            refine WL.pickF rfl rfl rfl (?_)
            refine WL.nil ?_
            exact WX.one ⟨rfl, by exact Chg.refl _ _⟩
          refine DQ.done (fun _ => ?_)
          refine DL.done (fun we_40 ke_40 => ?_)
          have zs_ke_40 := ke_40.size
          replace hb_1 := hb_1.pure ke_40
          replace h := h.pure ke_40
          replace hL := hL.pure ke_40
          replace hw := hw.pure ke_40
          replace hq := hq.pure ke_40
          replace hb10 := hb10.pure ke_40
          refine WX.then_normal (WC.cond_false rfl (WC.skip (WX.block_normal (WX.then_normal (WC.region (WL.add64 rfl rfl (by omega) rfl (WL.move rfl rfl (?_))))))))
          refine WL.nil (?_)
          have hs : stF s l.f l.b n (k : Nat) = (0, none) := by
            first
              | (have he0 : e ≠ 0 := h40
                 exact f2 h36 he0)
              | (have he0 : e = 0 := h40
                 first
                   | exact f3 he0 hpc
                   | exact f4 p he0 hpc (fun x => by first | exact hb54 x.1 | exact hb60 x.2))
          exact WX.loop_next (k + 1) ⟨rfl, rfl, rfl, rfl, rfl, trivial⟩ ⟨by omega, (fdR_go hF).trans hs, hb_1, h, hL, hw⟩ (by show _ - _ < _ - _; omega)
        ·
          rename_i q
          obtain rfl := hp q hpc
          by_cases hb54 : p.base = l.b
          ·
            by_cases hb60 : p.num = n
            ·
              refine WL.move rfl rfl (WL.extract rfl rfl rfl (WL.extract rfl rfl rfl (?_)))
              refine WL.alloc Tryd.zeroValue108 rfl ?_
              intro g_21 w_21 hge_21 hlt_21 hb_21 k_21
              have zs_k_21 := k_21.size
              replace hb_1 := hb_1.pure k_21
              replace h := h.pure k_21
              replace hL := hL.pure k_21
              replace hw := hw.pure k_21
              replace hq := hq.pure k_21
              refine WL.stores Tryd.sizeOf108 hb_21 rfl rfl (by rfl) (by exact Enc.one _ _) (by exact Nat.le_of_ble_eq_true rfl) rfl ?_
              intro w_22 hs_22 hn_22 k_22
              have zs_k_22 := k_22.size
              replace hb_1 := hb_1.chg k_22 (by intro h1; have h2 : _ = _ := h1; exfalso; omega)
              replace h := h.chg k_22 (by intro b h1 h2 h3; have h4 : _ = _ := h3; (try dsimp only at h2); exfalso; omega)
              replace hL := hL.chg k_22 (by intro h1; have h2 : _ = _ := h1; exfalso; omega)
              replace hw := hw.chg k_22 (by intro x h1 h2; have h3 : _ = _ := h2; exfalso; omega)
              replace hq := hq.chg k_22 (by intro b h1 h2 h3; have h4 : _ = _ := h3; (try dsimp only at h2); exfalso; omega)
              replace hb_21 := hn_22
              refine WL.assign rfl rfl (WL.nil (WX.then_normal (WC.seq (?_))))
              have hb10 := Blk.eqc (cs' := epc.f p) hb_21 rfl
              refine WC.draw (Nob) [0, 1, 2, 3, 4, 5, 6, 7, 8, 9, 10, 11, 12, 13, 14, 15] [] mixed rfl rfl (fun wd_23 kd_23 zd_23 => ?_)
              have zs_kd_23 := kd_23.size
              replace hb_1 := hb_1.pure kd_23
              replace h := h.pure kd_23
              replace hL := hL.pure kd_23
              replace hw := hw.pure kd_23
              replace hq := hq.pure kd_23
              replace hb10 := hb10.pure kd_23
              apply DQ.step (E' := [(11, _)])
              case ho => rfl
              case hs => exact ⟨rfl, trivial⟩
              case hk => rfl
              case h1 =>
                intro wq_24 kq_24
                refine WL.move rfl rfl (?_)
                refine WL.nil ?_
                exact WX.one ⟨rfl, by exact Chg.refl _ _⟩
              apply DQ.step (E' := [(46, _)])
              case ho => rfl
              case hs => exact ⟨rfl, trivial⟩
              case hk => rfl
              case h1 =>
                intro wq_25 kq_25
                refine WL.move rfl rfl (?_)
                refine WL.nil ?_
                exact WX.one ⟨rfl, by exact Chg.refl _ _⟩
              apply DQ.step (E' := [(10, _), (47, _)])
              case ho => rfl
              case hs => exact ⟨rfl, rfl, trivial⟩
              case hk => rfl
              case h1 =>
                intro wq_26 kq_26
                refine WL.want rfl rfl rfl (WL.fieldAddr (fld_108_0) rfl rfl (?_))
                refine WL.nil ?_
                exact WX.one ⟨rfl, by exact Chg.refl _ _⟩
              apply DQ.step (E' := [(48, _), (47, _)])
              case ho => rfl
              case hs => exact ⟨rfl, rfl, trivial⟩
              case hk => rfl
              case h1 =>
                intro wq_27 kq_27
                have zs_kq_27 := kq_27.size
                replace hb_1 := hb_1.pure kq_27
                replace h := h.pure kq_27
                replace hL := hL.pure kq_27
                replace hw := hw.pure kq_27
                replace hq := hq.pure kq_27
                replace hb10 := hb10.pure kq_27
                refine WL.want rfl rfl rfl (WL.loadB Tryd.isAgg3 hb10 rfl rfl rfl (?_))
                refine WL.nil ?_
                exact WX.one ⟨rfl, by exact Chg.refl _ _⟩
              apply DQ.step (E' := [(0, _), (47, _)])
              case ho => rfl
              case hs => exact ⟨rfl, rfl, trivial⟩
              case hk => rfl
              case h1 =>
                intro wq_28 kq_28
                refine WL.want rfl rfl rfl (WL.move rfl rfl (?_))
                refine WL.nil ?_
                exact WX.one ⟨rfl, by exact Chg.refl _ _⟩
              apply DQ.step (E' := [(50, _), (47, _)])
              case ho => rfl
              case hs => exact ⟨rfl, rfl, trivial⟩
              case hk => rfl
              case h1 =>
                intro wq_29 kq_29
                refine WL.want rfl rfl rfl (WL.nilCheck rfl rfl (?_))
                refine WL.nil ?_
                exact WX.one ⟨rfl, by exact Chg.refl _ _⟩
              apply DQ.step (E' := [(51, _), (47, _)])
              case ho => rfl
              case hs => exact ⟨rfl, rfl, trivial⟩
              case hk => rfl
              case h1 =>
                intro wq_30 kq_30
                refine WL.want rfl rfl rfl (WL.fieldAddr (fld_103_3) rfl rfl (?_))
                refine WL.nil ?_
                exact WX.one ⟨rfl, by exact Chg.refl _ _⟩
              apply DQ.step (E' := [(52, _), (47, _)])
              case ho => rfl
              case hs => exact ⟨rfl, rfl, trivial⟩
              case hk => rfl
              case h1 =>
                intro wq_31 kq_31
                have zs_kq_31 := kq_31.size
                replace hb_1 := hb_1.pure kq_31
                replace h := h.pure kq_31
                replace hL := hL.pure kq_31
                replace hw := hw.pure kq_31
                replace hq := hq.pure kq_31
                replace hb10 := hb10.pure kq_31
                refine WL.want rfl rfl rfl (WL.loadB Tryd.isAgg3 hL rfl rfl rfl (?_))
                refine WL.nil ?_
                exact WX.one ⟨rfl, by exact Chg.refl _ _⟩
              apply DQ.step (E' := [(49, _), (53, _), (47, _)])
              case ho => rfl
              case hs => exact ⟨rfl, rfl, rfl, trivial⟩
              case hk => rfl
              case h1 =>
                intro wq_32 kq_32
                refine WL.want rfl rfl rfl (?_)
                refine WL.eqlT rfl rfl rfl (hb54) ?_
                refine WL.nil ?_
                exact WX.one ⟨rfl, by exact Chg.refl _ _⟩
              apply DQ.step (E' := [(47, _), (54, _)])
              case ho => rfl
              case hs => exact ⟨rfl, rfl, trivial⟩
              case hk => rfl
              case h1 =>
                intro wq_33 kq_33
                refine WL.pickT rfl rfl rfl (?_)
                refine WL.nil ?_
                exact WX.one ⟨rfl, by exact Chg.refl _ _⟩
              apply DQ.step (E' := [(55, _)])
              case ho => rfl
              case hs => exact ⟨rfl, trivial⟩
              case hk => rfl
              case h1 =>
                intro wq_34 kq_34
                refine WL.move rfl rfl (?_)
                refine WL.nil ?_
                exact WX.one ⟨rfl, by exact Chg.refl _ _⟩
              apply DQ.step (E' := [(10, _), (56, _)])
              case ho => rfl
              case hs => exact ⟨rfl, rfl, trivial⟩
              case hk => rfl
              case h1 =>
                intro wq_35 kq_35
                refine WL.want rfl rfl rfl (WL.fieldAddr (fld_108_1) rfl rfl (?_))
                refine WL.nil ?_
                exact WX.one ⟨rfl, by exact Chg.refl _ _⟩
              apply DQ.step (E' := [(57, _), (56, _)])
              case ho => rfl
              case hs => exact ⟨rfl, rfl, trivial⟩
              case hk => rfl
              case h1 =>
                intro wq_36 kq_36
                have zs_kq_36 := kq_36.size
                replace hb_1 := hb_1.pure kq_36
                replace h := h.pure kq_36
                replace hL := hL.pure kq_36
                replace hw := hw.pure kq_36
                replace hq := hq.pure kq_36
                replace hb10 := hb10.pure kq_36
                refine WL.want rfl rfl rfl (WL.loadB Tryd.isAgg3 hb10 rfl rfl rfl (?_))
                refine WL.nil ?_
                exact WX.one ⟨rfl, by exact Chg.refl _ _⟩
              apply DQ.step (E' := [(1, _), (56, _)])
              case ho => rfl
              case hs => exact ⟨rfl, rfl, trivial⟩
              case hk => rfl
              case h1 =>
                intro wq_37 kq_37
                refine WL.want rfl rfl rfl (WL.move rfl rfl (?_))
                refine WL.nil ?_
                exact WX.one ⟨rfl, by exact Chg.refl _ _⟩
              apply DQ.step (E' := [(58, _), (59, _), (56, _)])
              case ho => rfl
              case hs => exact ⟨rfl, rfl, rfl, trivial⟩
              case hk => rfl
              case h1 =>
                intro wq_38 kq_38
                refine WL.want rfl rfl rfl (?_)
                refine WL.eqlT rfl rfl rfl (hb60) ?_
                refine WL.nil ?_
                exact WX.one ⟨rfl, by exact Chg.refl _ _⟩
              apply DQ.step (E' := [(56, _), (60, _)])
              case ho => rfl
              case hs => exact ⟨rfl, rfl, trivial⟩
              case hk => rfl
              case h1 =>
                intro wq_39 kq_39
                refine WL.pickT rfl rfl rfl (?_)
                refine WL.nil ?_
                exact WX.one ⟨rfl, by exact Chg.refl _ _⟩
              refine DQ.done (fun _ => ?_)
              refine DL.done (fun we_40 ke_40 => ?_)
              have zs_ke_40 := ke_40.size
              replace hb_1 := hb_1.pure ke_40
              replace h := h.pure ke_40
              replace hL := hL.pure ke_40
              replace hw := hw.pure ke_40
              replace hq := hq.pure ke_40
              replace hb10 := hb10.pure ke_40
              refine WX.then_normal (WC.cond_true rfl (WC.seq (WC.region (WL.loadsB Tryd.isAgg108 Tryd.sizeOf108 hb10 rfl (by rfl) rfl (?_)))))
              refine WL.stores Tryd.sizeOf108 hb_1 rfl rfl (by rfl) (by exact Enc.one _ _) (by exact Nat.le_of_ble_eq_true rfl) rfl ?_
              intro w_41 hs_41 hn_41 k_41
              have zs_k_41 := k_41.size
              replace h := h.chg k_41 (by intro b h1 h2 h3; have h4 : _ = _ := h3; (try dsimp only at h2); exfalso; omega)
              replace hL := hL.chg k_41 (by intro h1; have h2 : _ = _ := h1; exfalso; omega)
              replace hw := hw.chg k_41 (by intro x h1 h2; have h3 : _ = _ := h2; exfalso; omega)
              replace hq := hq.chg k_41 (by intro b h1 h2 h3; have h4 : _ = _ := h3; (try dsimp only at h2); exfalso; omega)
              replace hb10 := hb10.chg k_41 (by intro h1; have h2 : _ = _ := h1; exfalso; omega)
              replace hb_1 := hn_41
              refine WL.assign rfl rfl (WL.assign rfl rfl (WL.nil (WX.then_normal (WC.ret (WX.block_ret (WX.then_ret (WX.then_ret (?_))))))))
              refine WX.block_ret (WX.then_ret (?_))
              refine WX.ret3c (.inl rfl) Tryd.results54 Tryd.isAgg108 Tryd.sizeOf108 hb_1 rfl (by rfl) rfl rfl ?_
              have hE : ∀ e' p', fdR s l.f l.b n s.dn = (e', p') → findE s l.f l.b n = e' ∧ findP s l.f l.b n = p' := fun e' p' h9 => by rw [findE, findP, h9]; exact ⟨rfl, rfl⟩
              first
                | (have hz : e = 16 := h36
                   obtain ⟨e1, e2⟩ := hE _ _ (fdR_hit hF (f1 hz) (by decide) (by omega))
                   rw [e1, e2]
                   refine ⟨_, rfl, ⟨zeroC, ?_, fun q hq9 => by cases hq9⟩, hw⟩
                   rw [hz]
                   rfl)
                | (have he0 : e = 0 := h40
                   obtain ⟨e1, e2⟩ := hE _ _ (fdR_hit hF (f5 p he0 hpc hb54 hb60) (fun x => by cases x.2) (by omega))
                   rw [e1, e2]
                   exact ⟨_, rfl, ⟨p, rfl, fun q hq9 => by injection hq9⟩, hw⟩)
                | (have hkd : k = s.dn := by omega
                   subst hkd
                   obtain ⟨e1, e2⟩ := hE _ _ hF
                   rw [e1, e2]
                   exact ⟨_, rfl, ⟨zeroC, rfl, fun q hq9 => by cases hq9⟩, hw⟩)
            ·
              refine WL.move rfl rfl (WL.extract rfl rfl rfl (WL.extract rfl rfl rfl (?_)))
              refine WL.alloc Tryd.zeroValue108 rfl ?_
              intro g_21 w_21 hge_21 hlt_21 hb_21 k_21
              have zs_k_21 := k_21.size
              replace hb_1 := hb_1.pure k_21
              replace h := h.pure k_21
              replace hL := hL.pure k_21
              replace hw := hw.pure k_21
              replace hq := hq.pure k_21
              refine WL.stores Tryd.sizeOf108 hb_21 rfl rfl (by rfl) (by exact Enc.one _ _) (by exact Nat.le_of_ble_eq_true rfl) rfl ?_
              intro w_22 hs_22 hn_22 k_22
              have zs_k_22 := k_22.size
              replace hb_1 := hb_1.chg k_22 (by intro h1; have h2 : _ = _ := h1; exfalso; omega)
              replace h := h.chg k_22 (by intro b h1 h2 h3; have h4 : _ = _ := h3; (try dsimp only at h2); exfalso; omega)
              replace hL := hL.chg k_22 (by intro h1; have h2 : _ = _ := h1; exfalso; omega)
              replace hw := hw.chg k_22 (by intro x h1 h2; have h3 : _ = _ := h2; exfalso; omega)
              replace hq := hq.chg k_22 (by intro b h1 h2 h3; have h4 : _ = _ := h3; (try dsimp only at h2); exfalso; omega)
              replace hb_21 := hn_22
              refine WL.assign rfl rfl (WL.nil (WX.then_normal (WC.seq (?_))))
              have hb10 := Blk.eqc (cs' := epc.f p) hb_21 rfl
              refine WC.draw (Nob) [0, 1, 2, 3, 4, 5, 6, 7, 8, 9, 10, 11, 12, 13, 14, 15] [] mixed rfl rfl (fun wd_23 kd_23 zd_23 => ?_)
              have zs_kd_23 := kd_23.size
              replace hb_1 := hb_1.pure kd_23
              replace h := h.pure kd_23
              replace hL := hL.pure kd_23
              replace hw := hw.pure kd_23
              replace hq := hq.pure kd_23
              replace hb10 := hb10.pure kd_23
              apply DQ.step (E' := [(11, _)])
              case ho => rfl
              case hs => exact ⟨rfl, trivial⟩
              case hk => rfl
              case h1 =>
                intro wq_24 kq_24
                refine WL.move rfl rfl (?_)
                refine WL.nil ?_
                exact WX.one ⟨rfl, by exact Chg.refl _ _⟩
              apply DQ.step (E' := [(46, _)])
              case ho => rfl
              case hs => exact ⟨rfl, trivial⟩
              case hk => rfl
              case h1 =>
                intro wq_25 kq_25
                refine WL.move rfl rfl (?_)
                refine WL.nil ?_
                exact WX.one ⟨rfl, by exact Chg.refl _ _⟩
              apply DQ.step (E' := [(10, _), (47, _)])
              case ho => rfl
              case hs => exact ⟨rfl, rfl, trivial⟩
              case hk => rfl
              case h1 =>
                intro wq_26 kq_26
                refine WL.want rfl rfl rfl (WL.fieldAddr (fld_108_0) rfl rfl (?_))
                refine WL.nil ?_
                exact WX.one ⟨rfl, by exact Chg.refl _ _⟩
              apply DQ.step (E' := [(48, _), (47, _)])
              case ho => rfl
              case hs => exact ⟨rfl, rfl, trivial⟩
              case hk => rfl
              case h1 =>
                intro wq_27 kq_27
                have zs_kq_27 := kq_27.size
                replace hb_1 := hb_1.pure kq_27
                replace h := h.pure kq_27
                replace hL := hL.pure kq_27
                replace hw := hw.pure kq_27
                replace hq := hq.pure kq_27
                replace hb10 := hb10.pure kq_27
                refine WL.want rfl rfl rfl (WL.loadB Tryd.isAgg3 hb10 rfl rfl rfl (?_))
                refine WL.nil ?_
                exact WX.one ⟨rfl, by exact Chg.refl _ _⟩
              apply DQ.step (E' := [(0, _), (47, _)])
              case ho => rfl
              case hs => exact ⟨rfl, rfl, trivial⟩
              case hk => rfl
              case h1 =>
                intro wq_28 kq_28
                refine WL.want rfl rfl rfl (WL.move rfl rfl (?_))
                refine WL.nil ?_
                exact WX.one ⟨rfl, by exact Chg.refl _ _⟩
              apply DQ.step (E' := [(50, _), (47, _)])
              case ho => rfl
              case hs => exact ⟨rfl, rfl, trivial⟩
              case hk => rfl
              case h1 =>
                intro wq_29 kq_29
                refine WL.want rfl rfl rfl (WL.nilCheck rfl rfl (?_))
                refine WL.nil ?_
                exact WX.one ⟨rfl, by exact Chg.refl _ _⟩
              apply DQ.step (E' := [(51, _), (47, _)])
              case ho => rfl
              case hs => exact ⟨rfl, rfl, trivial⟩
              case hk => rfl
              case h1 =>
                intro wq_30 kq_30
                refine WL.want rfl rfl rfl (WL.fieldAddr (fld_103_3) rfl rfl (?_))
                refine WL.nil ?_
                exact WX.one ⟨rfl, by exact Chg.refl _ _⟩
              apply DQ.step (E' := [(52, _), (47, _)])
              case ho => rfl
              case hs => exact ⟨rfl, rfl, trivial⟩
              case hk => rfl
              case h1 =>
                intro wq_31 kq_31
                have zs_kq_31 := kq_31.size
                replace hb_1 := hb_1.pure kq_31
                replace h := h.pure kq_31
                replace hL := hL.pure kq_31
                replace hw := hw.pure kq_31
                replace hq := hq.pure kq_31
                replace hb10 := hb10.pure kq_31
                refine WL.want rfl rfl rfl (WL.loadB Tryd.isAgg3 hL rfl rfl rfl (?_))
                refine WL.nil ?_
                exact WX.one ⟨rfl, by exact Chg.refl _ _⟩
              apply DQ.step (E' := [(49, _), (53, _), (47, _)])
              case ho => rfl
              case hs => exact ⟨rfl, rfl, rfl, trivial⟩
              case hk => rfl
              case h1 =>
                intro wq_32 kq_32
                refine WL.want rfl rfl rfl (?_)
                refine WL.eqlT rfl rfl rfl (hb54) ?_
                refine WL.nil ?_
                exact WX.one ⟨rfl, by exact Chg.refl _ _⟩
              apply DQ.step (E' := [(47, _), (54, _)])
              case ho => rfl
              case hs => exact ⟨rfl, rfl, trivial⟩
              case hk => rfl
              case h1 =>
                intro wq_33 kq_33
                refine WL.pickT rfl rfl rfl (?_)
                refine WL.nil ?_
                exact WX.one ⟨rfl, by exact Chg.refl _ _⟩
              apply DQ.step (E' := [(55, _)])
              case ho => rfl
              case hs => exact ⟨rfl, trivial⟩
              case hk => rfl
              case h1 =>
                intro wq_34 kq_34
                refine WL.move rfl rfl (?_)
                refine WL.nil ?_
                exact WX.one ⟨rfl, by exact Chg.refl _ _⟩
              apply DQ.step (E' := [(10, _), (56, _)])
              case ho => rfl
              case hs => exact ⟨rfl, rfl, trivial⟩
              case hk => rfl
              case h1 =>
                intro wq_35 kq_35
                refine WL.want rfl rfl rfl (WL.fieldAddr (fld_108_1) rfl rfl (?_))
                refine WL.nil ?_
                exact WX.one ⟨rfl, by exact Chg.refl _ _⟩
              apply DQ.step (E' := [(57, _), (56, _)])
              case ho => rfl
              case hs => exact ⟨rfl, rfl, trivial⟩
              case hk => rfl
              case h1 =>
                intro wq_36 kq_36
                have zs_kq_36 := kq_36.size
                replace hb_1 := hb_1.pure kq_36
                replace h := h.pure kq_36
                replace hL := hL.pure kq_36
                replace hw := hw.pure kq_36
                replace hq := hq.pure kq_36
                replace hb10 := hb10.pure kq_36
                refine WL.want rfl rfl rfl (WL.loadB Tryd.isAgg3 hb10 rfl rfl rfl (?_))
                refine WL.nil ?_
                exact WX.one ⟨rfl, by exact Chg.refl _ _⟩
              apply DQ.step (E' := [(1, _), (56, _)])
              case ho => rfl
              case hs => exact ⟨rfl, rfl, trivial⟩
              case hk => rfl
              case h1 =>
                intro wq_37 kq_37
                refine WL.want rfl rfl rfl (WL.move rfl rfl (?_))
                refine WL.nil ?_
                exact WX.one ⟨rfl, by exact Chg.refl _ _⟩
              apply DQ.step (E' := [(58, _), (59, _), (56, _)])
              case ho => rfl
              case hs => exact ⟨rfl, rfl, rfl, trivial⟩
              case hk => rfl
              case h1 =>
                intro wq_38 kq_38
                refine WL.want rfl rfl rfl (?_)
                refine WL.eqlF rfl rfl rfl (hb60) ?_
                refine WL.nil ?_
                exact WX.one ⟨rfl, by exact Chg.refl _ _⟩
              apply DQ.step (E' := [(56, _), (60, _)])
              case ho => rfl
              case hs => exact ⟨rfl, rfl, trivial⟩
              case hk => rfl
              case h1 =>
                intro wq_39 kq_39
                refine WL.pickT rfl rfl rfl (?_)
                refine WL.nil ?_
                exact WX.one ⟨rfl, by exact Chg.refl _ _⟩
              refine DQ.done (fun _ => ?_)
              refine DL.done (fun we_40 ke_40 => ?_)
              have zs_ke_40 := ke_40.size
              replace hb_1 := hb_1.pure ke_40
              replace h := h.pure ke_40
              replace hL := hL.pure ke_40
              replace hw := hw.pure ke_40
              replace hq := hq.pure ke_40
              replace hb10 := hb10.pure ke_40
              refine WX.then_normal (WC.cond_false rfl (WC.skip (WX.block_normal (WX.then_normal (WC.region (WL.add64 rfl rfl (by omega) rfl (WL.move rfl rfl (?_))))))))
              refine WL.nil (?_)
              have hs : stF s l.f l.b n (k : Nat) = (0, none) := by
                first
                  | (have he0 : e ≠ 0 := h40
                     exact f2 h36 he0)
                  | (have he0 : e = 0 := h40
                     first
                       | exact f3 he0 hpc
                       | exact f4 p he0 hpc (fun x => by exact hb60 x.2))
              exact WX.loop_next (k + 1) ⟨rfl, rfl, rfl, rfl, rfl, trivial⟩ ⟨by omega, (fdR_go hF).trans hs, hb_1, h, hL, hw⟩ (by show _ - _ < _ - _; omega)
          ·
            refine WL.move rfl rfl (WL.extract rfl rfl rfl (WL.extract rfl rfl rfl (?_)))
            refine WL.alloc Tryd.zeroValue108 rfl ?_
            intro g_21 w_21 hge_21 hlt_21 hb_21 k_21
            have zs_k_21 := k_21.size
            replace hb_1 := hb_1.pure k_21
            replace h := h.pure k_21
            replace hL := hL.pure k_21
            replace hw := hw.pure k_21
            replace hq := hq.pure k_21
            refine WL.stores Tryd.sizeOf108 hb_21 rfl rfl (by rfl) (by exact Enc.one _ _) (by exact Nat.le_of_ble_eq_true rfl) rfl ?_
            intro w_22 hs_22 hn_22 k_22
            have zs_k_22 := k_22.size
            replace hb_1 := hb_1.chg k_22 (by intro h1; have h2 : _ = _ := h1; exfalso; omega)
            replace h := h.chg k_22 (by intro b h1 h2 h3; have h4 : _ = _ := h3; (try dsimp only at h2); exfalso; omega)
            replace hL := hL.chg k_22 (by intro h1; have h2 : _ = _ := h1; exfalso; omega)
            replace hw := hw.chg k_22 (by intro x h1 h2; have h3 : _ = _ := h2; exfalso; omega)
            replace hq := hq.chg k_22 (by intro b h1 h2 h3; have h4 : _ = _ := h3; (try dsimp only at h2); exfalso; omega)
            replace hb_21 := hn_22
            refine WL.assign rfl rfl (WL.nil (WX.then_normal (WC.seq (?_))))
            have hb10 := Blk.eqc (cs' := epc.f p) hb_21 rfl
            refine WC.draw (Nob) [0, 1, 2, 3, 4, 5, 6, 7, 8, 9, 10, 11, 12, 13, 14, 15] [] mixed rfl rfl (fun wd_23 kd_23 zd_23 => ?_)
            have zs_kd_23 := kd_23.size
            replace hb_1 := hb_1.pure kd_23
            replace h := h.pure kd_23
            replace hL := hL.pure kd_23
            replace hw := hw.pure kd_23
            replace hq := hq.pure kd_23
            replace hb10 := hb10.pure kd_23
            apply DQ.step (E' := [(11, _)])
            case ho => rfl
            case hs => exact ⟨rfl, trivial⟩
            case hk => rfl
            case h1 =>
              intro wq_24 kq_24
              refine WL.move rfl rfl (?_)
              refine WL.nil ?_
              exact WX.one ⟨rfl, by exact Chg.refl _ _⟩
            apply DQ.step (E' := [(46, _)])
            case ho => rfl
            case hs => exact ⟨rfl, trivial⟩
            case hk => rfl
            case h1 =>
              intro wq_25 kq_25
              refine WL.move rfl rfl (?_)
              refine WL.nil ?_
              exact WX.one ⟨rfl, by exact Chg.refl _ _⟩
            apply DQ.step (E' := [(10, _), (47, _)])
            case ho => rfl
            case hs => exact ⟨rfl, rfl, trivial⟩
            case hk => rfl
            case h1 =>
              intro wq_26 kq_26
              refine WL.want rfl rfl rfl (WL.fieldAddr (fld_108_0) rfl rfl (?_))
              refine WL.nil ?_
              exact WX.one ⟨rfl, by exact Chg.refl _ _⟩
            apply DQ.step (E' := [(48, _), (47, _)])
            case ho => rfl
            case hs => exact ⟨rfl, rfl, trivial⟩
            case hk => rfl
            case h1 =>
              intro wq_27 kq_27
              have zs_kq_27 := kq_27.size
              replace hb_1 := hb_1.pure kq_27
              replace h := h.pure kq_27
              replace hL := hL.pure kq_27
              replace hw := hw.pure kq_27
              replace hq := hq.pure kq_27
              replace hb10 := hb10.pure kq_27
              refine WL.want rfl rfl rfl (WL.loadB Tryd.isAgg3 hb10 rfl rfl rfl (?_))
              refine WL.nil ?_
              exact WX.one ⟨rfl, by exact Chg.refl _ _⟩
            apply DQ.step (E' := [(0, _), (47, _)])
            case ho => rfl
            case hs => exact ⟨rfl, rfl, trivial⟩
            case hk => rfl
            case h1 =>
              intro wq_28 kq_28
              refine WL.want rfl rfl rfl (WL.move rfl rfl (?_))
              refine WL.nil ?_
              exact WX.one ⟨rfl, by exact Chg.refl _ _⟩
            apply DQ.step (E' := [(50, _), (47, _)])
            case ho => rfl
            case hs => exact ⟨rfl, rfl, trivial⟩
            case hk => rfl
            case h1 =>
              intro wq_29 kq_29
              refine WL.want rfl rfl rfl (WL.nilCheck rfl rfl (?_))
              refine WL.nil ?_
              exact WX.one ⟨rfl, by exact Chg.refl _ _⟩
            apply DQ.step (E' := [(51, _), (47, _)])
            case ho => rfl
            case hs => exact ⟨rfl, rfl, trivial⟩
            case hk => rfl
            case h1 =>
              intro wq_30 kq_30
              refine WL.want rfl rfl rfl (WL.fieldAddr (fld_103_3) rfl rfl (?_))
              refine WL.nil ?_
              exact WX.one ⟨rfl, by exact Chg.refl _ _⟩
            apply DQ.step (E' := [(52, _), (47, _)])
            case ho => rfl
            case hs => exact ⟨rfl, rfl, trivial⟩
            case hk => rfl
            case h1 =>
              intro wq_31 kq_31
              have zs_kq_31 := kq_31.size
              replace hb_1 := hb_1.pure kq_31
              replace h := h.pure kq_31
              replace hL := hL.pure kq_31
              replace hw := hw.pure kq_31
              replace hq := hq.pure kq_31
              replace hb10 := hb10.pure kq_31
              refine WL.want rfl rfl rfl (WL.loadB Tryd.isAgg3 hL rfl rfl rfl (?_))
              refine WL.nil ?_
              exact WX.one ⟨rfl, by exact Chg.refl _ _⟩
            apply DQ.step (E' := [(49, _), (53, _), (47, _)])
            case ho => rfl
            case hs => exact ⟨rfl, rfl, rfl, trivial⟩
            case hk => rfl
            case h1 =>
              intro wq_32 kq_32
              refine WL.want rfl rfl rfl (?_)
              refine WL.eqlF rfl rfl rfl (hb54) ?_
              refine WL.nil ?_
              exact WX.one ⟨rfl, by exact Chg.refl _ _⟩
            apply DQ.step (E' := [(47, _), (54, _)])
            case ho => rfl
            case hs => exact ⟨rfl, rfl, trivial⟩
            case hk => rfl
            case h1 =>
              intro wq_33 kq_33
              refine WL.pickT rfl rfl rfl (?_)
              refine WL.nil ?_
              exact WX.one ⟨rfl, by exact Chg.refl _ _⟩
            apply DQ.step (E' := [(55, _)])
            case ho => rfl
            case hs => exact ⟨rfl, trivial⟩
            case hk => rfl
            case h1 =>
              intro wq_34 kq_34
              refine WL.move rfl rfl (?_)
              refine WL.nil ?_
              exact WX.one ⟨rfl, by exact Chg.refl _ _⟩
            apply DQ.step (E' := [(10, _), (56, _)])
            case ho => rfl
            case hs => exact ⟨rfl, rfl, trivial⟩
            case hk => rfl
            case h1 =>
              intro wq_35 kq_35
              refine WL.pass rfl rfl rfl rfl (WL.nil (?_))
              exact WX.one ⟨rfl, by exact Chg.refl _ _⟩
            apply DQ.step (E' := [(57, _), (56, _)])
            case ho => rfl
            case hs => exact ⟨rfl, rfl, trivial⟩
            case hk => rfl
            case h1 =>
              intro wq_36 kq_36
              have zs_kq_36 := kq_36.size
              replace hb_1 := hb_1.pure kq_36
              replace h := h.pure kq_36
              replace hL := hL.pure kq_36
              replace hw := hw.pure kq_36
              replace hq := hq.pure kq_36
              replace hb10 := hb10.pure kq_36
              refine WL.pass rfl rfl rfl rfl (WL.nil (?_))
              exact WX.one ⟨rfl, by exact Chg.refl _ _⟩
            apply DQ.step (E' := [(1, _), (56, _)])
            case ho => rfl
            case hs => exact ⟨rfl, rfl, trivial⟩
            case hk => rfl
            case h1 =>
              intro wq_37 kq_37
              refine WL.pass rfl rfl rfl rfl (WL.nil (?_))
              exact WX.one ⟨rfl, by exact Chg.refl _ _⟩
            apply DQ.step (E' := [(58, _), (59, _), (56, _)])
            case ho => rfl
            case hs => exact ⟨rfl, rfl, rfl, trivial⟩
            case hk => rfl
            case h1 =>
              intro wq_38 kq_38
              refine WL.pass rfl rfl rfl rfl (WL.nil (?_))
              exact WX.one ⟨rfl, by exact Chg.refl _ _⟩
            apply DQ.step (E' := [(56, _), (60, _)])
            case ho => rfl
            case hs => exact ⟨rfl, rfl, trivial⟩
            case hk => rfl
            case h1 =>
              intro wq_39 kq_39
              refine WL.pickF rfl rfl rfl (?_)
              refine WL.nil ?_
              exact WX.one ⟨rfl, by exact Chg.refl _ _⟩
            refine DQ.done (fun _ => ?_)
            refine DL.done (fun we_40 ke_40 => ?_)
            have zs_ke_40 := ke_40.size
            replace hb_1 := hb_1.pure ke_40
            replace h := h.pure ke_40
            replace hL := hL.pure ke_40
            replace hw := hw.pure ke_40
            replace hq := hq.pure ke_40
            replace hb10 := hb10.pure ke_40
            refine WX.then_normal (WC.cond_false rfl (WC.skip (WX.block_normal (WX.then_normal (WC.region (WL.add64 rfl rfl (by omega) rfl (WL.move rfl rfl (?_))))))))
            refine WL.nil (?_)
            have hs : stF s l.f l.b n (k : Nat) = (0, none) := by
              first
                | (have he0 : e ≠ 0 := h40
                   exact f2 h36 he0)
                | (have he0 : e = 0 := h40
                   first
                     | exact f3 he0 hpc
                     | exact f4 p he0 hpc (fun x => by exact hb54 x.1))
            exact WX.loop_next (k + 1) ⟨rfl, rfl, rfl, rfl, rfl, trivial⟩ ⟨by omega, (fdR_go hF).trans hs, hb_1, h, hL, hw⟩ (by show _ - _ < _ - _; omega)
  ·
    refine WL.nil (WX.then_normal (WC.seq (WC.cond_false rfl (WC.exit (WX.then_exit (WX.then_exit (WX.block_here (?_))))))))
    refine WX.then_normal (WC.seq (WC.region (WL.bld rfl (bld_108_z) rfl (?_))))
    refine WL.stores Tryd.sizeOf108 hb_1 rfl rfl (by simp; done) (by simp [Value.oneCell']; done) (by exact Nat.le_of_ble_eq_true rfl) rfl ?_
    intro w_2 hs_2 hn_2 k_2
    have zs_k_2 := k_2.size
    replace h := h.chg k_2 (by intro b h1 h2 h3; have h4 : _ = _ := h3; (try dsimp only at h2); exfalso; omega)
    replace hL := hL.chg k_2 (by intro h1; have h2 : _ = _ := h1; exfalso; omega)
    replace hw := hw.chg k_2 (by intro x h1 h2; have h3 : _ = _ := h2; exfalso; omega)
    replace hb_1 := hn_2
    refine WL.assign rfl rfl (WL.assign rfl rfl (WL.nil (WX.then_normal (WC.ret (?_)))))
    refine WX.ret3c (.inl rfl) Tryd.results54 Tryd.isAgg108 Tryd.sizeOf108 hb_1 rfl (by rfl) rfl rfl ?_
    have hE : ∀ e' p', fdR s l.f l.b n s.dn = (e', p') → findE s l.f l.b n = e' ∧ findP s l.f l.b n = p' := fun e' p' h9 => by rw [findE, findP, h9]; exact ⟨rfl, rfl⟩
    first
      | (have hz : e = 16 := h36
         obtain ⟨e1, e2⟩ := hE _ _ (fdR_hit hF (f1 hz) (by decide) (by omega))
         rw [e1, e2]
         refine ⟨_, rfl, ⟨zeroC, ?_, fun q hq9 => by cases hq9⟩, hw⟩
         rw [hz]
         rfl)
      | (have he0 : e = 0 := h40
         obtain ⟨e1, e2⟩ := hE _ _ (fdR_hit hF (f5 p he0 hpc hb54 hb60) (fun x => by cases x.2) (by omega))
         rw [e1, e2]
         exact ⟨_, rfl, ⟨p, rfl, fun q hq9 => by injection hq9⟩, hw⟩)
      | (have hkd : k = s.dn := by omega
         subst hkd
         obtain ⟨e1, e2⟩ := hE _ _ hF
         rw [e1, e2]
         exact ⟨_, rfl, ⟨zeroC, rfl, fun q hq9 => by cases hq9⟩, hw⟩)
end Go.Proofs.YtjeldcjchipdgaaDoor
namespace Go.Proofs.YtjeldcjchipdgaaDoor
open Go.RowKit Go.HL
set_option maxRecDepth 100000

theorem lroom_calls {w : World} {R L : Nat} {l : LgV} {sn : Nat} (hL : Blk w L 103 (lgC R l)) (hl : l.ok sn) :
    Calls Tryd.prog 30 [ptr L].toArray w (Ret fun v w' => v = vi (l.c - l.nx) ∧ Chg Nob w w') := by
  have hw := Chg.refl Nob w
  have hc := hl.c
  have hx := hl.nx
  refine Calls.of_WC Tryd.func30 rfl Tryd.ntmps30 (by simp) ?_
  refine WC.seq (WC.region (WL.assign rfl rfl (WL.nil (WX.then_normal (WC.seq (WC.seq (WC.region (?_))))))))
  refine WL.move rfl rfl (?_)
  refine WL.ptrNil Tryd.underlying55 rfl rfl rfl ?_
  refine WL.nil (WX.then_normal (WC.cond_false rfl (WC.skip (WX.then_normal (WC.seq (?_))))))
  refine WC.draw (Nob) [0, 1, 2, 3, 4, 5, 6, 7, 8, 9] [] mixed rfl rfl (fun wd_1 kd_1 zd_1 => ?_)
  have zs_kd_1 := kd_1.size
  replace hL := hL.pure kd_1
  replace hw := hw.pure kd_1
  apply DQ.step (E' := [(0, _)])
  case ho => rfl
  case hs => exact ⟨rfl, trivial⟩
  case hk => rfl
  case h1 =>
    intro wq_2 kq_2
    refine WL.move rfl rfl (?_)
    refine WL.nil ?_
    exact WX.one ⟨rfl, by exact Chg.refl _ _⟩
  apply DQ.step (E' := [(5, _)])
  case ho => rfl
  case hs => exact ⟨rfl, trivial⟩
  case hk => rfl
  case h1 =>
    intro wq_3 kq_3
    refine WL.nilCheck rfl rfl (?_)
    refine WL.nil ?_
    exact WX.one ⟨rfl, by exact Chg.refl _ _⟩
  apply DQ.step (E' := [(6, _)])
  case ho => rfl
  case hs => exact ⟨rfl, trivial⟩
  case hk => rfl
  case h1 =>
    intro wq_4 kq_4
    refine WL.fieldAddr (fld_103_2) rfl rfl (?_)
    refine WL.nil ?_
    exact WX.one ⟨rfl, by exact Chg.refl _ _⟩
  apply DQ.step (E' := [(7, _)])
  case ho => rfl
  case hs => exact ⟨rfl, trivial⟩
  case hk => rfl
  case h1 =>
    intro wq_5 kq_5
    have zs_kq_5 := kq_5.size
    replace hL := hL.pure kq_5
    replace hw := hw.pure kq_5
    refine WL.loadB Tryd.isAgg3 hL rfl rfl rfl (?_)
    refine WL.nil ?_
    exact WX.one ⟨rfl, by exact Chg.refl _ _⟩
  apply DQ.step (E' := [(0, _)])
  case ho => rfl
  case hs => exact ⟨rfl, trivial⟩
  case hk => rfl
  case h1 =>
    intro wq_6 kq_6
    refine WL.move rfl rfl (?_)
    refine WL.nil ?_
    exact WX.one ⟨rfl, by exact Chg.refl _ _⟩
  apply DQ.step (E' := [(9, _)])
  case ho => rfl
  case hs => exact ⟨rfl, trivial⟩
  case hk => rfl
  case h1 =>
    intro wq_7 kq_7
    refine WL.nilCheck rfl rfl (?_)
    refine WL.nil ?_
    exact WX.one ⟨rfl, by exact Chg.refl _ _⟩
  apply DQ.step (E' := [(10, _)])
  case ho => rfl
  case hs => exact ⟨rfl, trivial⟩
  case hk => rfl
  case h1 =>
    intro wq_8 kq_8
    refine WL.fieldAddr (fld_103_4) rfl rfl (?_)
    refine WL.nil ?_
    exact WX.one ⟨rfl, by exact Chg.refl _ _⟩
  apply DQ.step (E' := [(11, _)])
  case ho => rfl
  case hs => exact ⟨rfl, trivial⟩
  case hk => rfl
  case h1 =>
    intro wq_9 kq_9
    have zs_kq_9 := kq_9.size
    replace hL := hL.pure kq_9
    replace hw := hw.pure kq_9
    refine WL.loadB Tryd.isAgg3 hL rfl rfl rfl (?_)
    refine WL.nil ?_
    exact WX.one ⟨rfl, by exact Chg.refl _ _⟩
  apply DQ.step (E' := [(8, _), (12, _)])
  case ho => rfl
  case hs => exact ⟨rfl, rfl, trivial⟩
  case hk => rfl
  case h1 =>
    intro wq_10 kq_10
    refine WL.sub64 rfl rfl (by omega) rfl (?_)
    refine WL.nil ?_
    exact WX.one ⟨rfl, by exact Chg.refl _ _⟩
  apply DQ.step (E' := [(13, _)])
  case ho => rfl
  case hs => exact ⟨rfl, trivial⟩
  case hk => rfl
  case h1 =>
    intro wq_11 kq_11
    refine WL.assign rfl rfl (?_)
    refine WL.nil ?_
    exact WX.one ⟨rfl, by exact Chg.refl _ _⟩
  refine DQ.done (fun _ => ?_)
  refine DL.done (fun we_12 ke_12 => ?_)
  have zs_ke_12 := ke_12.size
  replace hL := hL.pure ke_12
  replace hw := hw.pure ke_12
  refine WX.then_normal (WC.ret (?_))
  refine WX.ret1 (.inl rfl) Tryd.results30 rfl ?_
  exact ⟨_, rfl, rfl, hw⟩
theorem lbase_calls {w : World} {R L : Nat} {l : LgV} (hL : Blk w L 103 (lgC R l)) :
    Calls Tryd.prog 32 [ptr L].toArray w (Ret fun v w' => v = vi l.b ∧ Chg Nob w w') := by
  have hw := Chg.refl Nob w
  refine Calls.of_WC Tryd.func32 rfl Tryd.ntmps32 (by simp) ?_
  refine WC.seq (WC.region (WL.assign rfl rfl (WL.nil (WX.then_normal (WC.seq (WC.seq (WC.region (?_))))))))
  refine WL.move rfl rfl (?_)
  refine WL.ptrNil Tryd.underlying55 rfl rfl rfl ?_
  refine WL.nil (WX.then_normal (WC.cond_false rfl (WC.skip (WX.then_normal (WC.seq (WC.region (WL.move rfl rfl (?_))))))))
  refine WL.nilCheck rfl rfl (WL.fieldAddr (fld_103_3) rfl rfl (WL.loadB Tryd.isAgg3 hL rfl rfl rfl (WL.assign rfl rfl (WL.nil (WX.then_normal (WC.ret (?_)))))))
  refine WX.ret1 (.inl rfl) Tryd.results32 rfl ?_
  exact ⟨_, rfl, rfl, hw⟩
theorem opA_at {s : RA} {f b : Int} {k : Nat} {e : Int} {p : Option PcV} (h : (opA s f b k).stop = false) (h0 : (opA s f b k).err = 0) (he : findE s f b k = e) (hp : findP s f b k = p) :
    (e ≠ 0 → (opA s f b (k + 1)).stop = true ∧ (opA s f b (k + 1)).err = e) ∧
    (e = 0 → p = none → (opA s f b (k + 1)).stop = true ∧ (opA s f b (k + 1)).err = 0 ∧ (opA s f b (k + 1)).out = (opA s f b k).out ∧ (opA s f b (k + 1)).next = (opA s f b k).next) ∧
    (∀ q, e = 0 → p = some q → q.last = 1 → opA s f b (k + 1) = ⟨false, 0, [], (opA s f b k).out ++ [bs ((opA s f b k).acc ++ q.text.data.toList)], k + 1⟩) ∧
    (∀ q, e = 0 → p = some q → q.last ≠ 1 → opA s f b (k + 1) = ⟨false, 0, (opA s f b k).acc ++ q.text.data.toList, (opA s f b k).out, (opA s f b k).next⟩) := by
  have e1 : opA s f b (k + 1) = stA s f b k (opA s f b k) := by rw [opA, if_neg (by rw [h]; decide)]
  subst he; subst hp
  refine ⟨fun h1 => ?_, fun h1 h2 => ?_, fun q h1 h2 h3 => ?_, fun q h1 h2 h3 => ?_⟩
  · rw [e1, stA, if_pos h1]
    exact ⟨rfl, rfl⟩
  · rw [e1, stA, if_neg (fun x => x h1), h2]
    exact ⟨rfl, h0, rfl, rfl⟩
  · rw [e1, stA, if_neg (fun x => x h1), h2]
    dsimp only
    rw [if_pos h3, h, h0]
  · rw [e1, stA, if_neg (fun x => x h1), h2]
    dsimp only
    rw [if_neg h3, h, h0]
theorem open_end {s : RA} {f c b : Int} (h : opOk s f c b) {k : Nat} (hk : k ≤ c.toNat) (hs : (opA s f b k).stop = true ∨ k = c.toNat) : openE s f c b = (opA s f b k).err ∧ openN s f c b = (opA s f b k).next ∧ (openE s f c b = 0 → openL s f c b = (opA s f b k).out) := by
  have e : opA s f b c.toNat = opA s f b k := by
    rcases hs with h1 | h1
    · have := opA_stuck h1 (c.toNat - k)
      rw [show k + (c.toNat - k) = c.toNat from by omega] at this
      exact this
    · rw [h1]
  have e1 : openE s f c b = (opA s f b k).err := by rw [openE, if_pos h, e]
  refine ⟨e1, by rw [openN, e], fun h0 => by rw [openL, if_pos h0, e]⟩
theorem open_no {s : RA} {f c b : Int} (h : ¬ opOk s f c b) : openE s f c b = 1 := by rw [openE, if_neg h]
theorem Bd.kbs {S : Nat → Prop} {w : World} {B : Nat} {acc : List UInt8} (h : Bd S w B acc) : Bd (fun x => S x ∧ (kb w x = some (some 106) ∨ kb w x = some (some 5))) w B acc := by
  obtain ⟨pa, ao, c, h1, h2, h3⟩ := h.ex
  exact ⟨⟨h.sB, .inl h1.kb⟩, pa, ao, c, h1, h2, h3.kb.mono (fun b hb => ⟨⟨hb.1.1, .inr hb.2⟩, hb.1.2⟩)⟩
theorem Bd.lt {S : Nat → Prop} {w : World} {B : Nat} {acc : List UInt8} (h : Bd S w B acc) : B < w.heap.size := by
  obtain ⟨pa, ao, c, h1, h2, h3⟩ := h.ex
  exact h1.lt
theorem openL_no {s : RA} {f c b : Int} (h : openE s f c b ≠ 0) : openL s f c b = [] := by rw [openL, if_neg h]
set_option maxHeartbeats 4000000 in
theorem iopen_calls {A : Nat → Prop} {w : World} {R : Nat} {s : RA} (h : RK A w R s) (f c b : Int) (hf : i64R f) (hc : i64R c) :
    Calls Tryd.prog 24 [ptr R, vi f, vi c, vi b].toArray w (Ret fun v w' => (∃ (pl ao : Option Addr) (cp : Nat), v = .tuple #[.pointer pl, .slice ao (openL s f c b).length cp, vi (openE s f c b)] ∧ Row (w.heap.size ≤ ·) w' 9 es ao cp (openL s f c b) ∧
      (openE s f c b ≠ 0 → pl = none) ∧ (openE s f c b = 0 → ∃ L, pl = some ⟨L, 0, none⟩ ∧ w.heap.size ≤ L ∧ (∀ q, ao = some q → q.block ≠ L) ∧ Blk w' L 103 (lgC R ⟨f, c, b, openN s f c b⟩) ∧ (⟨f, c, b, openN s f c b⟩ : LgV).ok s.sn)) ∧ Chg Nob w w') := by
  have hw := Chg.refl Nob w
  obtain ⟨f0, f9⟩ := hf
  obtain ⟨c0, c9⟩ := hc
  have hsn := h.ok.sn
  replace h : RK (fun x => x < w.heap.size) w R s := h.old.mono (fun x hx => hx.2)
  refine Calls.of_WC Tryd.func24 rfl Tryd.ntmps24 (by simp) ?_
  refine WC.seq (WC.region (WL.assign rfl rfl (WL.assign rfl rfl (WL.assign rfl rfl (WL.nil (WX.then_normal (WC.seq (?_))))))))
  refine WC.seq (WC.region (WL.move rfl rfl (?_)))
  refine WL.lss? rfl rfl rfl (fun h19 => ?_) (fun h19 => ?_)
  ·
    refine WL.move rfl rfl (WL.pass rfl rfl rfl rfl (WL.pass rfl rfl rfl rfl (WL.pickT rfl rfl rfl (WL.move rfl rfl (WL.pass rfl rfl rfl rfl (WL.pass rfl rfl rfl rfl (WL.pickT rfl rfl rfl (?_))))))))
    refine WL.move rfl rfl (WL.pass rfl rfl rfl rfl (WL.pass rfl rfl rfl rfl (WL.pass rfl rfl rfl rfl (WL.pass rfl rfl rfl rfl (WL.pass rfl rfl rfl rfl (WL.pass rfl rfl rfl rfl (WL.pickT rfl rfl rfl (?_))))))))
    refine WL.move rfl rfl (WL.pass rfl rfl rfl rfl (WL.pass rfl rfl rfl rfl (WL.pickT rfl rfl rfl (WL.move rfl rfl (WL.pass rfl rfl rfl rfl (WL.pass rfl rfl rfl rfl (WL.pickT rfl rfl rfl (?_))))))))
    refine WL.nil (WX.then_normal (WC.cond_true rfl (WC.seq (WC.region (WL.assign rfl rfl (WL.assign rfl rfl (WL.assign rfl rfl (?_))))))))
    refine WL.nil (WX.then_normal (WC.ret (WX.then_ret (?_))))
    refine WX.ret3 (.inl rfl) Tryd.results24 rfl rfl rfl ?_
    first
      | (have hk2 : findE s f b k ≠ 0 := h62
         obtain ⟨b1, b2⟩ := a1 hk2
         obtain ⟨d1, d2, d3⟩ := open_end hO (k := k + 1) (by omega) (.inl b1)
         rw [b2] at d1
         rw [d1, openL_no (by rw [d1]; exact hk2)]
         exact ⟨_, rfl, ⟨none, none, 0, rfl, Row.nil _ _ _ _, fun _ => rfl, fun h9 => absurd h9 hk2⟩, hw⟩)
      | (have hk2 : findE s f b k = 0 := h62
         obtain ⟨b1, b2, b3, b4⟩ := a2 hk2 hP
         obtain ⟨d1, d2, d3⟩ := open_end hO (k := k + 1) (by omega) (.inl b1)
         rw [b2] at d1
         have d4 := d3 d1
         rw [b3] at d4
         rw [b4] at d2
         rw [d1, d4, d2]
         exact ⟨_, rfl, ⟨some ⟨g_1, 0, none⟩, ao, cp, rfl, hout.mono (fun x hx => by omega), fun h9 => absurd rfl h9, fun _ => ⟨g_1, rfl, by omega, fun q hq => (hout.at_ q hq).1.2, hb1, hlk⟩⟩, hw⟩)
      | (have hkc : k = c.toNat := by omega
         obtain ⟨d1, d2, d3⟩ := open_end hO (k := k) (by omega) (.inr hkc)
         rw [hE0] at d1
         rw [d1, d3 d1, d2]
         exact ⟨_, rfl, ⟨some ⟨g_1, 0, none⟩, ao, cp, rfl, hout.mono (fun x hx => by omega), fun h9 => absurd rfl h9, fun _ => ⟨g_1, rfl, by omega, fun q hq => (hout.at_ q hq).1.2, hb1, hlk⟩⟩, hw⟩)
      | (have hno : ¬ opOk s f c b := by
           rintro ⟨o1, o2, o3, o4, o5, o6⟩
           omega
         have d1 := open_no hno
         rw [d1, openL_no (by rw [d1]; decide)]
         exact ⟨_, rfl, ⟨none, none, 0, rfl, Row.nil _ _ _ _, fun _ => rfl, fun h9 => absurd h9 (by decide)⟩, hw⟩)
  ·
    refine WL.move rfl rfl (WL.want rfl rfl rfl (WL.move rfl rfl (WL.want rfl rfl rfl (?_))))
    refine WL.lss? rfl rfl rfl (fun h22 => ?_) (fun h22 => ?_)
    ·
      refine WL.pickF rfl rfl rfl (WL.move rfl rfl (WL.pass rfl rfl rfl rfl (WL.pass rfl rfl rfl rfl (WL.pickT rfl rfl rfl (WL.move rfl rfl (WL.pass rfl rfl rfl rfl (WL.pass rfl rfl rfl rfl (?_))))))))
      refine WL.pass rfl rfl rfl rfl (WL.pass rfl rfl rfl rfl (WL.pass rfl rfl rfl rfl (WL.pass rfl rfl rfl rfl (WL.pickT rfl rfl rfl (WL.move rfl rfl (WL.pass rfl rfl rfl rfl (WL.pass rfl rfl rfl rfl (?_))))))))
      refine WL.pickT rfl rfl rfl (WL.move rfl rfl (WL.pass rfl rfl rfl rfl (WL.pass rfl rfl rfl rfl (WL.pickT rfl rfl rfl (WL.nil (WX.then_normal (WC.cond_true rfl (?_))))))))
      refine WC.seq (WC.region (WL.assign rfl rfl (WL.assign rfl rfl (WL.assign rfl rfl (WL.nil (WX.then_normal (WC.ret (?_))))))))
      refine WX.then_ret (?_)
      refine WX.ret3 (.inl rfl) Tryd.results24 rfl rfl rfl ?_
      first
        | (have hk2 : findE s f b k ≠ 0 := h62
           obtain ⟨b1, b2⟩ := a1 hk2
           obtain ⟨d1, d2, d3⟩ := open_end hO (k := k + 1) (by omega) (.inl b1)
           rw [b2] at d1
           rw [d1, openL_no (by rw [d1]; exact hk2)]
           exact ⟨_, rfl, ⟨none, none, 0, rfl, Row.nil _ _ _ _, fun _ => rfl, fun h9 => absurd h9 hk2⟩, hw⟩)
        | (have hk2 : findE s f b k = 0 := h62
           obtain ⟨b1, b2, b3, b4⟩ := a2 hk2 hP
           obtain ⟨d1, d2, d3⟩ := open_end hO (k := k + 1) (by omega) (.inl b1)
           rw [b2] at d1
           have d4 := d3 d1
           rw [b3] at d4
           rw [b4] at d2
           rw [d1, d4, d2]
           exact ⟨_, rfl, ⟨some ⟨g_1, 0, none⟩, ao, cp, rfl, hout.mono (fun x hx => by omega), fun h9 => absurd rfl h9, fun _ => ⟨g_1, rfl, by omega, fun q hq => (hout.at_ q hq).1.2, hb1, hlk⟩⟩, hw⟩)
        | (have hkc : k = c.toNat := by omega
           obtain ⟨d1, d2, d3⟩ := open_end hO (k := k) (by omega) (.inr hkc)
           rw [hE0] at d1
           rw [d1, d3 d1, d2]
           exact ⟨_, rfl, ⟨some ⟨g_1, 0, none⟩, ao, cp, rfl, hout.mono (fun x hx => by omega), fun h9 => absurd rfl h9, fun _ => ⟨g_1, rfl, by omega, fun q hq => (hout.at_ q hq).1.2, hb1, hlk⟩⟩, hw⟩)
        | (have hno : ¬ opOk s f c b := by
             rintro ⟨o1, o2, o3, o4, o5, o6⟩
             omega
           have d1 := open_no hno
           rw [d1, openL_no (by rw [d1]; decide)]
           exact ⟨_, rfl, ⟨none, none, 0, rfl, Row.nil _ _ _ _, fun _ => rfl, fun h9 => absurd h9 (by decide)⟩, hw⟩)
    ·
      refine WL.pickF rfl rfl rfl (WL.move rfl rfl (WL.want rfl rfl rfl (WL.move rfl rfl (WL.want rfl rfl rfl (?_)))))
      refine WL.gtr? rfl rfl rfl (fun h26 => ?_) (fun h26 => ?_)
      ·
        refine WL.pickF rfl rfl rfl (WL.move rfl rfl (WL.pass rfl rfl rfl rfl (WL.pass rfl rfl rfl rfl (WL.pass rfl rfl rfl rfl (WL.pass rfl rfl rfl rfl (WL.pass rfl rfl rfl rfl (WL.pass rfl rfl rfl rfl (?_))))))))
        refine WL.pickT rfl rfl rfl (WL.move rfl rfl (WL.pass rfl rfl rfl rfl (WL.pass rfl rfl rfl rfl (WL.pickT rfl rfl rfl (WL.move rfl rfl (WL.pass rfl rfl rfl rfl (WL.pass rfl rfl rfl rfl (?_))))))))
        refine WL.pickT rfl rfl rfl (WL.nil (WX.then_normal (WC.cond_true rfl (WC.seq (WC.region (WL.assign rfl rfl (WL.assign rfl rfl (?_))))))))
        refine WL.assign rfl rfl (WL.nil (WX.then_normal (WC.ret (WX.then_ret (?_)))))
        refine WX.ret3 (.inl rfl) Tryd.results24 rfl rfl rfl ?_
        first
          | (have hk2 : findE s f b k ≠ 0 := h62
             obtain ⟨b1, b2⟩ := a1 hk2
             obtain ⟨d1, d2, d3⟩ := open_end hO (k := k + 1) (by omega) (.inl b1)
             rw [b2] at d1
             rw [d1, openL_no (by rw [d1]; exact hk2)]
             exact ⟨_, rfl, ⟨none, none, 0, rfl, Row.nil _ _ _ _, fun _ => rfl, fun h9 => absurd h9 hk2⟩, hw⟩)
          | (have hk2 : findE s f b k = 0 := h62
             obtain ⟨b1, b2, b3, b4⟩ := a2 hk2 hP
             obtain ⟨d1, d2, d3⟩ := open_end hO (k := k + 1) (by omega) (.inl b1)
             rw [b2] at d1
             have d4 := d3 d1
             rw [b3] at d4
             rw [b4] at d2
             rw [d1, d4, d2]
             exact ⟨_, rfl, ⟨some ⟨g_1, 0, none⟩, ao, cp, rfl, hout.mono (fun x hx => by omega), fun h9 => absurd rfl h9, fun _ => ⟨g_1, rfl, by omega, fun q hq => (hout.at_ q hq).1.2, hb1, hlk⟩⟩, hw⟩)
          | (have hkc : k = c.toNat := by omega
             obtain ⟨d1, d2, d3⟩ := open_end hO (k := k) (by omega) (.inr hkc)
             rw [hE0] at d1
             rw [d1, d3 d1, d2]
             exact ⟨_, rfl, ⟨some ⟨g_1, 0, none⟩, ao, cp, rfl, hout.mono (fun x hx => by omega), fun h9 => absurd rfl h9, fun _ => ⟨g_1, rfl, by omega, fun q hq => (hout.at_ q hq).1.2, hb1, hlk⟩⟩, hw⟩)
          | (have hno : ¬ opOk s f c b := by
               rintro ⟨o1, o2, o3, o4, o5, o6⟩
               omega
             have d1 := open_no hno
             rw [d1, openL_no (by rw [d1]; decide)]
             exact ⟨_, rfl, ⟨none, none, 0, rfl, Row.nil _ _ _ _, fun _ => rfl, fun h9 => absurd h9 (by decide)⟩, hw⟩)
      ·
        refine WL.pickF rfl rfl rfl (WL.move rfl rfl (WL.want rfl rfl rfl (WL.move rfl rfl (WL.want rfl rfl rfl (WL.move rfl rfl (WL.want rfl rfl rfl (?_)))))))
        refine WL.call eg_53 rfl rfl (Sectors_calls h) ?_
        rintro v w1 ⟨rfl, k1⟩
        have zs_k1 := k1.size
        replace h := h.pure k1
        replace hw := hw.pure k1
        refine WL.want rfl rfl rfl (WL.move rfl rfl (WL.want rfl rfl rfl (WL.sub64 rfl rfl (by omega) rfl (WL.want rfl rfl rfl (?_)))))
        refine WL.gtr? rfl rfl rfl (fun h34 => ?_) (fun h34 => ?_)
        ·
          refine WL.pickF rfl rfl rfl (WL.move rfl rfl (WL.pass rfl rfl rfl rfl (WL.pass rfl rfl rfl rfl (WL.pickT rfl rfl rfl (WL.move rfl rfl (WL.pass rfl rfl rfl rfl (WL.pass rfl rfl rfl rfl (?_))))))))
          refine WL.pickT rfl rfl rfl (WL.nil (WX.then_normal (WC.cond_true rfl (WC.seq (WC.region (WL.assign rfl rfl (WL.assign rfl rfl (?_))))))))
          refine WL.assign rfl rfl (WL.nil (WX.then_normal (WC.ret (WX.then_ret (?_)))))
          refine WX.ret3 (.inl rfl) Tryd.results24 rfl rfl rfl ?_
          first
            | (have hk2 : findE s f b k ≠ 0 := h62
               obtain ⟨b1, b2⟩ := a1 hk2
               obtain ⟨d1, d2, d3⟩ := open_end hO (k := k + 1) (by omega) (.inl b1)
               rw [b2] at d1
               rw [d1, openL_no (by rw [d1]; exact hk2)]
               exact ⟨_, rfl, ⟨none, none, 0, rfl, Row.nil _ _ _ _, fun _ => rfl, fun h9 => absurd h9 hk2⟩, hw⟩)
            | (have hk2 : findE s f b k = 0 := h62
               obtain ⟨b1, b2, b3, b4⟩ := a2 hk2 hP
               obtain ⟨d1, d2, d3⟩ := open_end hO (k := k + 1) (by omega) (.inl b1)
               rw [b2] at d1
               have d4 := d3 d1
               rw [b3] at d4
               rw [b4] at d2
               rw [d1, d4, d2]
               exact ⟨_, rfl, ⟨some ⟨g_1, 0, none⟩, ao, cp, rfl, hout.mono (fun x hx => by omega), fun h9 => absurd rfl h9, fun _ => ⟨g_1, rfl, by omega, fun q hq => (hout.at_ q hq).1.2, hb1, hlk⟩⟩, hw⟩)
            | (have hkc : k = c.toNat := by omega
               obtain ⟨d1, d2, d3⟩ := open_end hO (k := k) (by omega) (.inr hkc)
               rw [hE0] at d1
               rw [d1, d3 d1, d2]
               exact ⟨_, rfl, ⟨some ⟨g_1, 0, none⟩, ao, cp, rfl, hout.mono (fun x hx => by omega), fun h9 => absurd rfl h9, fun _ => ⟨g_1, rfl, by omega, fun q hq => (hout.at_ q hq).1.2, hb1, hlk⟩⟩, hw⟩)
            | (have hno : ¬ opOk s f c b := by
                 rintro ⟨o1, o2, o3, o4, o5, o6⟩
                 omega
               have d1 := open_no hno
               rw [d1, openL_no (by rw [d1]; decide)]
               exact ⟨_, rfl, ⟨none, none, 0, rfl, Row.nil _ _ _ _, fun _ => rfl, fun h9 => absurd h9 (by decide)⟩, hw⟩)
        ·
          refine WL.pickF rfl rfl rfl (WL.move rfl rfl (WL.want rfl rfl rfl (WL.move rfl rfl (WL.want rfl rfl rfl (?_)))))
          refine WL.lss? rfl rfl rfl (fun h38 => ?_) (fun h38 => ?_)
          ·
            refine WL.pickF rfl rfl rfl (WL.move rfl rfl (WL.pass rfl rfl rfl rfl (WL.pass rfl rfl rfl rfl (WL.pickT rfl rfl rfl (WL.nil (WX.then_normal (WC.cond_true rfl (?_))))))))
            refine WC.seq (WC.region (WL.assign rfl rfl (WL.assign rfl rfl (WL.assign rfl rfl (WL.nil (WX.then_normal (WC.ret (?_))))))))
            refine WX.then_ret (?_)
            refine WX.ret3 (.inl rfl) Tryd.results24 rfl rfl rfl ?_
            first
              | (have hk2 : findE s f b k ≠ 0 := h62
                 obtain ⟨b1, b2⟩ := a1 hk2
                 obtain ⟨d1, d2, d3⟩ := open_end hO (k := k + 1) (by omega) (.inl b1)
                 rw [b2] at d1
                 rw [d1, openL_no (by rw [d1]; exact hk2)]
                 exact ⟨_, rfl, ⟨none, none, 0, rfl, Row.nil _ _ _ _, fun _ => rfl, fun h9 => absurd h9 hk2⟩, hw⟩)
              | (have hk2 : findE s f b k = 0 := h62
                 obtain ⟨b1, b2, b3, b4⟩ := a2 hk2 hP
                 obtain ⟨d1, d2, d3⟩ := open_end hO (k := k + 1) (by omega) (.inl b1)
                 rw [b2] at d1
                 have d4 := d3 d1
                 rw [b3] at d4
                 rw [b4] at d2
                 rw [d1, d4, d2]
                 exact ⟨_, rfl, ⟨some ⟨g_1, 0, none⟩, ao, cp, rfl, hout.mono (fun x hx => by omega), fun h9 => absurd rfl h9, fun _ => ⟨g_1, rfl, by omega, fun q hq => (hout.at_ q hq).1.2, hb1, hlk⟩⟩, hw⟩)
              | (have hkc : k = c.toNat := by omega
                 obtain ⟨d1, d2, d3⟩ := open_end hO (k := k) (by omega) (.inr hkc)
                 rw [hE0] at d1
                 rw [d1, d3 d1, d2]
                 exact ⟨_, rfl, ⟨some ⟨g_1, 0, none⟩, ao, cp, rfl, hout.mono (fun x hx => by omega), fun h9 => absurd rfl h9, fun _ => ⟨g_1, rfl, by omega, fun q hq => (hout.at_ q hq).1.2, hb1, hlk⟩⟩, hw⟩)
              | (have hno : ¬ opOk s f c b := by
                   rintro ⟨o1, o2, o3, o4, o5, o6⟩
                   omega
                 have d1 := open_no hno
                 rw [d1, openL_no (by rw [d1]; decide)]
                 exact ⟨_, rfl, ⟨none, none, 0, rfl, Row.nil _ _ _ _, fun _ => rfl, fun h9 => absurd h9 (by decide)⟩, hw⟩)
          ·
            refine WL.pickF rfl rfl rfl (WL.move rfl rfl (WL.want rfl rfl rfl (WL.move rfl rfl (WL.want rfl rfl rfl (?_)))))
            refine WL.gtr? rfl rfl rfl (fun h42 => ?_) (fun h42 => ?_)
            ·
              refine WL.pickF rfl rfl rfl (WL.nil (WX.then_normal (WC.cond_true rfl (WC.seq (WC.region (WL.assign rfl rfl (WL.assign rfl rfl (?_))))))))
              refine WL.assign rfl rfl (WL.nil (WX.then_normal (WC.ret (WX.then_ret (?_)))))
              refine WX.ret3 (.inl rfl) Tryd.results24 rfl rfl rfl ?_
              first
                | (have hk2 : findE s f b k ≠ 0 := h62
                   obtain ⟨b1, b2⟩ := a1 hk2
                   obtain ⟨d1, d2, d3⟩ := open_end hO (k := k + 1) (by omega) (.inl b1)
                   rw [b2] at d1
                   rw [d1, openL_no (by rw [d1]; exact hk2)]
                   exact ⟨_, rfl, ⟨none, none, 0, rfl, Row.nil _ _ _ _, fun _ => rfl, fun h9 => absurd h9 hk2⟩, hw⟩)
                | (have hk2 : findE s f b k = 0 := h62
                   obtain ⟨b1, b2, b3, b4⟩ := a2 hk2 hP
                   obtain ⟨d1, d2, d3⟩ := open_end hO (k := k + 1) (by omega) (.inl b1)
                   rw [b2] at d1
                   have d4 := d3 d1
                   rw [b3] at d4
                   rw [b4] at d2
                   rw [d1, d4, d2]
                   exact ⟨_, rfl, ⟨some ⟨g_1, 0, none⟩, ao, cp, rfl, hout.mono (fun x hx => by omega), fun h9 => absurd rfl h9, fun _ => ⟨g_1, rfl, by omega, fun q hq => (hout.at_ q hq).1.2, hb1, hlk⟩⟩, hw⟩)
                | (have hkc : k = c.toNat := by omega
                   obtain ⟨d1, d2, d3⟩ := open_end hO (k := k) (by omega) (.inr hkc)
                   rw [hE0] at d1
                   rw [d1, d3 d1, d2]
                   exact ⟨_, rfl, ⟨some ⟨g_1, 0, none⟩, ao, cp, rfl, hout.mono (fun x hx => by omega), fun h9 => absurd rfl h9, fun _ => ⟨g_1, rfl, by omega, fun q hq => (hout.at_ q hq).1.2, hb1, hlk⟩⟩, hw⟩)
                | (have hno : ¬ opOk s f c b := by
                     rintro ⟨o1, o2, o3, o4, o5, o6⟩
                     omega
                   have d1 := open_no hno
                   rw [d1, openL_no (by rw [d1]; decide)]
                   exact ⟨_, rfl, ⟨none, none, 0, rfl, Row.nil _ _ _ _, fun _ => rfl, fun h9 => absurd h9 (by decide)⟩, hw⟩)
            ·
              refine WL.pickF rfl rfl rfl (WL.nil (WX.then_normal (WC.cond_false rfl (WC.skip (WX.then_normal (WC.seq (WC.region (?_))))))))
              refine WL.move rfl rfl (WL.move rfl rfl (WL.move rfl rfl (WL.move rfl rfl (WL.bld rfl (bld_103_0_1_2_3 _ _ _ _) rfl (?_)))))
              refine WL.box rfl rfl ?_
              intro g_1 w_1 hge_1 hlt_1 hb_1 k_1
              have zs_k_1 := k_1.size
              replace h := h.pure k_1
              replace hw := hw.pure k_1
              refine WL.assign rfl rfl (WL.nil (WX.then_normal (WC.seq (WC.region (WL.assign rfl rfl (WL.nil (WX.then_normal (?_))))))))
              refine WC.seq (WC.region (?_))
              refine WL.alloc Tryd.zeroValue106 rfl ?_
              intro g_2 w_2 hge_2 hlt_2 hb_2 k_2
              have zs_k_2 := k_2.size
              replace h := h.pure k_2
              replace hw := hw.pure k_2
              replace hb_1 := hb_1.pure k_2
              refine WL.nil (WX.then_normal (WC.seq (WC.seq (WC.region (WL.move rfl rfl (WL.move rfl rfl (WL.nil (?_))))))))
              refine WX.then_normal (WC.block (?_))
              have hO : opOk s f c b := ⟨by omega, by omega, by omega, by omega, by omega, by omega⟩
              obtain ⟨n1, en1⟩ : ∃ n1, n1 = w1.heap.size := ⟨_, rfl⟩
              have hzw : w.heap.size ≤ n1 := by omega
              have hg1 : n1 ≤ g_1 ∧ g_1 < g_2 := by omega
              have hBd := (Bd.new (Blk.eqc (cs' := [.pointer none, .slice none 0 0]) hb_2 rfl)).mono (S' := fun x => n1 ≤ x ∧ x ≠ g_1) (fun x hx => by have : x = g_2 := hx; omega)
              refine WC.loop (σ := Nat × Option Addr × Nat) (fun q => [(11, ptr g_1), (12, .slice q.2.1 (opA s f b q.1).out.length q.2.2), (13, ptr g_2), (50, vi c), (51, vi (q.1 : Int))])
                (fun q w' => q.1 ≤ c.toNat ∧ (opA s f b q.1).stop = false ∧ (opA s f b q.1).err = 0 ∧ Blk w' g_1 103 (lgC R ⟨f, c, b, (opA s f b q.1).next⟩) ∧ Bd (fun x => n1 ≤ x ∧ x ≠ g_1) w' g_2 (opA s f b q.1).acc ∧ Row (fun x => n1 ≤ x ∧ x ≠ g_1) w' 9 es q.2.1 q.2.2 (opA s f b q.1).out ∧ RK (fun x => x < w.heap.size) w' R s ∧ Chg Nob w w') (fun q => c.toNat - q.1) (0, none, 0) ⟨rfl, rfl, rfl, rfl, rfl, trivial⟩
                ⟨Nat.zero_le _, rfl, rfl, Blk.eqc hb_1 rfl, hBd, Row.nil _ _ _ _, h, hw⟩ ?_
              clear hBd hb_1 hb_2 h hw
              rintro ⟨k, ao, cp⟩ w3 ⟨hk, hS, hE0, hb1, hBd, hout, h, hw⟩
              dsimp only at hk hS hE0 hb1 hBd hout ⊢
              replace hBd := hBd.old
              replace hout := hout.lt
              obtain ⟨x1, x2, x3⟩ := opA_next (s := s) (f := f) (b := b) k
              have hlk : (⟨f, c, b, (opA s f b k).next⟩ : LgV).ok s.sn := ⟨by show 0 ≤ f; omega, by show 1 ≤ c ∧ c ≤ 500; omega, by show 0 ≤ b ∧ b ≤ _; omega, by show 0 ≤ ((opA s f b k).next : Int) ∧ ((opA s f b k).next : Int) ≤ c; omega, by show f + c ≤ _; omega⟩
              have lg1 := hb1.lt
              have lg2 := hBd.lt
              have hoA := @opA_at s f b k _ _ hS hE0 rfl rfl
              obtain ⟨a1, a2, a3, a4⟩ := hoA
              refine WC.seq (WC.region (?_))
              refine WL.lss? rfl rfl rfl (fun h52 => ?_) (fun h52 => ?_)
              ·
                refine WL.nil (WX.then_normal (WC.seq (WC.cond_true rfl (WC.skip (WX.then_normal (WC.seq (WC.block (?_))))))))
                refine WC.seq (WC.region (WL.move rfl rfl (WL.assign rfl rfl (WL.nil (WX.then_normal (WC.seq (WC.region (?_))))))))
                refine WL.move rfl rfl (WL.move rfl rfl (?_))
                have hkc : (k : Int) < c := by omega
                refine WL.call eg_54 rfl rfl (find_calls h hb1 hlk k hkc) ?_
                rintro v w5 ⟨⟨p, rfl, hp⟩, k5⟩
                have zs_k5 := k5.size
                replace hb1 := hb1.pure k5
                replace hBd := hBd.pure k5
                replace hout := hout.pure k5
                replace h := h.pure k5
                replace hw := hw.pure k5
                dsimp only at hp
                cases hP : findP s f b k
                ·
                  refine WL.move rfl rfl (WL.extract rfl rfl rfl (WL.extract rfl rfl rfl (WL.extract rfl rfl rfl (?_))))
                  refine WL.alloc Tryd.zeroValue108 rfl ?_
                  intro g_3 w_3 hge_3 hlt_3 hb_3 k_3
                  have zs_k_3 := k_3.size
                  replace hb1 := hb1.pure k_3
                  replace hBd := hBd.pure k_3
                  replace hout := hout.pure k_3
                  replace h := h.pure k_3
                  replace hw := hw.pure k_3
                  refine WL.stores Tryd.sizeOf108 hb_3 rfl rfl (by rfl) (by exact Enc.one _ _) (by exact Nat.le_of_ble_eq_true rfl) rfl ?_
                  intro w_4 hs_4 hn_4 k_4
                  have zs_k_4 := k_4.size
                  replace hb1 := hb1.chg k_4 (by intro h1; have h2 : _ = _ := h1; exfalso; omega)
                  replace hBd := hBd.chg k_4 (by intro b h1 h2 h3; have h4 : _ = _ := h3; (try dsimp only at h2); exfalso; omega)
                  replace hout := hout.chg k_4 (by intro b h1 h2 h3; have h4 : _ = _ := h3; (try dsimp only at h2); exfalso; omega)
                  replace h := h.chg k_4 (by intro b h1 h2 h3; have h4 : _ = _ := h3; (try dsimp only at h2); exfalso; omega)
                  replace hw := hw.chg k_4 (by intro x h1 h2; have h3 : _ = _ := h2; exfalso; omega)
                  replace hb_3 := hn_4
                  refine WL.assign rfl rfl (WL.assign rfl rfl (WL.nil (WX.then_normal (WC.seq (WC.seq (WC.region (WL.move rfl rfl (?_))))))))
                  refine WL.neq? rfl rfl rfl (fun h62 => ?_) (fun h62 => ?_)
                  ·
                    refine WL.nil (WX.then_normal (WC.cond_true rfl (WC.seq (WC.region (WL.move rfl rfl (WL.assign rfl rfl (WL.assign rfl rfl (?_))))))))
                    refine WL.assign rfl rfl (WL.nil (WX.then_normal (WC.ret (WX.then_ret (WX.block_ret (WX.then_ret (WX.then_ret (?_))))))))
                    refine WX.block_ret (WX.then_ret (?_))
                    refine WX.ret3 (.inl rfl) Tryd.results24 rfl rfl rfl ?_
                    first
                      | (have hk2 : findE s f b k ≠ 0 := h62
                         obtain ⟨b1, b2⟩ := a1 hk2
                         obtain ⟨d1, d2, d3⟩ := open_end hO (k := k + 1) (by omega) (.inl b1)
                         rw [b2] at d1
                         rw [d1, openL_no (by rw [d1]; exact hk2)]
                         exact ⟨_, rfl, ⟨none, none, 0, rfl, Row.nil _ _ _ _, fun _ => rfl, fun h9 => absurd h9 hk2⟩, hw⟩)
                      | (have hk2 : findE s f b k = 0 := h62
                         obtain ⟨b1, b2, b3, b4⟩ := a2 hk2 hP
                         obtain ⟨d1, d2, d3⟩ := open_end hO (k := k + 1) (by omega) (.inl b1)
                         rw [b2] at d1
                         have d4 := d3 d1
                         rw [b3] at d4
                         rw [b4] at d2
                         rw [d1, d4, d2]
                         exact ⟨_, rfl, ⟨some ⟨g_1, 0, none⟩, ao, cp, rfl, hout.mono (fun x hx => by omega), fun h9 => absurd rfl h9, fun _ => ⟨g_1, rfl, by omega, fun q hq => (hout.at_ q hq).1.2, hb1, hlk⟩⟩, hw⟩)
                      | (have hkc : k = c.toNat := by omega
                         obtain ⟨d1, d2, d3⟩ := open_end hO (k := k) (by omega) (.inr hkc)
                         rw [hE0] at d1
                         rw [d1, d3 d1, d2]
                         exact ⟨_, rfl, ⟨some ⟨g_1, 0, none⟩, ao, cp, rfl, hout.mono (fun x hx => by omega), fun h9 => absurd rfl h9, fun _ => ⟨g_1, rfl, by omega, fun q hq => (hout.at_ q hq).1.2, hb1, hlk⟩⟩, hw⟩)
                      | (have hno : ¬ opOk s f c b := by
                           rintro ⟨o1, o2, o3, o4, o5, o6⟩
                           omega
                         have d1 := open_no hno
                         rw [d1, openL_no (by rw [d1]; decide)]
                         exact ⟨_, rfl, ⟨none, none, 0, rfl, Row.nil _ _ _ _, fun _ => rfl, fun h9 => absurd h9 (by decide)⟩, hw⟩)
                  ·
                    refine WL.nil (WX.then_normal (WC.cond_false rfl (WC.skip (WX.then_normal (WC.seq (WC.seq (WC.region (?_))))))))
                    refine WL.move rfl rfl (WL.not rfl rfl (WL.nil (WX.then_normal (WC.cond_true rfl (WC.exit (WX.then_exit (WX.block_on rfl (?_))))))))
                    refine WX.then_exit (WX.then_exit (WX.block_here (WX.then_normal (WC.seq (WC.region (WL.move rfl rfl (WL.move rfl rfl (?_))))))))
                    refine WL.assign rfl rfl (WL.assign rfl rfl (WL.assign rfl rfl (WL.nil (WX.then_normal (WC.ret (?_))))))
                    refine WX.ret3 (.inl rfl) Tryd.results24 rfl rfl rfl ?_
                    first
                      | (have hk2 : findE s f b k ≠ 0 := h62
                         obtain ⟨b1, b2⟩ := a1 hk2
                         obtain ⟨d1, d2, d3⟩ := open_end hO (k := k + 1) (by omega) (.inl b1)
                         rw [b2] at d1
                         rw [d1, openL_no (by rw [d1]; exact hk2)]
                         exact ⟨_, rfl, ⟨none, none, 0, rfl, Row.nil _ _ _ _, fun _ => rfl, fun h9 => absurd h9 hk2⟩, hw⟩)
                      | (have hk2 : findE s f b k = 0 := h62
                         obtain ⟨b1, b2, b3, b4⟩ := a2 hk2 hP
                         obtain ⟨d1, d2, d3⟩ := open_end hO (k := k + 1) (by omega) (.inl b1)
                         rw [b2] at d1
                         have d4 := d3 d1
                         rw [b3] at d4
                         rw [b4] at d2
                         rw [d1, d4, d2]
                         exact ⟨_, rfl, ⟨some ⟨g_1, 0, none⟩, ao, cp, rfl, hout.mono (fun x hx => by omega), fun h9 => absurd rfl h9, fun _ => ⟨g_1, rfl, by omega, fun q hq => (hout.at_ q hq).1.2, hb1, hlk⟩⟩, hw⟩)
                      | (have hkc : k = c.toNat := by omega
                         obtain ⟨d1, d2, d3⟩ := open_end hO (k := k) (by omega) (.inr hkc)
                         rw [hE0] at d1
                         rw [d1, d3 d1, d2]
                         exact ⟨_, rfl, ⟨some ⟨g_1, 0, none⟩, ao, cp, rfl, hout.mono (fun x hx => by omega), fun h9 => absurd rfl h9, fun _ => ⟨g_1, rfl, by omega, fun q hq => (hout.at_ q hq).1.2, hb1, hlk⟩⟩, hw⟩)
                      | (have hno : ¬ opOk s f c b := by
                           rintro ⟨o1, o2, o3, o4, o5, o6⟩
                           omega
                         have d1 := open_no hno
                         rw [d1, openL_no (by rw [d1]; decide)]
                         exact ⟨_, rfl, ⟨none, none, 0, rfl, Row.nil _ _ _ _, fun _ => rfl, fun h9 => absurd h9 (by decide)⟩, hw⟩)
                ·
                  rename_i q
                  obtain rfl := hp q hP
                  have hpt := (findP_text hP).1
                  refine WL.move rfl rfl (WL.extract rfl rfl rfl (WL.extract rfl rfl rfl (WL.extract rfl rfl rfl (?_))))
                  refine WL.alloc Tryd.zeroValue108 rfl ?_
                  intro g_3 w_3 hge_3 hlt_3 hb_3 k_3
                  have zs_k_3 := k_3.size
                  replace hb1 := hb1.pure k_3
                  replace hBd := hBd.pure k_3
                  replace hout := hout.pure k_3
                  replace h := h.pure k_3
                  replace hw := hw.pure k_3
                  refine WL.stores Tryd.sizeOf108 hb_3 rfl rfl (by rfl) (by exact Enc.one _ _) (by exact Nat.le_of_ble_eq_true rfl) rfl ?_
                  intro w_4 hs_4 hn_4 k_4
                  have zs_k_4 := k_4.size
                  replace hb1 := hb1.chg k_4 (by intro h1; have h2 : _ = _ := h1; exfalso; omega)
                  replace hBd := hBd.chg k_4 (by intro b h1 h2 h3; have h4 : _ = _ := h3; (try dsimp only at h2); exfalso; omega)
                  replace hout := hout.chg k_4 (by intro b h1 h2 h3; have h4 : _ = _ := h3; (try dsimp only at h2); exfalso; omega)
                  replace h := h.chg k_4 (by intro b h1 h2 h3; have h4 : _ = _ := h3; (try dsimp only at h2); exfalso; omega)
                  replace hw := hw.chg k_4 (by intro x h1 h2; have h3 : _ = _ := h2; exfalso; omega)
                  replace hb_3 := hn_4
                  refine WL.assign rfl rfl (WL.assign rfl rfl (WL.nil (WX.then_normal (WC.seq (WC.seq (WC.region (WL.move rfl rfl (?_))))))))
                  refine WL.neq? rfl rfl rfl (fun h62 => ?_) (fun h62 => ?_)
                  ·
                    refine WL.nil (WX.then_normal (WC.cond_true rfl (WC.seq (WC.region (WL.move rfl rfl (WL.assign rfl rfl (WL.assign rfl rfl (?_))))))))
                    refine WL.assign rfl rfl (WL.nil (WX.then_normal (WC.ret (WX.then_ret (WX.block_ret (WX.then_ret (WX.then_ret (?_))))))))
                    refine WX.block_ret (WX.then_ret (?_))
                    refine WX.ret3 (.inl rfl) Tryd.results24 rfl rfl rfl ?_
                    first
                      | (have hk2 : findE s f b k ≠ 0 := h62
                         obtain ⟨b1, b2⟩ := a1 hk2
                         obtain ⟨d1, d2, d3⟩ := open_end hO (k := k + 1) (by omega) (.inl b1)
                         rw [b2] at d1
                         rw [d1, openL_no (by rw [d1]; exact hk2)]
                         exact ⟨_, rfl, ⟨none, none, 0, rfl, Row.nil _ _ _ _, fun _ => rfl, fun h9 => absurd h9 hk2⟩, hw⟩)
                      | (have hk2 : findE s f b k = 0 := h62
                         obtain ⟨b1, b2, b3, b4⟩ := a2 hk2 hP
                         obtain ⟨d1, d2, d3⟩ := open_end hO (k := k + 1) (by omega) (.inl b1)
                         rw [b2] at d1
                         have d4 := d3 d1
                         rw [b3] at d4
                         rw [b4] at d2
                         rw [d1, d4, d2]
                         exact ⟨_, rfl, ⟨some ⟨g_1, 0, none⟩, ao, cp, rfl, hout.mono (fun x hx => by omega), fun h9 => absurd rfl h9, fun _ => ⟨g_1, rfl, by omega, fun q hq => (hout.at_ q hq).1.2, hb1, hlk⟩⟩, hw⟩)
                      | (have hkc : k = c.toNat := by omega
                         obtain ⟨d1, d2, d3⟩ := open_end hO (k := k) (by omega) (.inr hkc)
                         rw [hE0] at d1
                         rw [d1, d3 d1, d2]
                         exact ⟨_, rfl, ⟨some ⟨g_1, 0, none⟩, ao, cp, rfl, hout.mono (fun x hx => by omega), fun h9 => absurd rfl h9, fun _ => ⟨g_1, rfl, by omega, fun q hq => (hout.at_ q hq).1.2, hb1, hlk⟩⟩, hw⟩)
                      | (have hno : ¬ opOk s f c b := by
                           rintro ⟨o1, o2, o3, o4, o5, o6⟩
                           omega
                         have d1 := open_no hno
                         rw [d1, openL_no (by rw [d1]; decide)]
                         exact ⟨_, rfl, ⟨none, none, 0, rfl, Row.nil _ _ _ _, fun _ => rfl, fun h9 => absurd h9 (by decide)⟩, hw⟩)
                  ·
                    refine WL.nil (WX.then_normal (WC.cond_false rfl (WC.skip (WX.then_normal (WC.seq (WC.seq (WC.region (?_))))))))
                    refine WL.move rfl rfl (WL.not rfl rfl (WL.nil (WX.then_normal (WC.cond_false rfl (WC.skip (WX.then_normal (WC.seq (?_))))))))
                    refine WC.region (WL.fieldAddr (fld_108_3) rfl rfl (?_))
                    have hb15 := Blk.eqc (cs' := epc.f p) hb_3 rfl
                    have hg3 : w3.heap.size ≤ g_3 := by omega
                    refine WL.loadB Tryd.isAgg9 hb15 rfl rfl rfl ?_
                    have hzz := hw.size
                    replace hBd := hBd.kbs
                    refine WL.call eg_55 rfl rfl (bwrite_calls hBd p.text (by omega)) ?_
                    rintro v w6 ⟨rfl, hBd6, k6⟩
                    replace hb1 := hb1.chg k6 (fun x => x.1.1.2 rfl)
                    replace hout := hout.chgK k6 (fun x _ m => by rcases m.2 with e | e <;> rw [e] <;> decide)
                    replace h := h.chg k6 (fun x _ h1 m => by have := m.1.1.1; omega)
                    replace hw := hw.chg k6 (fun x h1 m => by have := m.1.1.1; omega)
                    replace hb15 := hb15.chg k6 (fun m => by have := m.1.2; omega)
                    replace hBd6 := hBd6.mono (S' := fun x => n1 ≤ x ∧ x ≠ g_1 ∧ x ≠ g_3) (fun x hx => by rcases hx with hx | hx; exact ⟨hx.1.1.1, hx.1.1.2, by have := hx.1.2; omega⟩; exact ⟨by omega, by omega, by have := hb15.lt; omega⟩)
                    have z6 := k6.size
                    refine WL.nil (WX.then_normal (WC.seq (WC.region (WL.fieldAddr (fld_108_2) rfl rfl (WL.loadB Tryd.isAgg3 hb15 rfl rfl rfl (?_))))))
                    refine WL.eql? rfl rfl rfl (fun h71 => ?_) (fun h71 => ?_)
                    ·
                      refine WL.nil (WX.then_normal (WC.cond_true rfl (WC.seq (WC.region (WL.move rfl rfl (?_))))))
                      replace hBd6 := hBd6.kbs
                      refine WL.call eg_56 rfl rfl (bstring_calls hBd6 (by simp; omega)) ?_
                      rintro v w7 ⟨rfl, ⟨u7, v7, hB7⟩, k7⟩
                      replace hb1 := hb1.chg k7 (fun x => x.1.2.1 rfl)
                      replace hout := hout.chgK k7 (fun x _ m => by rcases m.2 with e | e <;> rw [e] <;> decide)
                      replace h := h.chg k7 (fun x _ h1 m => by have := m.1.1; omega)
                      replace hw := hw.chg k7 (fun x h1 m => by have := m.1.1; omega)
                      have z7 := k7.size
                      have hzz7 := hw.size
                      refine WL.build (e := es) [bs ((opA s f b k).acc ++ p.text.data.toList)] Tryd.underlying56 Tryd.sizeOf9 Tryd.zeroValue9 rfl rfl rfl (by simp [Value.cells] <;> rfl) (by decide) rfl ?_
                      intro a_hn w_hn hn l_hn z_hn k_hn
                      have zs_k_hn := k_hn.size
                      replace hb1 := hb1.pure k_hn
                      replace hB7 := hB7.pure k_hn
                      replace hout := hout.pure k_hn
                      replace h := h.pure k_hn
                      replace hw := hw.pure k_hn
                      replace hout := hout.kb.mono (S' := fun x => n1 ≤ x ∧ x ≠ g_1 ∧ x ≠ g_2) (fun x hx => ⟨hx.1.1.1, hx.1.1.2, fun e => by have h1 := hx.2; rw [e, hB7.kb] at h1; exact absurd h1 (by decide)⟩)
                      refine WL.append (e := es) info_9 rfl Tryd.underlying56 rfl rfl hout (hn.rsl.src Tryd.underlying56) (by (try simp only [List.length_append, List.length_cons, List.length_nil] at *); omega) (by intro b hb; first | (apply hS; omega) | ((try dsimp only); omega)) rfl ?_
                      intro a_hout2 c_hout2 w_hout2 hout2 g_hout2 n_hout2
                      have z_hout2 := g_hout2.chg.size
                      have zs_g_hout2_chg := g_hout2.chg.size
                      replace hb1 := hb1.chg g_hout2.chg (by intro h1; exfalso; have h4 := h1.2; (try dsimp only at *); omega)
                      replace hB7 := hB7.chg g_hout2.chg (by intro h1; exfalso; have h4 := h1.2; (try dsimp only at *); omega)
                      replace h := h.chg g_hout2.chg (by intros; exfalso; (try dsimp only at *); omega)
                      replace hw := hw.chg g_hout2.chg (by intros; exfalso; (try dsimp only at *); omega)
                      refine WL.assign rfl rfl (WL.nil (WX.then_normal (WC.seq (WC.region (?_)))))
                      refine WL.call eg_57 rfl rfl (breset_calls hB7) ?_
                      rintro v w8 ⟨rfl, hBd8, k8⟩
                      have zs_k8 := k8.size
                      replace hb1 := hb1.chg k8 (by intro h1; have h2 : _ = _ := h1; exfalso; omega)
                      replace h := h.chg k8 (by intro b h1 h2 h3; have h4 : _ = _ := h3; (try dsimp only at h2); exfalso; omega)
                      replace hw := hw.chg k8 (by intro x h1 h2; have h3 : _ = _ := h2; exfalso; omega)
                      replace hout2 := hout2.chg k8 (by intro b h1 h2 h3; have h4 : _ = _ := h3; (try dsimp only at h2); exfalso; omega)
                      refine WL.nil (WX.then_normal (WC.region (WL.move rfl rfl (WL.move rfl rfl (WL.add64 rfl rfl (by omega) rfl (WL.nilCheck rfl rfl (WL.fieldAddr (fld_103_4) rfl rfl (?_))))))))
                      refine WL.store Tryd.sizeOf3 hb1 rfl rfl rfl rfl ?_
                      intro w_5 hs_5 hn_5 k_5
                      have zs_k_5 := k_5.size
                      replace h := h.chg k_5 (by intro b h1 h2 h3; have h4 : _ = _ := h3; (try dsimp only at h2); exfalso; omega)
                      replace hw := hw.chg k_5 (by intro x h1 h2; have h3 : _ = _ := h2; exfalso; omega)
                      replace hout2 := hout2.chg k_5 (by intro b h1 h2 h3; have h4 : _ = _ := h3; (try dsimp only at h2); exfalso; omega)
                      replace hBd8 := hBd8.chg k_5 (by intro b h1 h2 h3; have h4 : _ = _ := h3; (try dsimp only at h2); exfalso; omega)
                      replace hb1 := hn_5
                      refine WL.nil (WX.block_normal (WX.then_normal (WC.region (WL.add64 rfl rfl (by omega) rfl (WL.move rfl rfl (WL.nil (?_)))))))
                      first
                        | (have hk2 : findE s f b k = 0 := h62
                           have hl1 : p.last = 1 := h71
                           have e1 := a3 p hk2 hP hl1
                           refine WX.loop_next (k + 1, a_hout2, c_hout2) ⟨rfl, ?_, rfl, rfl, rfl, trivial⟩ ⟨by show k + 1 ≤ c.toNat; omega, by rw [e1], by rw [e1], ?_, ?_, ?_, h, hw⟩ (by show c.toNat - (k + 1) < c.toNat - k; omega)
                           ·
                             dsimp only
                             rw [e1]
                             rfl
                           ·
                             rw [e1]
                             exact Blk.eqc hb1 rfl
                           ·
                             rw [e1]
                             exact hBd8.mono (fun x hx => by have : x = g_2 := hx; omega)
                           ·
                             dsimp only
                             rw [e1]
                             exact hout2.mono (fun x hx => ⟨hx.1, hx.2.1⟩))
                        | (have hk2 : findE s f b k = 0 := h62
                           have hl1 : p.last ≠ 1 := h71
                           have e1 := a4 p hk2 hP hl1
                           refine WX.loop_next (k + 1, ao, cp) ⟨rfl, ?_, rfl, rfl, rfl, trivial⟩ ⟨by show k + 1 ≤ c.toNat; omega, by rw [e1], by rw [e1], ?_, ?_, ?_, h, hw⟩ (by show c.toNat - (k + 1) < c.toNat - k; omega)
                           ·
                             dsimp only
                             rw [e1]
                             rfl
                           ·
                             rw [e1]
                             exact hb1
                           ·
                             rw [e1]
                             exact hBd6.mono (fun x hx => ⟨hx.1, hx.2.1⟩)
                           ·
                             dsimp only
                             rw [e1]
                             exact hout.mono (fun x hx => hx.1))
                    ·
                      refine WL.nil (WX.then_normal (WC.cond_false rfl (WC.skip (WX.block_normal (WX.then_normal (WC.region (WL.add64 rfl rfl (by omega) rfl (?_))))))))
                      refine WL.move rfl rfl (WL.nil (?_))
                      first
                        | (have hk2 : findE s f b k = 0 := h62
                           have hl1 : p.last = 1 := h71
                           have e1 := a3 p hk2 hP hl1
                           refine WX.loop_next (k + 1, a_hout2, c_hout2) ⟨rfl, ?_, rfl, rfl, rfl, trivial⟩ ⟨by show k + 1 ≤ c.toNat; omega, by rw [e1], by rw [e1], ?_, ?_, ?_, h, hw⟩ (by show c.toNat - (k + 1) < c.toNat - k; omega)
                           ·
                             dsimp only
                             rw [e1]
                             rfl
                           ·
                             rw [e1]
                             exact Blk.eqc hb1 rfl
                           ·
                             rw [e1]
                             exact hBd8.mono (fun x hx => by have : x = g_2 := hx; omega)
                           ·
                             dsimp only
                             rw [e1]
                             exact hout2.mono (fun x hx => ⟨hx.1, hx.2.1⟩))
                        | (have hk2 : findE s f b k = 0 := h62
                           have hl1 : p.last ≠ 1 := h71
                           have e1 := a4 p hk2 hP hl1
                           refine WX.loop_next (k + 1, ao, cp) ⟨rfl, ?_, rfl, rfl, rfl, trivial⟩ ⟨by show k + 1 ≤ c.toNat; omega, by rw [e1], by rw [e1], ?_, ?_, ?_, h, hw⟩ (by show c.toNat - (k + 1) < c.toNat - k; omega)
                           ·
                             dsimp only
                             rw [e1]
                             rfl
                           ·
                             rw [e1]
                             exact hb1
                           ·
                             rw [e1]
                             exact hBd6.mono (fun x hx => ⟨hx.1, hx.2.1⟩)
                           ·
                             dsimp only
                             rw [e1]
                             exact hout.mono (fun x hx => hx.1))
              ·
                refine WL.nil (WX.then_normal (WC.seq (WC.cond_false rfl (WC.exit (WX.then_exit (WX.then_exit (WX.block_here (?_))))))))
                refine WX.then_normal (WC.seq (WC.region (WL.move rfl rfl (WL.move rfl rfl (WL.assign rfl rfl (WL.assign rfl rfl (WL.assign rfl rfl (?_))))))))
                refine WL.nil (WX.then_normal (WC.ret (?_)))
                refine WX.ret3 (.inl rfl) Tryd.results24 rfl rfl rfl ?_
                first
                  | (have hk2 : findE s f b k ≠ 0 := h62
                     obtain ⟨b1, b2⟩ := a1 hk2
                     obtain ⟨d1, d2, d3⟩ := open_end hO (k := k + 1) (by omega) (.inl b1)
                     rw [b2] at d1
                     rw [d1, openL_no (by rw [d1]; exact hk2)]
                     exact ⟨_, rfl, ⟨none, none, 0, rfl, Row.nil _ _ _ _, fun _ => rfl, fun h9 => absurd h9 hk2⟩, hw⟩)
                  | (have hk2 : findE s f b k = 0 := h62
                     obtain ⟨b1, b2, b3, b4⟩ := a2 hk2 hP
                     obtain ⟨d1, d2, d3⟩ := open_end hO (k := k + 1) (by omega) (.inl b1)
                     rw [b2] at d1
                     have d4 := d3 d1
                     rw [b3] at d4
                     rw [b4] at d2
                     rw [d1, d4, d2]
                     exact ⟨_, rfl, ⟨some ⟨g_1, 0, none⟩, ao, cp, rfl, hout.mono (fun x hx => by omega), fun h9 => absurd rfl h9, fun _ => ⟨g_1, rfl, by omega, fun q hq => (hout.at_ q hq).1.2, hb1, hlk⟩⟩, hw⟩)
                  | (have hkc : k = c.toNat := by omega
                     obtain ⟨d1, d2, d3⟩ := open_end hO (k := k) (by omega) (.inr hkc)
                     rw [hE0] at d1
                     rw [d1, d3 d1, d2]
                     exact ⟨_, rfl, ⟨some ⟨g_1, 0, none⟩, ao, cp, rfl, hout.mono (fun x hx => by omega), fun h9 => absurd rfl h9, fun _ => ⟨g_1, rfl, by omega, fun q hq => (hout.at_ q hq).1.2, hb1, hlk⟩⟩, hw⟩)
                  | (have hno : ¬ opOk s f c b := by
                       rintro ⟨o1, o2, o3, o4, o5, o6⟩
                       omega
                     have d1 := open_no hno
                     rw [d1, openL_no (by rw [d1]; decide)]
                     exact ⟨_, rfl, ⟨none, none, 0, rfl, Row.nil _ _ _ _, fun _ => rfl, fun h9 => absurd h9 (by decide)⟩, hw⟩)
end Go.Proofs.YtjeldcjchipdgaaDoor
namespace Go.Proofs.YtjeldcjchipdgaaDoor
open Go.RowKit Go.HL
set_option maxRecDepth 100000

/-! writing pieces -/
theorem Blk.hb {w : World} {g : Nat} {T : TypeId} {cs : List Value} (h : Blk w g T cs) (A : Nat → Prop) (hA : ¬ A g) {w' : World} (k : Chg A w w') : Blk w' g T cs := h.chg k hA
set_option maxHeartbeats 2000000 in
theorem pwrite_calls {A : Nat → Prop} {w : World} {R L : Nat} {s : RA} {l : LgV} (h : RK A w R s) (hA : ∀ x, A x → x < w.heap.size) (hL : Blk w L 103 (lgC R l)) (hLA : ¬ A L) (hl : l.ok s.sn) (p : PcV) (hp : RtC p) (hn : p.num < l.c) (hw9 : s.waits.length ≤ 90000) :
    Calls Tryd.prog 58 [ptr L, .agg (epc.f p).toArray].toArray w (Ret fun v w' => v = .tuple #[vi (if (lwR s (l.f + p.num) (secB (cit p)) s.dn).2.2 = 0 then ((lwR s (l.f + p.num) (secB (cit p)) s.dn).2.1 : Int) else 0), vi (lwR s (l.f + p.num) (secB (cit p)) s.dn).2.2] ∧ RK (fun x => A x ∨ w.heap.size ≤ x) w' R (lwR s (l.f + p.num) (secB (cit p)) s.dn).1 ∧ Chg A w w') := by
  have hw := Chg.refl A w
  have hdn := h.ok.dn
  have hsn := h.ok.sn
  have lf := hl.f
  have lin := hl.in_
  have lR := hA R h.aR
  have pn := hp.n
  have hE : secE (cit p) = 0 := hp.ok
  have hB1 := pc_128 hp
  obtain ⟨B, eB⟩ : ∃ B, B = secB (cit p) := ⟨_, rfl⟩
  obtain ⟨at_, eat⟩ : ∃ a : Int, a = l.f + p.num := ⟨_, rfl⟩
  rw [← eB] at hB1 ⊢
  rw [← eat]
  refine Calls.of_WC Tryd.func58 rfl Tryd.ntmps58 (by simp) ?_
  refine WC.seq (WC.region (?_))
  refine WL.box rfl rfl ?_
  intro g_1 w_1 hge_1 hlt_1 hb_1 k_1
  have zs_k_1 := k_1.size
  replace h := h.pure k_1
  replace hL := hL.pure k_1
  replace hw := hw.pure k_1
  refine WL.assign rfl rfl (WL.assign rfl rfl (WL.nil (WX.then_normal (WC.seq (WC.region (?_))))))
  have hb1 : Blk _ g_1 108 (epc.f p) := hb_1
  refine WL.loads (epc.f p) Tryd.isAgg108 Tryd.sizeOf108 rfl (fun j v hj => by rw [Nat.zero_add]; exact hb1.cell hj) rfl rfl ?_
  refine WL.call eg_75 rfl rfl (psector_calls p _) ?_
  rintro v w2 ⟨⟨ao, c, rfl, hq⟩, k2⟩
  rw [← eB] at hq ⊢
  rw [hE]
  have zs_k2 := k2.size
  replace h := h.pure k2
  replace hL := hL.pure k2
  replace hw := hw.pure k2
  replace hb1 := hb1.pure k2
  replace hq := hq.lt
  refine WL.move rfl rfl (WL.extract rfl rfl rfl (WL.extract rfl rfl rfl (WL.assign rfl rfl (WL.assign rfl rfl (WL.nil (WX.then_normal (WC.seq (?_))))))))
  refine WC.seq (WC.region (WL.move rfl rfl (?_)))
  refine WL.neqF rfl rfl rfl (rfl) ?_
  refine WL.nil (WX.then_normal (WC.cond_false rfl (WC.skip (WX.then_normal (WC.seq (WC.region (WL.assign rfl rfl (?_))))))))
  refine WL.nil (WX.then_normal (WC.seq (WC.seq (WC.region (WL.move rfl rfl (WL.nilCheck rfl rfl (WL.fieldAddr (fld_103_0) rfl rfl (?_))))))))
  refine WL.loadB Tryd.isAgg41 hL rfl rfl rfl (?_)
  refine WL.call eg_43 rfl rfl (Drives_calls h) ?_
  rintro v w4 ⟨rfl, k4⟩
  have zs_k4 := k4.size
  replace h := h.pure k4
  replace hL := hL.pure k4
  replace hw := hw.pure k4
  replace hb1 := hb1.pure k4
  replace hq := hq.pure k4
  refine WL.move rfl rfl (WL.nil (WX.then_normal (WC.block (?_))))
  obtain ⟨n0, en0⟩ : ∃ n0, n0 = w4.heap.size := ⟨_, rfl⟩
  refine WC.loop (σ := Nat) (fun k => [(0, ptr L), (3, ptr g_1), (6, .slice ao B.length c), (8, vi ((lwR s at_ B k).2.1 : Int)), (23, vi (s.dn : Int)), (24, vi (k : Int))])
    (fun k w' => k ≤ s.dn ∧ (lwR s at_ B k).2.2 = 0 ∧ n0 ≤ w'.heap.size ∧ Blk w' g_1 108 (epc.f p) ∧ Blk w' L 103 (lgC R l) ∧ Row (fun x => w.heap.size ≤ x ∧ x < n0) w' 5 eb ao c B ∧ RK (fun x => A x ∨ n0 ≤ x) w' R (lwR s at_ B k).1 ∧ Chg A w w') (fun k => s.dn - k) 0 ⟨rfl, rfl, rfl, rfl, rfl, rfl, trivial⟩
    ⟨Nat.zero_le _, rfl, by omega, hb1, hL, hq.mono (fun x hx => by omega), h.mono (fun x hx => .inl hx), hw⟩ ?_
  have hLl := hL.lt
  have hgl := hb1.lt
  have hg1 : w.heap.size ≤ g_1 := hge_1
  clear hb1 hq h hw hL
  rintro k w3 ⟨hk, hk0, hn3, hb1, hL, hq, h, hw⟩
  obtain ⟨d1, d2, d3, d4, d5⟩ := lwR_dn s at_ B k
  refine WC.seq (WC.region (?_))
  refine WL.lss? rfl rfl rfl (fun h25 => ?_) (fun h25 => ?_)
  ·
    refine WL.nil (WX.then_normal (WC.seq (WC.cond_true rfl (WC.skip (WX.then_normal (WC.seq (WC.block (?_))))))))
    refine WC.seq (WC.region (WL.move rfl rfl (WL.assign rfl rfl (WL.nil (WX.then_normal (WC.seq (?_)))))))
    have hgA : ¬ (A g_1 ∨ n0 ≤ g_1) := fun h9 => by rcases h9 with h8 | h8; have := hA _ h8; omega; omega
    have hLA2 : ¬ (A L ∨ n0 ≤ L) := fun h9 => by rcases h9 with h8 | h8; exact hLA h8; omega
    refine WC.drawP ((fun x => (A x ∨ n0 ≤ x) ∧ x ≠ g_1 ∧ x ≠ L)) [0, 1, 2, 3, 4, 5, 6, 7, 8, 9, 10, 11, 12] [(13, [14])] mixed rfl rfl (fun wd_2 kd_2 zd_2 => ?_)
    have zs_kd_2 := kd_2.size
    replace hb1 := hb1.pure kd_2
    replace hL := hL.pure kd_2
    replace hq := hq.pure kd_2
    replace h := h.pure kd_2
    replace hw := hw.pure kd_2
    apply DPQ.step (E' := [(0, _)])
    case ho => rfl
    case hs => exact ⟨rfl, trivial⟩
    case hk => rfl
    case h1 =>
      intro wq_3 kq_3
      refine WL.move rfl rfl (?_)
      refine WL.nil ?_
      exact WX.one ⟨rfl, by exact Chg.refl _ _⟩
    apply DPQ.step (E' := [(27, _)])
    case ho => rfl
    case hs => exact ⟨rfl, trivial⟩
    case hk => rfl
    case h1 =>
      intro wq_4 kq_4
      refine WL.nilCheck rfl rfl (?_)
      refine WL.nil ?_
      exact WX.one ⟨rfl, by exact Chg.refl _ _⟩
    apply DPQ.step (E' := [(28, _)])
    case ho => rfl
    case hs => exact ⟨rfl, trivial⟩
    case hk => rfl
    case h1 =>
      intro wq_5 kq_5
      refine WL.fieldAddr (fld_103_0) rfl rfl (?_)
      refine WL.nil ?_
      exact WX.one ⟨rfl, by exact Chg.refl _ _⟩
    apply DPQ.step (E' := [(29, _)])
    case ho => rfl
    case hs => exact ⟨rfl, trivial⟩
    case hk => rfl
    case h1 =>
      intro wq_6 kq_6
      have zs_kq_6 := kq_6.size
      replace hb1 := hb1.chg kq_6 (by intro h1; exfalso; have h4 := h1.2; (try dsimp only at *); omega)
      replace hL := hL.chg kq_6 (by intro h1; exfalso; have h4 := h1.2; (try dsimp only at *); omega)
      refine WL.loadB Tryd.isAgg41 hL rfl rfl rfl (?_)
      refine WL.nil ?_
      exact WX.one ⟨rfl, by exact Chg.refl _ _⟩
    apply DPQ.step (E' := [(9, _)])
    case ho => rfl
    case hs => exact ⟨rfl, trivial⟩
    case hk => rfl
    case h1 =>
      intro wq_7 kq_7
      refine WL.move rfl rfl (?_)
      refine WL.nil ?_
      exact WX.one ⟨rfl, by exact Chg.refl _ _⟩
    apply DPQ.step (E' := [(0, _)])
    case ho => rfl
    case hs => exact ⟨rfl, trivial⟩
    case hk => rfl
    case h1 =>
      intro wq_8 kq_8
      refine WL.move rfl rfl (?_)
      refine WL.nil ?_
      exact WX.one ⟨rfl, by exact Chg.refl _ _⟩
    apply DPQ.step (E' := [(32, _)])
    case ho => rfl
    case hs => exact ⟨rfl, trivial⟩
    case hk => rfl
    case h1 =>
      intro wq_9 kq_9
      refine WL.nilCheck rfl rfl (?_)
      refine WL.nil ?_
      exact WX.one ⟨rfl, by exact Chg.refl _ _⟩
    apply DPQ.step (E' := [(33, _)])
    case ho => rfl
    case hs => exact ⟨rfl, trivial⟩
    case hk => rfl
    case h1 =>
      intro wq_10 kq_10
      refine WL.fieldAddr (fld_103_1) rfl rfl (?_)
      refine WL.nil ?_
      exact WX.one ⟨rfl, by exact Chg.refl _ _⟩
    apply DPQ.step (E' := [(34, _)])
    case ho => rfl
    case hs => exact ⟨rfl, trivial⟩
    case hk => rfl
    case h1 =>
      intro wq_11 kq_11
      have zs_kq_11 := kq_11.size
      replace hb1 := hb1.chg kq_11 (by intro h1; exfalso; have h4 := h1.2; (try dsimp only at *); omega)
      replace hL := hL.chg kq_11 (by intro h1; exfalso; have h4 := h1.2; (try dsimp only at *); omega)
      refine WL.loadB Tryd.isAgg3 hL rfl rfl rfl (?_)
      refine WL.nil ?_
      exact WX.one ⟨rfl, by exact Chg.refl _ _⟩
    apply DPQ.step (E' := [(3, _)])
    case ho => rfl
    case hs => exact ⟨rfl, trivial⟩
    case hk => rfl
    case h1 =>
      intro wq_12 kq_12
      refine WL.fieldAddr (fld_108_1) rfl rfl (?_)
      refine WL.nil ?_
      exact WX.one ⟨rfl, by exact Chg.refl _ _⟩
    apply DPQ.step (E' := [(36, _)])
    case ho => rfl
    case hs => exact ⟨rfl, trivial⟩
    case hk => rfl
    case h1 =>
      intro wq_13 kq_13
      have zs_kq_13 := kq_13.size
      replace hb1 := hb1.chg kq_13 (by intro h1; exfalso; have h4 := h1.2; (try dsimp only at *); omega)
      replace hL := hL.chg kq_13 (by intro h1; exfalso; have h4 := h1.2; (try dsimp only at *); omega)
      refine WL.loadB Tryd.isAgg3 hb1 rfl rfl rfl (?_)
      refine WL.nil ?_
      exact WX.one ⟨rfl, by exact Chg.refl _ _⟩
    apply DPQ.step (E' := [(35, _), (37, _)])
    case ho => rfl
    case hs => exact ⟨rfl, rfl, trivial⟩
    case hk => rfl
    case h1 =>
      intro wq_14 kq_14
      refine WL.add64 rfl rfl (by omega) rfl (?_)
      refine WL.nil ?_
      exact WX.one ⟨rfl, by exact Chg.refl _ _⟩
    apply DPQ.step (E' := [(6, _)])
    case ho => rfl
    case hs => exact ⟨rfl, trivial⟩
    case hk => rfl
    case h1 =>
      intro wq_15 kq_15
      refine WL.move rfl rfl (?_)
      refine WL.nil ?_
      exact WX.one ⟨rfl, by exact Chg.refl _ _⟩
    refine DPQ.done ?_
    refine DPR.step [(30, _), (31, _), (38, _), (39, _)] rfl ⟨rfl, rfl, rfl, rfl, trivial⟩ rfl (fun wq_16 kq_16 => ?_)
    have zs_kq_16 := kq_16.size
    replace hb1 := hb1.pure kq_16
    replace hL := hL.pure kq_16
    replace hq := hq.pure kq_16
    replace h := h.pure kq_16
    replace hw := hw.pure kq_16
    have hd_16 := Chg.refl ((fun x => (A x ∨ n0 ≤ x) ∧ x ≠ g_1 ∧ x ≠ L)) wq_16
    rw [← eat]
    have hn9 : (lwR s at_ B k).1.waits.length ≤ 100000 := by omega
    have hR0 := hA R
    have aR0 : R < w.heap.size := lR
    have hq2 : RSl (fun x => w.heap.size ≤ x ∧ x < n0) _ eb ao c B := hq.rsl
    refine WL.call eg_44 rfl rfl (Write_calls h k at_ hq2 (fun x h1 h2 => absurd (h2 ▸ h1.1) (Nat.not_le.2 aR0)) hn9) ?_
    rintro v w5 ⟨rfl, h5, k5⟩
    have z5 := k5.size
    replace h5 : RK (fun x => A x ∨ n0 ≤ x) w5 R (writeS (lwR s at_ B k).1 k at_ B) := h5.mono (fun x hx => by rcases hx with h6 | h6; exact h6; right; omega)
    have hq5 := hq.chg k5 (fun b h1 h2 h3 => by rcases h3 with h4 | h4; have := hA b h4; omega; omega)
    have hw5 : Chg A w w5 := hw.trans k5 (fun x h1 h2 => by rcases h2 with h4 | h4; exact h4; exfalso; omega)
    have k6 := k5.mono (M' := fun x => (A x ∨ n0 ≤ x) ∧ x ≠ g_1 ∧ x ≠ L) (fun x _ m => ⟨m, fun e => hgA (e ▸ m), fun e => hLA2 (e ▸ m)⟩)
    have zs_k6 := k6.size
    replace hb1 := hb1.chg k6 (by intro h1; exfalso; have h4 := h1.2; (try dsimp only at *); omega)
    replace hL := hL.chg k6 (by intro h1; exfalso; have h4 := h1.2; (try dsimp only at *); omega)
    replace hd_16 := hd_16.chg k6 (by intro x h1 h2; exact h2)
    refine WL.nil ?_
    refine WX.one ⟨hd_16, ?_⟩
    apply DPQ.step (E' := [(40, _)])
    case ho => rfl
    case hs => exact ⟨rfl, trivial⟩
    case hk => rfl
    case h1 =>
      intro wq_17 kq_17
      refine WL.assign rfl rfl (?_)
      refine WL.nil ?_
      exact WX.one ⟨rfl, by exact Chg.refl _ _⟩
    refine DPQ.done ?_
    refine DPR.done (fun we_18 ke_18 => ?_)
    have zs_ke_18 := ke_18.size
    replace hb1 := hb1.pure ke_18
    replace hL := hL.pure ke_18
    replace hq5 := hq5.pure ke_18
    replace h5 := h5.pure ke_18
    replace hw5 := hw5.pure ke_18
    refine WX.then_normal (WC.seq (WC.region (WL.move rfl rfl (WL.nil (WX.then_normal (WC.block (WC.seq (?_))))))))
    refine WC.region (?_)
    refine WL.eql? rfl rfl rfl (fun h44 => ?_) (fun h44 => ?_)
    ·
      refine WL.assign rfl rfl (WL.nil (WX.then_normal (WC.cond_true rfl (WC.region (WL.move rfl rfl (WL.add64 rfl rfl (by omega) rfl (WL.assign rfl rfl (?_))))))))
      refine WL.nil (WX.block_normal (WX.block_normal (WX.then_normal (WC.region (WL.add64 rfl rfl (by omega) rfl (WL.move rfl rfl (WL.nil (?_))))))))
      first
        | (have hz : writeE (lwR s at_ B k).1 k at_ B.length = 0 := h44
           have e1 : lwR s at_ B (k + 1) = (writeS (lwR s at_ B k).1 k at_ B, (lwR s at_ B k).2.1 + 1, 0) := by
             rw [lwR, if_neg (fun h9 => h9 hk0), if_pos hz]
           have f1 : (lwR s at_ B (k + 1)).2.2 = 0 := by rw [e1]
           have f2 := h5
           have e1' : writeS (lwR s at_ B k).1 k at_ B = (lwR s at_ B (k + 1)).1 := by rw [e1]
           rw [e1'] at f2
           have f3 : ((lwR s at_ B (k + 1)).2.1 : Int) = ((lwR s at_ B k).2.1 : Int) + 1 := by rw [e1]; rfl
           refine WX.loop_next (k + 1) ⟨rfl, rfl, rfl, ?_, rfl, rfl, trivial⟩ ⟨by omega, f1, by omega, hb1, hL, hq5, f2, hw5⟩ (by show _ - _ < _ - _; omega)
           rw [f3]
           rfl)
        | (have hz : writeE (lwR s at_ B k).1 k at_ B.length ≠ 0 := h44
           have hz2 : writeE (lwR s at_ B k).1 k at_ B.length = 3 := h48
           have e1 : lwR s at_ B (k + 1) = (writeS (lwR s at_ B k).1 k at_ B, (lwR s at_ B k).2.1, 0) := by
             rw [lwR, if_neg (fun h9 => h9 hk0), if_neg hz, if_pos hz2]
           have f1 : (lwR s at_ B (k + 1)).2.2 = 0 := by rw [e1]
           have f2 := h5
           have e1' : writeS (lwR s at_ B k).1 k at_ B = (lwR s at_ B (k + 1)).1 := by rw [e1]
           rw [e1'] at f2
           have f3 : ((lwR s at_ B (k + 1)).2.1 : Int) = ((lwR s at_ B k).2.1 : Int) := by rw [e1]
           refine WX.loop_next (k + 1) ⟨rfl, rfl, rfl, ?_, rfl, rfl, trivial⟩ ⟨by omega, f1, by omega, hb1, hL, hq5, f2, hw5⟩ (by show _ - _ < _ - _; omega)
           rw [f3]
           rfl)
    ·
      refine WL.assign rfl rfl (WL.nil (WX.then_normal (WC.cond_false rfl (WC.seq (WC.region (?_))))))
      refine WL.eql? rfl rfl rfl (fun h48 => ?_) (fun h48 => ?_)
      ·
        refine WL.assign rfl rfl (WL.nil (WX.then_normal (WC.cond_true rfl (WC.skip (WX.block_normal (WX.block_normal (WX.then_normal (?_))))))))
        refine WC.region (WL.add64 rfl rfl (by omega) rfl (WL.move rfl rfl (WL.nil (?_))))
        first
          | (have hz : writeE (lwR s at_ B k).1 k at_ B.length = 0 := h44
             have e1 : lwR s at_ B (k + 1) = (writeS (lwR s at_ B k).1 k at_ B, (lwR s at_ B k).2.1 + 1, 0) := by
               rw [lwR, if_neg (fun h9 => h9 hk0), if_pos hz]
             have f1 : (lwR s at_ B (k + 1)).2.2 = 0 := by rw [e1]
             have f2 := h5
             have e1' : writeS (lwR s at_ B k).1 k at_ B = (lwR s at_ B (k + 1)).1 := by rw [e1]
             rw [e1'] at f2
             have f3 : ((lwR s at_ B (k + 1)).2.1 : Int) = ((lwR s at_ B k).2.1 : Int) + 1 := by rw [e1]; rfl
             refine WX.loop_next (k + 1) ⟨rfl, rfl, rfl, ?_, rfl, rfl, trivial⟩ ⟨by omega, f1, by omega, hb1, hL, hq5, f2, hw5⟩ (by show _ - _ < _ - _; omega)
             rw [f3]
             rfl)
          | (have hz : writeE (lwR s at_ B k).1 k at_ B.length ≠ 0 := h44
             have hz2 : writeE (lwR s at_ B k).1 k at_ B.length = 3 := h48
             have e1 : lwR s at_ B (k + 1) = (writeS (lwR s at_ B k).1 k at_ B, (lwR s at_ B k).2.1, 0) := by
               rw [lwR, if_neg (fun h9 => h9 hk0), if_neg hz, if_pos hz2]
             have f1 : (lwR s at_ B (k + 1)).2.2 = 0 := by rw [e1]
             have f2 := h5
             have e1' : writeS (lwR s at_ B k).1 k at_ B = (lwR s at_ B (k + 1)).1 := by rw [e1]
             rw [e1'] at f2
             have f3 : ((lwR s at_ B (k + 1)).2.1 : Int) = ((lwR s at_ B k).2.1 : Int) := by rw [e1]
             refine WX.loop_next (k + 1) ⟨rfl, rfl, rfl, ?_, rfl, rfl, trivial⟩ ⟨by omega, f1, by omega, hb1, hL, hq5, f2, hw5⟩ (by show _ - _ < _ - _; omega)
             rw [f3]
             rfl)
      ·
        refine WL.assign rfl rfl (WL.nil (WX.then_normal (WC.cond_false rfl (WC.seq (WC.region (WL.move rfl rfl (WL.assign rfl rfl (?_))))))))
        refine WL.assign rfl rfl (WL.nil (WX.then_normal (WC.ret (WX.block_ret (WX.block_ret (WX.then_ret (WX.then_ret (?_))))))))
        refine WX.block_ret (WX.then_ret (?_))
        refine WX.ret2 (.inl rfl) Tryd.results58 rfl rfl ?_
        first
          | (have hz : writeE (lwR s at_ B k).1 k at_ B.length ≠ 0 := h44
             have hz2 : writeE (lwR s at_ B k).1 k at_ B.length ≠ 3 := h48
             have e1 : lwR s at_ B (k + 1) = (writeS (lwR s at_ B k).1 k at_ B, 0, writeE (lwR s at_ B k).1 k at_ B.length) := by
               rw [lwR, if_neg (fun h9 => h9 hk0), if_neg hz, if_neg hz2]
             have e2 : lwR s at_ B s.dn = lwR s at_ B (k + 1) := by
               have := lwR_stuck (s0 := s) (at_ := at_) (B := B) (k := k + 1) (by rw [e1]; exact hz) (s.dn - (k + 1))
               rw [show k + 1 + (s.dn - (k + 1)) = s.dn from by omega] at this
               exact this
             rw [e2, e1, if_neg hz]
             exact ⟨_, rfl, rfl, h5.mono (fun x hx => by rcases hx with h6 | h6; exact .inl h6; right; omega), hw5⟩)
          | (obtain rfl : k = s.dn := by omega
             rw [if_pos hk0, hk0]
             exact ⟨_, rfl, rfl, h.mono (fun x hx => by rcases hx with h6 | h6; exact .inl h6; right; omega), hw⟩)
  ·
    refine WL.nil (WX.then_normal (WC.seq (WC.cond_false rfl (WC.exit (WX.then_exit (WX.then_exit (WX.block_here (?_))))))))
    refine WX.then_normal (WC.seq (WC.region (WL.move rfl rfl (WL.assign rfl rfl (WL.assign rfl rfl (WL.nil (WX.then_normal (?_))))))))
    refine WC.ret (?_)
    refine WX.ret2 (.inl rfl) Tryd.results58 rfl rfl ?_
    first
      | (have hz : writeE (lwR s at_ B k).1 k at_ B.length ≠ 0 := h44
         have hz2 : writeE (lwR s at_ B k).1 k at_ B.length ≠ 3 := h48
         have e1 : lwR s at_ B (k + 1) = (writeS (lwR s at_ B k).1 k at_ B, 0, writeE (lwR s at_ B k).1 k at_ B.length) := by
           rw [lwR, if_neg (fun h9 => h9 hk0), if_neg hz, if_neg hz2]
         have e2 : lwR s at_ B s.dn = lwR s at_ B (k + 1) := by
           have := lwR_stuck (s0 := s) (at_ := at_) (B := B) (k := k + 1) (by rw [e1]; exact hz) (s.dn - (k + 1))
           rw [show k + 1 + (s.dn - (k + 1)) = s.dn from by omega] at this
           exact this
         rw [e2, e1, if_neg hz]
         exact ⟨_, rfl, rfl, h5.mono (fun x hx => by rcases hx with h6 | h6; exact .inl h6; right; omega), hw5⟩)
      | (obtain rfl : k = s.dn := by omega
         rw [if_pos hk0, hk0]
         exact ⟨_, rfl, rfl, h.mono (fun x hx => by rcases hx with h6 | h6; exact .inl h6; right; omega), hw⟩)
end Go.Proofs.YtjeldcjchipdgaaDoor
