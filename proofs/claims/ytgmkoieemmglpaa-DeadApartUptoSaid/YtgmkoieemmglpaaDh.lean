import Derived.Test.YtgmkoieemmglpaaDg
namespace Go.Proofs.Ytgmkoieemmglpaa
open Go.RowKit Go.HL

/-! the document's Right, SameLine -/
set_option maxHeartbeats 1000000 in
theorem right_calls {S : Nat → Prop} {w : World} {l : LnV} (h : LS S w l) (hs : Sm 60 l) : Calls Try.prog 11 [lval l].toArray w (Ret fun v w' => (∃ b : Bool, v = .bool b ∧ (b = true ↔ l.abs.Right)) ∧ Chg Nob w w') := by
  have hw := Chg.refl Nob w
  have hsn := hs.snaps
  have hsd := hs.dead
  replace h := h.old
  obtain ⟨ba, sa, sc, sn, da, dc, de⟩ := l
  simp only at hsn hsd
  obtain ⟨L, hL⟩ : ∃ L, L = LnV.abs ⟨ba, sa, sc, sn, da, dc, de⟩ := ⟨_, rfl⟩
  have hLs : L.snaps = sabs sn := by rw [hL]; rfl
  have hLd : L.dead = de := by rw [hL]; rfl
  have hLb : L.base = ba := by rw [hL]; rfl
  have hLl : L.snaps.length = sn.length := by rw [hLs]; exact sabs_len _
  rw [← hL]
  refine Calls.of_WC Try.func11 rfl Try.ntmps11 (by simp) ?_
  refine WC.seq (WC.region (?_))
  refine WL.box rfl rfl ?_
  intro g_1 w_1 hge_1 hlt_1 hb_1 k_1
  have zs_k_1 := k_1.size
  replace h := h.pure k_1
  replace hw := hw.pure k_1
  refine WL.assign rfl rfl (WL.nil (WX.then_normal (WC.seq (WC.seq (WC.region (WL.fieldAddr (fld_25_0) rfl rfl (WL.loadB Try.isAgg3 hb_1 rfl rfl rfl (?_))))))))
  refine WL.lss? rfl rfl rfl (fun h6 => ?_) (fun h6 => ?_)
  ·
    refine WL.nil (WX.then_normal (WC.cond_true rfl (WC.seq (WC.region (WL.assign rfl rfl (WL.nil (WX.then_normal (?_))))))))
    refine WC.ret (WX.then_ret (?_))
    refine WX.ret1 (.inl rfl) Try.results11 rfl ?_
    first
      | (have hh : ba < 0 := h6
         refine ⟨_, rfl, ⟨false, rfl, (fun h => by cases h), (fun hR => ?_)⟩, hw⟩
         have := hR.base
         omega)
      | (have hh : x.txg ≤ L.ahead i := h23
         refine ⟨_, rfl, ⟨false, rfl, (fun h => by cases h), (fun hR => ?_)⟩, hw⟩
         have h1 : L.ahead i < x.txg := (hR.snaps i _ hxa).1
         omega)
      | (have hh : (!b5) = true := hc36
         refine ⟨_, rfl, ⟨false, rfl, (fun h => by cases h), (fun hR => ?_)⟩, hw⟩
         have h1 := hb5.2 (hR.snaps i _ hxa).2
         rw [h1] at hh
         cases hh)
      | (have hil : i = sn.length := by omega
         subst hil
         have hb0' : 0 ≤ ba := h6
         refine ⟨_, rfl, ⟨b6, rfl, fun h => ⟨by omega, by rw [hLd, hLl]; exact hb6.1 h, fun j y hy => hno j y (by rw [← hLl]; exact (List.getElem?_eq_some_iff.1 hy).1) hy⟩, fun hR => ?_⟩, hw⟩
         have h1 := hR.dead
         rw [hLd, hLl] at h1
         exact hb6.2 h1)
  ·
    refine WL.nil (WX.then_normal (WC.cond_false rfl (WC.skip (WX.then_normal (WC.seq (WC.seq (WC.region (?_))))))))
    refine WL.assign rfl rfl (WL.nil (WX.then_normal (WC.block (?_))))
    have hb0 : Blk _ g_1 25 [vi ba, .slice sa sn.length sc, .slice da de.length dc] := hb_1
    refine WC.loop (σ := Nat) (fun i => [(1, gptr g_1), (3, vi (i : Int))]) (fun i w' => i ≤ sn.length ∧ Blk w' g_1 25 [vi ba, .slice sa sn.length sc, .slice da de.length dc] ∧ LS (· < w.heap.size) w' ⟨ba, sa, sc, sn, da, dc, de⟩ ∧ Chg Nob w w' ∧ ∀ j x, j < i → L.snaps[j]? = some x → L.ahead j < x.1 ∧ ∀ p ∈ x.2, p.b ≤ L.ahead j) (fun i => sn.length - i) 0 ⟨rfl, rfl, trivial⟩ ⟨Nat.zero_le _, hb0, h, hw, fun j x hj => by omega⟩ ?_
    clear h hw hb0 hb_1
    rintro i w1 ⟨hi, hb0, h, hw, hno⟩
    refine WC.seq (WC.seq (WC.region (WL.move rfl rfl (WL.fieldAddr (fld_25_1) rfl rfl (WL.loadB Try.isAgg22 hb0 rfl rfl rfl (WL.len Try.underlying22 rfl rfl (?_)))))))
    refine WL.lss? rfl rfl rfl (fun h11 => ?_) (fun h11 => ?_)
    ·
      refine WL.nil (WX.then_normal (WC.cond_true rfl (WC.skip (WX.then_normal (WC.seq (WC.block (WC.seq (?_))))))))
      obtain ⟨x, hx⟩ : ∃ x, sn[i]? = some x := ⟨_, List.getElem?_eq_getElem (by omega)⟩
      have hxa := sabs_at hx
      rw [← hLs] at hxa
      have hxm := List.mem_of_getElem? hx
      have hxd := hs.inner x hxm
      obtain ⟨b1, o1, rfl⟩ := h.snaps.place hx
      refine WC.draw (Nob) [0, 1, 2, 3, 4, 5, 6, 7, 8, 9, 10, 11, 12, 13, 14, 15, 16, 17, 18, 19] [20, 21, 22] mixed rfl rfl (fun wd_2 kd_2 zd_2 => ?_)
      have zs_kd_2 := kd_2.size
      replace hb0 := hb0.pure kd_2
      replace h := h.pure kd_2
      replace hw := hw.pure kd_2
      apply DQ.step (E' := [(1, _)])
      case ho => rfl
      case hs => exact ⟨rfl, trivial⟩
      case hk => rfl
      case h1 =>
        intro wq_4 kq_4
        refine WL.fieldAddr (fld_25_1) rfl rfl (?_)
        refine WL.nil ?_
        exact WX.one ⟨rfl, by first | exact Chg.refl _ _ | assumption⟩
      apply DQ.step (E' := [(14, _)])
      case ho => rfl
      case hs => exact ⟨rfl, trivial⟩
      case hk => rfl
      case h1 =>
        intro wq_5 kq_5
        have zs_kq_5 := kq_5.size
        replace hb0 := hb0.pure kq_5
        replace h := h.pure kq_5
        replace hw := hw.pure kq_5
        refine WL.loadB Try.isAgg22 hb0 rfl rfl rfl (?_)
        refine WL.nil ?_
        exact WX.one ⟨rfl, by first | exact Chg.refl _ _ | assumption⟩
      apply DQ.step (E' := [(3, _)])
      case ho => rfl
      case hs => exact ⟨rfl, trivial⟩
      case hk => rfl
      case h1 =>
        intro wq_6 kq_6
        refine WL.move rfl rfl (?_)
        refine WL.nil ?_
        exact WX.one ⟨rfl, by first | exact Chg.refl _ _ | assumption⟩
      apply DQ.step (E' := [(15, _), (16, _)])
      case ho => rfl
      case hs => exact ⟨rfl, rfl, trivial⟩
      case hk => rfl
      case h1 =>
        intro wq_7 kq_7
        have zs_kq_7 := kq_7.size
        replace hb0 := hb0.pure kq_7
        replace h := h.pure kq_7
        replace hw := hw.pure kq_7
        refine WL.indexC (e := esn) h.snaps Try.underlying22 Try.sizeOf72 rfl rfl ⟨hx, rfl⟩ rfl ?_
        refine WL.nil ?_
        exact WX.one ⟨rfl, by first | exact Chg.refl _ _ | assumption⟩
      apply DQ.step (E' := [(17, _)])
      case ho => rfl
      case hs => exact ⟨rfl, trivial⟩
      case hk => rfl
      case h1 =>
        intro wq_8 kq_8
        refine WL.fieldAddr (fld_72_0) rfl rfl (?_)
        refine WL.nil ?_
        exact WX.one ⟨rfl, by first | exact Chg.refl _ _ | assumption⟩
      apply DQ.step (E' := [(18, _)])
      case ho => rfl
      case hs => exact ⟨rfl, trivial⟩
      case hk => rfl
      case h1 =>
        intro wq_9 kq_9
        have zs_kq_9 := kq_9.size
        replace hb0 := hb0.pure kq_9
        replace h := h.pure kq_9
        replace hw := hw.pure kq_9
        refine WL.load Try.isAgg3 rfl (h.snaps.cellsAt hx 0 _ rfl) rfl ?_
        refine WL.nil ?_
        exact WX.one ⟨rfl, by first | exact Chg.refl _ _ | assumption⟩
      apply DQ.step (E' := [(1, _)])
      case ho => rfl
      case hs => exact ⟨rfl, trivial⟩
      case hk => rfl
      case h1 =>
        intro wq_10 kq_10
        have zs_kq_10 := kq_10.size
        replace hb0 := hb0.pure kq_10
        replace h := h.pure kq_10
        replace hw := hw.pure kq_10
        refine WL.loadsB Try.isAgg25 Try.sizeOf25 hb0 rfl rfl rfl ?_
        refine WL.nil ?_
        exact WX.one ⟨rfl, by first | exact Chg.refl _ _ | assumption⟩
      apply DQ.step (E' := [(3, _)])
      case ho => rfl
      case hs => exact ⟨rfl, trivial⟩
      case hk => rfl
      case h1 =>
        intro wq_11 kq_11
        refine WL.move rfl rfl (?_)
        refine WL.nil ?_
        exact WX.one ⟨rfl, by first | exact Chg.refl _ _ | assumption⟩
      apply DQ.step (E' := [(20, _), (21, _)])
      case ho => rfl
      case hs => exact ⟨rfl, rfl, trivial⟩
      case hk => rfl
      case h1 =>
        intro wq_12 kq_12
        have zs_kq_12 := kq_12.size
        replace hb0 := hb0.pure kq_12
        replace h := h.pure kq_12
        replace hw := hw.pure kq_12
        refine WL.call eg_27 rfl rfl (rahead_calls h.snaps (by show sn.length ≤ _; omega) i hi) ?_
        rintro v w2 ⟨rfl, k2⟩
        rw [← hL]
        have zs_k2 := k2.size
        replace hb0 := hb0.pure k2
        replace h := h.pure k2
        replace hw := hw.pure k2
        refine WL.nil ?_
        exact WX.one ⟨rfl, by first | exact Chg.refl _ _ | assumption⟩
      apply DQ.split (E' := [(19, _), (22, _)])
      case ho => rfl
      case hs => exact ⟨rfl, rfl, trivial⟩
      case hk => rfl
      case h1 =>
        intro wq_13 kq_13
        refine WL.leq rfl rfl rfl ?_
        refine WL.nil ?_
        exact WX.one ⟨rfl, by first | exact Chg.refl _ _ | assumption⟩
      case ht =>
        intro h23
        replace h23 := of_decide_eq_true h23
        apply DQ.step (E' := [(23, _)])
        case ho => rfl
        case hs => exact ⟨rfl, trivial⟩
        case hk => rfl
        case h1 =>
          intro wq_14 kq_14
          refine WL.move rfl rfl (?_)
          refine WL.nil ?_
          exact WX.one ⟨rfl, by first | exact Chg.refl _ _ | assumption⟩
        apply DQ.step (E' := [(1, _), (24, _)])
        case ho => rfl
        case hs => exact ⟨rfl, rfl, trivial⟩
        case hk => rfl
        case h1 =>
          intro wq_15 kq_15
          refine WL.pass rfl rfl rfl rfl (WL.nil (?_))
          exact WX.one ⟨rfl, by first | exact Chg.refl _ _ | assumption⟩
        apply DQ.step (E' := [(25, _), (24, _)])
        case ho => rfl
        case hs => exact ⟨rfl, rfl, trivial⟩
        case hk => rfl
        case h1 =>
          intro wq_16 kq_16
          have zs_kq_16 := kq_16.size
          replace hb0 := hb0.pure kq_16
          replace h := h.pure kq_16
          replace hw := hw.pure kq_16
          refine WL.pass rfl rfl rfl rfl (WL.nil (?_))
          exact WX.one ⟨rfl, by first | exact Chg.refl _ _ | assumption⟩
        apply DQ.step (E' := [(3, _), (24, _)])
        case ho => rfl
        case hs => exact ⟨rfl, rfl, trivial⟩
        case hk => rfl
        case h1 =>
          intro wq_17 kq_17
          refine WL.pass rfl rfl rfl rfl (WL.nil (?_))
          exact WX.one ⟨rfl, by first | exact Chg.refl _ _ | assumption⟩
        apply DQ.step (E' := [(26, _), (27, _), (24, _)])
        case ho => rfl
        case hs => exact ⟨rfl, rfl, rfl, trivial⟩
        case hk => rfl
        case h1 =>
          intro wq_18 kq_18
          have zs_kq_18 := kq_18.size
          replace hb0 := hb0.pure kq_18
          replace h := h.pure kq_18
          replace hw := hw.pure kq_18
          refine WL.pass rfl rfl rfl rfl (WL.nil (?_))
          exact WX.one ⟨rfl, by first | exact Chg.refl _ _ | assumption⟩
        apply DQ.step (E' := [(28, _), (24, _)])
        case ho => rfl
        case hs => exact ⟨rfl, rfl, trivial⟩
        case hk => rfl
        case h1 =>
          intro wq_19 kq_19
          refine WL.pass rfl rfl rfl rfl (WL.nil (?_))
          exact WX.one ⟨rfl, by first | exact Chg.refl _ _ | assumption⟩
        apply DQ.step (E' := [(29, _), (24, _)])
        case ho => rfl
        case hs => exact ⟨rfl, rfl, trivial⟩
        case hk => rfl
        case h1 =>
          intro wq_20 kq_20
          have zs_kq_20 := kq_20.size
          replace hb0 := hb0.pure kq_20
          replace h := h.pure kq_20
          replace hw := hw.pure kq_20
          refine WL.pass rfl rfl rfl rfl (WL.nil (?_))
          exact WX.one ⟨rfl, by first | exact Chg.refl _ _ | assumption⟩
        apply DQ.step (E' := [(1, _), (24, _)])
        case ho => rfl
        case hs => exact ⟨rfl, rfl, trivial⟩
        case hk => rfl
        case h1 =>
          intro wq_21 kq_21
          have zs_kq_21 := kq_21.size
          replace hb0 := hb0.pure kq_21
          replace h := h.pure kq_21
          replace hw := hw.pure kq_21
          refine WL.pass rfl rfl rfl rfl (WL.nil (?_))
          exact WX.one ⟨rfl, by first | exact Chg.refl _ _ | assumption⟩
        apply DQ.step (E' := [(3, _), (24, _)])
        case ho => rfl
        case hs => exact ⟨rfl, rfl, trivial⟩
        case hk => rfl
        case h1 =>
          intro wq_22 kq_22
          refine WL.pass rfl rfl rfl rfl (WL.nil (?_))
          exact WX.one ⟨rfl, by first | exact Chg.refl _ _ | assumption⟩
        apply DQ.step (E' := [(31, _), (32, _), (24, _)])
        case ho => rfl
        case hs => exact ⟨rfl, rfl, rfl, trivial⟩
        case hk => rfl
        case h1 =>
          intro wq_23 kq_23
          have zs_kq_23 := kq_23.size
          replace hb0 := hb0.pure kq_23
          replace h := h.pure kq_23
          replace hw := hw.pure kq_23
          refine WL.pass rfl rfl rfl rfl (WL.nil (?_))
          exact WX.one ⟨rfl, by first | exact Chg.refl _ _ | assumption⟩
        refine DQ.done (fun hd_3 => ?_)
        refine DL.step [(30, _), (33, _), (24, _)] rfl ⟨rfl, rfl, rfl, trivial⟩ rfl (fun wq_24 kq_24 => ?_)
        have zs_kq_24 := kq_24.size
        replace hb0 := hb0.pure kq_24
        replace h := h.pure kq_24
        replace hw := hw.pure kq_24
        replace hd_3 := hd_3.pure kq_24
        refine WL.pass rfl rfl rfl rfl (WL.nil (?_))
        refine WX.one ⟨hd_3, ?_⟩
        refine DL.step [(34, _), (24, _)] rfl ⟨rfl, rfl, trivial⟩ rfl (fun wq_25 kq_25 => ?_)
        have zs_kq_25 := kq_25.size
        replace hb0 := hb0.pure kq_25
        replace h := h.pure kq_25
        replace hw := hw.pure kq_25
        replace hd_3 := hd_3.pure kq_25
        refine WL.pass rfl rfl rfl rfl (WL.nil (?_))
        refine WX.one ⟨hd_3, ?_⟩
        refine DL.step [(24, _), (35, _)] rfl ⟨rfl, rfl, trivial⟩ rfl (fun wq_26 kq_26 => ?_)
        have zs_kq_26 := kq_26.size
        replace hb0 := hb0.pure kq_26
        replace h := h.pure kq_26
        replace hw := hw.pure kq_26
        replace hd_3 := hd_3.pure kq_26
        refine WL.pickT rfl rfl rfl (?_)
        refine WL.nil ?_
        refine WX.one ⟨hd_3, ?_⟩
        refine DL.done (fun we_27 ke_27 => ?_)
        have zs_ke_27 := ke_27.size
        replace hb0 := hb0.pure ke_27
        replace h := h.pure ke_27
        replace hw := hw.pure ke_27
        replace hd_3 := hd_3.pure ke_27
        refine WX.then_normal (WC.cond_true rfl (WC.seq (WC.region (WL.assign rfl rfl (WL.nil (WX.then_normal (WC.ret (?_))))))))
        refine WX.block_ret (WX.then_ret (WX.then_ret (WX.block_ret (WX.then_ret (?_)))))
        refine WX.ret1 (.inl rfl) Try.results11 rfl ?_
        first
          | (have hh : ba < 0 := h6
             refine ⟨_, rfl, ⟨false, rfl, (fun h => by cases h), (fun hR => ?_)⟩, hw⟩
             have := hR.base
             omega)
          | (have hh : x.txg ≤ L.ahead i := h23
             refine ⟨_, rfl, ⟨false, rfl, (fun h => by cases h), (fun hR => ?_)⟩, hw⟩
             have h1 : L.ahead i < x.txg := (hR.snaps i _ hxa).1
             omega)
          | (have hh : (!b5) = true := hc36
             refine ⟨_, rfl, ⟨false, rfl, (fun h => by cases h), (fun hR => ?_)⟩, hw⟩
             have h1 := hb5.2 (hR.snaps i _ hxa).2
             rw [h1] at hh
             cases hh)
          | (have hil : i = sn.length := by omega
             subst hil
             have hb0' : 0 ≤ ba := h6
             refine ⟨_, rfl, ⟨b6, rfl, fun h => ⟨by omega, by rw [hLd, hLl]; exact hb6.1 h, fun j y hy => hno j y (by rw [← hLl]; exact (List.getElem?_eq_some_iff.1 hy).1) hy⟩, fun hR => ?_⟩, hw⟩
             have h1 := hR.dead
             rw [hLd, hLl] at h1
             exact hb6.2 h1)
      case hf =>
        intro h23
        replace h23 := of_decide_eq_false h23
        apply DQ.step (E' := [(23, _)])
        case ho => rfl
        case hs => exact ⟨rfl, trivial⟩
        case hk => rfl
        case h1 =>
          intro wq_14 kq_14
          refine WL.move rfl rfl (?_)
          refine WL.nil ?_
          exact WX.one ⟨rfl, by first | exact Chg.refl _ _ | assumption⟩
        apply DQ.step (E' := [(1, _), (24, _)])
        case ho => rfl
        case hs => exact ⟨rfl, rfl, trivial⟩
        case hk => rfl
        case h1 =>
          intro wq_15 kq_15
          refine WL.want rfl rfl rfl (WL.fieldAddr (fld_25_1) rfl rfl (?_))
          refine WL.nil ?_
          exact WX.one ⟨rfl, by first | exact Chg.refl _ _ | assumption⟩
        apply DQ.step (E' := [(25, _), (24, _)])
        case ho => rfl
        case hs => exact ⟨rfl, rfl, trivial⟩
        case hk => rfl
        case h1 =>
          intro wq_16 kq_16
          have zs_kq_16 := kq_16.size
          replace hb0 := hb0.pure kq_16
          replace h := h.pure kq_16
          replace hw := hw.pure kq_16
          refine WL.want rfl rfl rfl (WL.loadB Try.isAgg22 hb0 rfl rfl rfl (?_))
          refine WL.nil ?_
          exact WX.one ⟨rfl, by first | exact Chg.refl _ _ | assumption⟩
        apply DQ.step (E' := [(3, _), (24, _)])
        case ho => rfl
        case hs => exact ⟨rfl, rfl, trivial⟩
        case hk => rfl
        case h1 =>
          intro wq_17 kq_17
          refine WL.want rfl rfl rfl (WL.move rfl rfl (?_))
          refine WL.nil ?_
          exact WX.one ⟨rfl, by first | exact Chg.refl _ _ | assumption⟩
        apply DQ.step (E' := [(26, _), (27, _), (24, _)])
        case ho => rfl
        case hs => exact ⟨rfl, rfl, rfl, trivial⟩
        case hk => rfl
        case h1 =>
          intro wq_18 kq_18
          have zs_kq_18 := kq_18.size
          replace hb0 := hb0.pure kq_18
          replace h := h.pure kq_18
          replace hw := hw.pure kq_18
          refine WL.want rfl rfl rfl (?_)
          refine WL.indexC (e := esn) h.snaps Try.underlying22 Try.sizeOf72 rfl rfl ⟨hx, rfl⟩ rfl ?_
          refine WL.nil ?_
          exact WX.one ⟨rfl, by first | exact Chg.refl _ _ | assumption⟩
        apply DQ.step (E' := [(28, _), (24, _)])
        case ho => rfl
        case hs => exact ⟨rfl, rfl, trivial⟩
        case hk => rfl
        case h1 =>
          intro wq_19 kq_19
          refine WL.want rfl rfl rfl (WL.fieldAddr (fld_72_1) rfl rfl (?_))
          refine WL.nil ?_
          exact WX.one ⟨rfl, by first | exact Chg.refl _ _ | assumption⟩
        apply DQ.step (E' := [(29, _), (24, _)])
        case ho => rfl
        case hs => exact ⟨rfl, rfl, trivial⟩
        case hk => rfl
        case h1 =>
          intro wq_20 kq_20
          have zs_kq_20 := kq_20.size
          replace hb0 := hb0.pure kq_20
          replace h := h.pure kq_20
          replace hw := hw.pure kq_20
          refine WL.want rfl rfl rfl (?_)
          refine WL.load Try.isAgg23 rfl (h.snaps.cellsAt hx 1 _ rfl) rfl ?_
          refine WL.nil ?_
          exact WX.one ⟨rfl, by first | exact Chg.refl _ _ | assumption⟩
        apply DQ.step (E' := [(1, _), (24, _)])
        case ho => rfl
        case hs => exact ⟨rfl, rfl, trivial⟩
        case hk => rfl
        case h1 =>
          intro wq_21 kq_21
          have zs_kq_21 := kq_21.size
          replace hb0 := hb0.pure kq_21
          replace h := h.pure kq_21
          replace hw := hw.pure kq_21
          refine WL.want rfl rfl rfl (?_)
          refine WL.loadsB Try.isAgg25 Try.sizeOf25 hb0 rfl rfl rfl ?_
          refine WL.nil ?_
          exact WX.one ⟨rfl, by first | exact Chg.refl _ _ | assumption⟩
        apply DQ.step (E' := [(3, _), (24, _)])
        case ho => rfl
        case hs => exact ⟨rfl, rfl, trivial⟩
        case hk => rfl
        case h1 =>
          intro wq_22 kq_22
          refine WL.want rfl rfl rfl (WL.move rfl rfl (?_))
          refine WL.nil ?_
          exact WX.one ⟨rfl, by first | exact Chg.refl _ _ | assumption⟩
        apply DQ.step (E' := [(31, _), (32, _), (24, _)])
        case ho => rfl
        case hs => exact ⟨rfl, rfl, rfl, trivial⟩
        case hk => rfl
        case h1 =>
          intro wq_23 kq_23
          have zs_kq_23 := kq_23.size
          replace hb0 := hb0.pure kq_23
          replace h := h.pure kq_23
          replace hw := hw.pure kq_23
          refine WL.want rfl rfl rfl (?_)
          refine WL.call eg_27 rfl rfl (rahead_calls h.snaps (by show sn.length ≤ _; omega) i hi) ?_
          rintro v w2 ⟨rfl, k2⟩
          rw [← hL]
          have zs_k2 := k2.size
          replace hb0 := hb0.pure k2
          replace h := h.pure k2
          replace hw := hw.pure k2
          refine WL.nil ?_
          exact WX.one ⟨rfl, by first | exact Chg.refl _ _ | assumption⟩
        refine DQ.done (fun hd_3 => ?_)
        refine DL.step [(30, _), (33, _), (24, _)] rfl ⟨rfl, rfl, rfl, trivial⟩ rfl (fun wq_24 kq_24 => ?_)
        have zs_kq_24 := kq_24.size
        replace hb0 := hb0.pure kq_24
        replace h := h.pure kq_24
        replace hw := hw.pure kq_24
        replace hd_3 := hd_3.pure kq_24
        refine WL.want rfl rfl rfl (?_)
        refine WL.call eg_28 rfl rfl (young_calls (h.inner x hxm) (by omega) _) ?_
        rintro v w4 ⟨⟨b5, rfl, hb5⟩, k4⟩
        have zs_k4 := k4.size
        replace hb0 := hb0.pure k4
        replace h := h.pure k4
        replace hw := hw.pure k4
        replace hd_3 := hd_3.pure k4
        refine WL.nil ?_
        refine WX.one ⟨hd_3, ?_⟩
        refine DL.step [(34, _), (24, _)] rfl ⟨rfl, rfl, trivial⟩ rfl (fun wq_25 kq_25 => ?_)
        have zs_kq_25 := kq_25.size
        replace hb0 := hb0.pure kq_25
        replace h := h.pure kq_25
        replace hw := hw.pure kq_25
        replace hd_3 := hd_3.pure kq_25
        refine WL.want rfl rfl rfl (WL.not rfl rfl (?_))
        refine WL.nil ?_
        refine WX.one ⟨hd_3, ?_⟩
        refine DL.step [(24, _), (35, _)] rfl ⟨rfl, rfl, trivial⟩ rfl (fun wq_26 kq_26 => ?_)
        have zs_kq_26 := kq_26.size
        replace hb0 := hb0.pure kq_26
        replace h := h.pure kq_26
        replace hw := hw.pure kq_26
        replace hd_3 := hd_3.pure kq_26
        refine WL.pickF rfl rfl rfl (?_)
        refine WL.nil ?_
        refine WX.one ⟨hd_3, ?_⟩
        refine DL.done (fun we_27 ke_27 => ?_)
        have zs_ke_27 := ke_27.size
        replace hb0 := hb0.pure ke_27
        replace h := h.pure ke_27
        replace hw := hw.pure ke_27
        replace hd_3 := hd_3.pure ke_27
        refine WX.then_normal (?_)
        first | refine WC.cond_dec rfl (fun hc36 => ?_) (fun hc36 => ?_) | refine WC.cond_split rfl (fun hc36 => ?_) (fun hc36 => ?_)
        ·
          refine WC.seq (WC.region (WL.assign rfl rfl (WL.nil (WX.then_normal (WC.ret (WX.block_ret (WX.then_ret (?_))))))))
          refine WX.then_ret (WX.block_ret (WX.then_ret (?_)))
          refine WX.ret1 (.inl rfl) Try.results11 rfl ?_
          first
            | (have hh : ba < 0 := h6
               refine ⟨_, rfl, ⟨false, rfl, (fun h => by cases h), (fun hR => ?_)⟩, hw⟩
               have := hR.base
               omega)
            | (have hh : x.txg ≤ L.ahead i := h23
               refine ⟨_, rfl, ⟨false, rfl, (fun h => by cases h), (fun hR => ?_)⟩, hw⟩
               have h1 : L.ahead i < x.txg := (hR.snaps i _ hxa).1
               omega)
            | (have hh : (!b5) = true := hc36
               refine ⟨_, rfl, ⟨false, rfl, (fun h => by cases h), (fun hR => ?_)⟩, hw⟩
               have h1 := hb5.2 (hR.snaps i _ hxa).2
               rw [h1] at hh
               cases hh)
            | (have hil : i = sn.length := by omega
               subst hil
               have hb0' : 0 ≤ ba := h6
               refine ⟨_, rfl, ⟨b6, rfl, fun h => ⟨by omega, by rw [hLd, hLl]; exact hb6.1 h, fun j y hy => hno j y (by rw [← hLl]; exact (List.getElem?_eq_some_iff.1 hy).1) hy⟩, fun hR => ?_⟩, hw⟩
               have h1 := hR.dead
               rw [hLd, hLl] at h1
               exact hb6.2 h1)
        ·
          refine WC.skip (WX.block_normal (WX.then_normal (WC.region (WL.move rfl rfl (WL.add64 rfl rfl (by first | omega | (constructor <;> omega)) rfl (WL.assign rfl rfl (WL.nil (?_))))))))
          refine WX.loop_next (i + 1) ⟨rfl, rfl, trivial⟩ ⟨by omega, hb0, h, hw, fun j y hj hy => ?_⟩ (by omega)
          rcases Nat.lt_or_ge j i with h1 | h1
          ·
            exact hno j y h1 hy
          ·
            have h2 : j = i := by omega
            subst h2
            rw [hxa] at hy
            injection hy with hy
            subst hy
            refine ⟨by show L.ahead j < x.txg; omega, hb5.1 ?_⟩
            cases b5
            ·
              cases hc36
            ·
              rfl
    ·
      refine WL.nil (WX.then_normal (WC.cond_false rfl (WC.exit (WX.then_exit (WX.then_exit (WX.block_here (WX.then_normal (?_))))))))
      refine WC.seq (?_)
      refine WC.draw (Nob) [0, 1, 2, 3, 4, 5, 6] [7, 8] mixed rfl rfl (fun wd_2 kd_2 zd_2 => ?_)
      have zs_kd_2 := kd_2.size
      replace hb0 := hb0.pure kd_2
      replace h := h.pure kd_2
      replace hw := hw.pure kd_2
      apply DQ.step (E' := [(1, _)])
      case ho => rfl
      case hs => exact ⟨rfl, trivial⟩
      case hk => rfl
      case h1 =>
        intro wq_4 kq_4
        refine WL.fieldAddr (fld_25_2) rfl rfl (?_)
        refine WL.nil ?_
        exact WX.one ⟨rfl, by first | exact Chg.refl _ _ | assumption⟩
      apply DQ.step (E' := [(37, _)])
      case ho => rfl
      case hs => exact ⟨rfl, trivial⟩
      case hk => rfl
      case h1 =>
        intro wq_5 kq_5
        have zs_kq_5 := kq_5.size
        replace hb0 := hb0.pure kq_5
        replace h := h.pure kq_5
        replace hw := hw.pure kq_5
        refine WL.loadB Try.isAgg23 hb0 rfl rfl rfl (?_)
        refine WL.nil ?_
        exact WX.one ⟨rfl, by first | exact Chg.refl _ _ | assumption⟩
      apply DQ.step (E' := [(1, _)])
      case ho => rfl
      case hs => exact ⟨rfl, trivial⟩
      case hk => rfl
      case h1 =>
        intro wq_6 kq_6
        have zs_kq_6 := kq_6.size
        replace hb0 := hb0.pure kq_6
        replace h := h.pure kq_6
        replace hw := hw.pure kq_6
        refine WL.loadsB Try.isAgg25 Try.sizeOf25 hb0 rfl rfl rfl ?_
        refine WL.nil ?_
        exact WX.one ⟨rfl, by first | exact Chg.refl _ _ | assumption⟩
      apply DQ.step (E' := [(1, _)])
      case ho => rfl
      case hs => exact ⟨rfl, trivial⟩
      case hk => rfl
      case h1 =>
        intro wq_7 kq_7
        refine WL.fieldAddr (fld_25_1) rfl rfl (?_)
        refine WL.nil ?_
        exact WX.one ⟨rfl, by first | exact Chg.refl _ _ | assumption⟩
      apply DQ.step (E' := [(40, _)])
      case ho => rfl
      case hs => exact ⟨rfl, trivial⟩
      case hk => rfl
      case h1 =>
        intro wq_8 kq_8
        have zs_kq_8 := kq_8.size
        replace hb0 := hb0.pure kq_8
        replace h := h.pure kq_8
        replace hw := hw.pure kq_8
        refine WL.loadB Try.isAgg22 hb0 rfl rfl rfl (?_)
        refine WL.nil ?_
        exact WX.one ⟨rfl, by first | exact Chg.refl _ _ | assumption⟩
      apply DQ.step (E' := [(41, _)])
      case ho => rfl
      case hs => exact ⟨rfl, trivial⟩
      case hk => rfl
      case h1 =>
        intro wq_9 kq_9
        have zs_kq_9 := kq_9.size
        replace hb0 := hb0.pure kq_9
        replace h := h.pure kq_9
        replace hw := hw.pure kq_9
        refine WL.len Try.underlying22 rfl rfl (?_)
        refine WL.nil ?_
        exact WX.one ⟨rfl, by first | exact Chg.refl _ _ | assumption⟩
      apply DQ.step (E' := [(39, _), (42, _)])
      case ho => rfl
      case hs => exact ⟨rfl, rfl, trivial⟩
      case hk => rfl
      case h1 =>
        intro wq_10 kq_10
        have zs_kq_10 := kq_10.size
        replace hb0 := hb0.pure kq_10
        replace h := h.pure kq_10
        replace hw := hw.pure kq_10
        refine WL.call eg_27 rfl rfl (rahead_calls h.snaps (by show sn.length ≤ _; omega) sn.length (Nat.le_refl _)) ?_
        rintro v w2 ⟨rfl, k2⟩
        rw [← hL]
        have zs_k2 := k2.size
        replace hb0 := hb0.pure k2
        replace h := h.pure k2
        replace hw := hw.pure k2
        refine WL.nil ?_
        exact WX.one ⟨rfl, by first | exact Chg.refl _ _ | assumption⟩
      refine DQ.done (fun hd_3 => ?_)
      refine DL.step [(38, _), (43, _)] rfl ⟨rfl, rfl, trivial⟩ rfl (fun wq_11 kq_11 => ?_)
      have zs_kq_11 := kq_11.size
      replace hb0 := hb0.pure kq_11
      replace h := h.pure kq_11
      replace hw := hw.pure kq_11
      replace hd_3 := hd_3.pure kq_11
      refine WL.call eg_28 rfl rfl (young_calls h.dead (by show de.length ≤ _; omega) _) ?_
      rintro v w4 ⟨⟨b6, rfl, hb6⟩, k4⟩
      have zs_k4 := k4.size
      replace hb0 := hb0.pure k4
      replace h := h.pure k4
      replace hw := hw.pure k4
      replace hd_3 := hd_3.pure k4
      refine WL.nil ?_
      refine WX.one ⟨hd_3, ?_⟩
      refine DL.step [(44, _)] rfl ⟨rfl, trivial⟩ rfl (fun wq_12 kq_12 => ?_)
      have zs_kq_12 := kq_12.size
      replace hb0 := hb0.pure kq_12
      replace h := h.pure kq_12
      replace hw := hw.pure kq_12
      replace hd_3 := hd_3.pure kq_12
      refine WL.assign rfl rfl (?_)
      refine WL.nil ?_
      refine WX.one ⟨hd_3, ?_⟩
      refine DL.done (fun we_13 ke_13 => ?_)
      have zs_ke_13 := ke_13.size
      replace hb0 := hb0.pure ke_13
      replace h := h.pure ke_13
      replace hw := hw.pure ke_13
      replace hd_3 := hd_3.pure ke_13
      refine WX.then_normal (WC.ret (?_))
      refine WX.ret1 (.inl rfl) Try.results11 rfl ?_
      first
        | (have hh : ba < 0 := h6
           refine ⟨_, rfl, ⟨false, rfl, (fun h => by cases h), (fun hR => ?_)⟩, hw⟩
           have := hR.base
           omega)
        | (have hh : x.txg ≤ L.ahead i := h23
           refine ⟨_, rfl, ⟨false, rfl, (fun h => by cases h), (fun hR => ?_)⟩, hw⟩
           have h1 : L.ahead i < x.txg := (hR.snaps i _ hxa).1
           omega)
        | (have hh : (!b5) = true := hc36
           refine ⟨_, rfl, ⟨false, rfl, (fun h => by cases h), (fun hR => ?_)⟩, hw⟩
           have h1 := hb5.2 (hR.snaps i _ hxa).2
           rw [h1] at hh
           cases hh)
        | (have hil : i = sn.length := by omega
           subst hil
           have hb0' : 0 ≤ ba := h6
           refine ⟨_, rfl, ⟨b6, rfl, fun h => ⟨by omega, by rw [hLd, hLl]; exact hb6.1 h, fun j y hy => hno j y (by rw [← hLl]; exact (List.getElem?_eq_some_iff.1 hy).1) hy⟩, fun hR => ?_⟩, hw⟩
           have h1 := hR.dead
           rw [hLd, hLl] at h1
           exact hb6.2 h1)
theorem sameline_calls {S1 S2 : Nat → Prop} {w : World} {l1 l2 : LnV} (h1 : LS S1 w l1) (h2 : LS S2 w l2) (hs : Sm 60 l1) : Calls Try.prog 14 [lval l1, lval l2].toArray w (Ret fun v w' => (∃ b : Bool, v = .bool b ∧ (b = true ↔ l1.abs = l2.abs)) ∧ Chg Nob w w') := by
  have hw := Chg.refl Nob w
  have hsn := hs.snaps
  have hsd := hs.dead
  replace h1 := h1.old
  replace h2 := h2.old
  obtain ⟨ba, sa, sc, sn, da, dc, de⟩ := l1
  obtain ⟨bb, ta, tc, tn, ea, ec, ee⟩ := l2
  simp only at hsn hsd
  refine Calls.of_WC Try.func14 rfl Try.ntmps14 (by simp) ?_
  refine WC.seq (WC.region (?_))
  refine WL.box rfl rfl ?_
  intro g_1 w_1 hge_1 hlt_1 hb_1 k_1
  have zs_k_1 := k_1.size
  replace h1 := h1.pure k_1
  replace h2 := h2.pure k_1
  replace hw := hw.pure k_1
  refine WL.box rfl rfl ?_
  intro g_2 w_2 hge_2 hlt_2 hb_2 k_2
  have zs_k_2 := k_2.size
  replace h1 := h1.pure k_2
  replace h2 := h2.pure k_2
  replace hw := hw.pure k_2
  replace hb_1 := hb_1.pure k_2
  refine WL.assign rfl rfl (WL.nil (WX.then_normal (WC.seq (WC.seq (WC.region (WL.fieldAddr (fld_25_0) rfl rfl (WL.loadB Try.isAgg3 hb_1 rfl rfl rfl (?_))))))))
  refine WL.fieldAddr (fld_25_0) rfl rfl (WL.loadB Try.isAgg3 hb_2 rfl rfl rfl (?_))
  refine WL.neq? rfl rfl rfl (fun h10 => ?_) (fun h10 => ?_)
  ·
    refine WL.move rfl rfl (WL.pass rfl rfl rfl rfl (WL.pass rfl rfl rfl rfl (WL.pass rfl rfl rfl rfl (WL.pass rfl rfl rfl rfl (WL.pass rfl rfl rfl rfl (WL.pass rfl rfl rfl rfl (WL.pass rfl rfl rfl rfl (?_))))))))
    refine WL.pickT rfl rfl rfl (WL.move rfl rfl (WL.pass rfl rfl rfl rfl (WL.pass rfl rfl rfl rfl (WL.pass rfl rfl rfl rfl (WL.pass rfl rfl rfl rfl (WL.pass rfl rfl rfl rfl (WL.pass rfl rfl rfl rfl (?_))))))))
    refine WL.pickT rfl rfl rfl (WL.nil (WX.then_normal (WC.cond_true rfl (WC.seq (WC.region (WL.assign rfl rfl (WL.nil (?_))))))))
    refine WX.then_normal (WC.ret (WX.then_ret (?_)))
    refine WX.ret1 (.inl rfl) Try.results14 rfl ?_
    first
      | (have hh : ba ≠ bb := h10
         exact ⟨_, rfl, ⟨false, rfl, (fun h => by cases h), (fun e => absurd (congrArg LA.base e) hh)⟩, hw⟩)
      | (have hh : (sn.length : Int) ≠ tn.length := h18
         refine ⟨_, rfl, ⟨false, rfl, (fun h => by cases h), (fun e => ?_)⟩, hw⟩
         have h3 := congrArg (fun L : LA => L.snaps.length) e
         simp only [LnV.abs, sabs_len] at h3
         omega)
      | (have hh : ¬ de = ee := hde
         exact ⟨_, rfl, ⟨false, rfl, (fun h => by cases h), (fun e => absurd (congrArg LA.dead e) hh)⟩, hw⟩)
      | (have hh : x.txg ≠ y.txg := h47
         refine ⟨_, rfl, ⟨false, rfl, (fun h => by cases h), (fun e => ?_)⟩, hw⟩
         have h3 : (sabs sn)[i]? = (sabs tn)[i]? := congrArg (fun L : LA => L.snaps[i]?) e
         rw [sabs_at hx, sabs_at hy] at h3
         injection h3 with h3
         injection h3 with h3 h4
         exact absurd h3 hh)
      | (have hh : (!decide (x.dead = y.dead)) = true := hc63
         refine ⟨_, rfl, ⟨false, rfl, (fun h => by cases h), (fun e => ?_)⟩, hw⟩
         have h3 : (sabs sn)[i]? = (sabs tn)[i]? := congrArg (fun L : LA => L.snaps[i]?) e
         rw [sabs_at hx, sabs_at hy] at h3
         injection h3 with h3
         injection h3 with h3 h4
         rw [decide_eq_true h4] at hh
         cases hh)
      | (have hlen : (sn.length : Int) = tn.length := h18
         have hbb : ba = bb := h10
         have e : sabs sn = sabs tn := by
           apply List.ext_getElem?
           intro j
           rcases Nat.lt_or_ge j i with h3 | h3
           ·
             exact hno j h3
           ·
             rw [List.getElem?_eq_none (by rw [sabs_len]; omega), List.getElem?_eq_none (by rw [sabs_len]; omega)]
         refine ⟨_, rfl, ⟨true, rfl, fun _ => ?_, fun _ => rfl⟩, hw⟩
         show LA.mk ba (sabs sn) de = LA.mk bb (sabs tn) ee
         rw [hbb, e, hde])
  ·
    refine WL.move rfl rfl (WL.want rfl rfl rfl (WL.fieldAddr (fld_25_1) rfl rfl (WL.want rfl rfl rfl (WL.loadB Try.isAgg22 hb_1 rfl rfl rfl (WL.want rfl rfl rfl (WL.len Try.underlying22 rfl rfl (WL.want rfl rfl rfl (?_))))))))
    refine WL.fieldAddr (fld_25_1) rfl rfl (WL.want rfl rfl rfl (WL.loadB Try.isAgg22 hb_2 rfl rfl rfl (WL.want rfl rfl rfl (WL.len Try.underlying22 rfl rfl (WL.want rfl rfl rfl (?_))))))
    refine WL.neq? rfl rfl rfl (fun h18 => ?_) (fun h18 => ?_)
    ·
      refine WL.pickF rfl rfl rfl (WL.move rfl rfl (WL.pass rfl rfl rfl rfl (WL.pass rfl rfl rfl rfl (WL.pass rfl rfl rfl rfl (WL.pass rfl rfl rfl rfl (WL.pass rfl rfl rfl rfl (WL.pass rfl rfl rfl rfl (?_))))))))
      refine WL.pickT rfl rfl rfl (WL.nil (WX.then_normal (WC.cond_true rfl (WC.seq (WC.region (WL.assign rfl rfl (WL.nil (?_))))))))
      refine WX.then_normal (WC.ret (WX.then_ret (?_)))
      refine WX.ret1 (.inl rfl) Try.results14 rfl ?_
      first
        | (have hh : ba ≠ bb := h10
           exact ⟨_, rfl, ⟨false, rfl, (fun h => by cases h), (fun e => absurd (congrArg LA.base e) hh)⟩, hw⟩)
        | (have hh : (sn.length : Int) ≠ tn.length := h18
           refine ⟨_, rfl, ⟨false, rfl, (fun h => by cases h), (fun e => ?_)⟩, hw⟩
           have h3 := congrArg (fun L : LA => L.snaps.length) e
           simp only [LnV.abs, sabs_len] at h3
           omega)
        | (have hh : ¬ de = ee := hde
           exact ⟨_, rfl, ⟨false, rfl, (fun h => by cases h), (fun e => absurd (congrArg LA.dead e) hh)⟩, hw⟩)
        | (have hh : x.txg ≠ y.txg := h47
           refine ⟨_, rfl, ⟨false, rfl, (fun h => by cases h), (fun e => ?_)⟩, hw⟩
           have h3 : (sabs sn)[i]? = (sabs tn)[i]? := congrArg (fun L : LA => L.snaps[i]?) e
           rw [sabs_at hx, sabs_at hy] at h3
           injection h3 with h3
           injection h3 with h3 h4
           exact absurd h3 hh)
        | (have hh : (!decide (x.dead = y.dead)) = true := hc63
           refine ⟨_, rfl, ⟨false, rfl, (fun h => by cases h), (fun e => ?_)⟩, hw⟩
           have h3 : (sabs sn)[i]? = (sabs tn)[i]? := congrArg (fun L : LA => L.snaps[i]?) e
           rw [sabs_at hx, sabs_at hy] at h3
           injection h3 with h3
           injection h3 with h3 h4
           rw [decide_eq_true h4] at hh
           cases hh)
        | (have hlen : (sn.length : Int) = tn.length := h18
           have hbb : ba = bb := h10
           have e : sabs sn = sabs tn := by
             apply List.ext_getElem?
             intro j
             rcases Nat.lt_or_ge j i with h3 | h3
             ·
               exact hno j h3
             ·
               rw [List.getElem?_eq_none (by rw [sabs_len]; omega), List.getElem?_eq_none (by rw [sabs_len]; omega)]
           refine ⟨_, rfl, ⟨true, rfl, fun _ => ?_, fun _ => rfl⟩, hw⟩
           show LA.mk ba (sabs sn) de = LA.mk bb (sabs tn) ee
           rw [hbb, e, hde])
    ·
      refine WL.pickF rfl rfl rfl (WL.move rfl rfl (WL.want rfl rfl rfl (WL.fieldAddr (fld_25_2) rfl rfl (WL.want rfl rfl rfl (WL.loadB Try.isAgg23 hb_1 rfl rfl rfl (WL.want rfl rfl rfl (WL.fieldAddr (fld_25_2) rfl rfl (?_))))))))
      refine WL.want rfl rfl rfl (WL.loadB Try.isAgg23 hb_2 rfl rfl rfl (WL.want rfl rfl rfl (?_)))
      refine WL.call eg_20 rfl rfl (same_calls h1.dead h2.dead (by show de.length ≤ _; omega)) ?_
      rintro v w2 ⟨rfl, k2⟩
      have zs_k2 := k2.size
      replace h1 := h1.pure k2
      replace h2 := h2.pure k2
      replace hw := hw.pure k2
      replace hb_1 := hb_1.pure k2
      replace hb_2 := hb_2.pure k2
      by_cases hde : de = ee
      ·
        rw [show decide ((LnV.mk ba sa sc sn da dc de).dead = (LnV.mk bb ta tc tn ea ec ee).dead) = true from decide_eq_true hde]
        refine WL.want rfl rfl rfl (WL.not rfl rfl (WL.pickF rfl rfl rfl (WL.nil (WX.then_normal (WC.cond_false rfl (WC.skip (WX.then_normal (?_))))))))
        refine WC.seq (WC.seq (WC.region (WL.assign rfl rfl (WL.nil (WX.then_normal (WC.block (?_)))))))
        have hb0 : Blk _ g_1 25 [vi ba, .slice sa sn.length sc, .slice da de.length dc] := hb_1
        have hb1 : Blk _ g_2 25 [vi bb, .slice ta tn.length tc, .slice ea ee.length ec] := hb_2
        refine WC.loop (σ := Nat) (fun i => [(2, gptr g_1), (3, gptr g_2), (5, vi (i : Int))]) (fun i w' => i ≤ sn.length ∧ Blk w' g_1 25 [vi ba, .slice sa sn.length sc, .slice da de.length dc] ∧ Blk w' g_2 25 [vi bb, .slice ta tn.length tc, .slice ea ee.length ec] ∧ LS (· < w.heap.size) w' ⟨ba, sa, sc, sn, da, dc, de⟩ ∧ LS (· < w.heap.size) w' ⟨bb, ta, tc, tn, ea, ec, ee⟩ ∧ Chg Nob w w' ∧ ∀ j, j < i → (sabs sn)[j]? = (sabs tn)[j]?) (fun i => sn.length - i) 0 ⟨rfl, rfl, rfl, trivial⟩ ⟨Nat.zero_le _, hb0, hb1, h1, h2, hw, fun j hj => by omega⟩ ?_
        clear h1 h2 hw hb0 hb1 hb_1 hb_2
        rintro i w1 ⟨hi, hb0, hb1, h1, h2, hw, hno⟩
        refine WC.seq (WC.seq (WC.region (WL.move rfl rfl (WL.fieldAddr (fld_25_1) rfl rfl (WL.loadB Try.isAgg22 hb0 rfl rfl rfl (WL.len Try.underlying22 rfl rfl (?_)))))))
        refine WL.lss? rfl rfl rfl (fun h32 => ?_) (fun h32 => ?_)
        ·
          refine WL.nil (WX.then_normal (WC.cond_true rfl (WC.skip (WX.then_normal (WC.seq (WC.block (WC.seq (?_))))))))
          obtain ⟨x, hx⟩ : ∃ x, sn[i]? = some x := ⟨_, List.getElem?_eq_getElem (by omega)⟩
          have h18' : (sn.length : Int) = tn.length := h18
          have hlen : sn.length = tn.length := by omega
          obtain ⟨y, hy⟩ : ∃ y, tn[i]? = some y := ⟨_, List.getElem?_eq_getElem (by omega)⟩
          have hxm := List.mem_of_getElem? hx
          have hym := List.mem_of_getElem? hy
          have hxd := hs.inner x hxm
          obtain ⟨b1, o1, rfl⟩ := h1.snaps.place hx
          obtain ⟨b2, o2, rfl⟩ := h2.snaps.place hy
          refine WC.draw (Nob) [0, 1, 2, 3, 4, 5, 6, 7, 8, 9, 10, 11, 12, 13, 14, 15, 16, 17, 18, 19, 20, 21, 22, 23, 24, 25, 26, 27, 28] [] mixed rfl rfl (fun wd_3 kd_3 zd_3 => ?_)
          have zs_kd_3 := kd_3.size
          replace hb0 := hb0.pure kd_3
          replace hb1 := hb1.pure kd_3
          replace h1 := h1.pure kd_3
          replace h2 := h2.pure kd_3
          replace hw := hw.pure kd_3
          apply DQ.step (E' := [(2, _)])
          case ho => rfl
          case hs => exact ⟨rfl, trivial⟩
          case hk => rfl
          case h1 =>
            intro wq_4 kq_4
            refine WL.fieldAddr (fld_25_1) rfl rfl (?_)
            refine WL.nil ?_
            exact WX.one ⟨rfl, by first | exact Chg.refl _ _ | assumption⟩
          apply DQ.step (E' := [(35, _)])
          case ho => rfl
          case hs => exact ⟨rfl, trivial⟩
          case hk => rfl
          case h1 =>
            intro wq_5 kq_5
            have zs_kq_5 := kq_5.size
            replace hb0 := hb0.pure kq_5
            replace hb1 := hb1.pure kq_5
            replace h1 := h1.pure kq_5
            replace h2 := h2.pure kq_5
            replace hw := hw.pure kq_5
            refine WL.loadB Try.isAgg22 hb0 rfl rfl rfl (?_)
            refine WL.nil ?_
            exact WX.one ⟨rfl, by first | exact Chg.refl _ _ | assumption⟩
          apply DQ.step (E' := [(5, _)])
          case ho => rfl
          case hs => exact ⟨rfl, trivial⟩
          case hk => rfl
          case h1 =>
            intro wq_6 kq_6
            refine WL.move rfl rfl (?_)
            refine WL.nil ?_
            exact WX.one ⟨rfl, by first | exact Chg.refl _ _ | assumption⟩
          apply DQ.step (E' := [(36, _), (37, _)])
          case ho => rfl
          case hs => exact ⟨rfl, rfl, trivial⟩
          case hk => rfl
          case h1 =>
            intro wq_7 kq_7
            have zs_kq_7 := kq_7.size
            replace hb0 := hb0.pure kq_7
            replace hb1 := hb1.pure kq_7
            replace h1 := h1.pure kq_7
            replace h2 := h2.pure kq_7
            replace hw := hw.pure kq_7
            refine WL.indexC (e := esn) h1.snaps Try.underlying22 Try.sizeOf72 rfl rfl ⟨hx, rfl⟩ rfl ?_
            refine WL.nil ?_
            exact WX.one ⟨rfl, by first | exact Chg.refl _ _ | assumption⟩
          apply DQ.step (E' := [(38, _)])
          case ho => rfl
          case hs => exact ⟨rfl, trivial⟩
          case hk => rfl
          case h1 =>
            intro wq_8 kq_8
            refine WL.fieldAddr (fld_72_0) rfl rfl (?_)
            refine WL.nil ?_
            exact WX.one ⟨rfl, by first | exact Chg.refl _ _ | assumption⟩
          apply DQ.step (E' := [(39, _)])
          case ho => rfl
          case hs => exact ⟨rfl, trivial⟩
          case hk => rfl
          case h1 =>
            intro wq_9 kq_9
            have zs_kq_9 := kq_9.size
            replace hb0 := hb0.pure kq_9
            replace hb1 := hb1.pure kq_9
            replace h1 := h1.pure kq_9
            replace h2 := h2.pure kq_9
            replace hw := hw.pure kq_9
            refine WL.load Try.isAgg3 rfl (h1.snaps.cellsAt hx 0 _ rfl) rfl ?_
            refine WL.nil ?_
            exact WX.one ⟨rfl, by first | exact Chg.refl _ _ | assumption⟩
          apply DQ.step (E' := [(3, _)])
          case ho => rfl
          case hs => exact ⟨rfl, trivial⟩
          case hk => rfl
          case h1 =>
            intro wq_10 kq_10
            refine WL.fieldAddr (fld_25_1) rfl rfl (?_)
            refine WL.nil ?_
            exact WX.one ⟨rfl, by first | exact Chg.refl _ _ | assumption⟩
          apply DQ.step (E' := [(41, _)])
          case ho => rfl
          case hs => exact ⟨rfl, trivial⟩
          case hk => rfl
          case h1 =>
            intro wq_11 kq_11
            have zs_kq_11 := kq_11.size
            replace hb0 := hb0.pure kq_11
            replace hb1 := hb1.pure kq_11
            replace h1 := h1.pure kq_11
            replace h2 := h2.pure kq_11
            replace hw := hw.pure kq_11
            refine WL.loadB Try.isAgg22 hb1 rfl rfl rfl (?_)
            refine WL.nil ?_
            exact WX.one ⟨rfl, by first | exact Chg.refl _ _ | assumption⟩
          apply DQ.step (E' := [(5, _)])
          case ho => rfl
          case hs => exact ⟨rfl, trivial⟩
          case hk => rfl
          case h1 =>
            intro wq_12 kq_12
            refine WL.move rfl rfl (?_)
            refine WL.nil ?_
            exact WX.one ⟨rfl, by first | exact Chg.refl _ _ | assumption⟩
          apply DQ.step (E' := [(42, _), (43, _)])
          case ho => rfl
          case hs => exact ⟨rfl, rfl, trivial⟩
          case hk => rfl
          case h1 =>
            intro wq_13 kq_13
            have zs_kq_13 := kq_13.size
            replace hb0 := hb0.pure kq_13
            replace hb1 := hb1.pure kq_13
            replace h1 := h1.pure kq_13
            replace h2 := h2.pure kq_13
            replace hw := hw.pure kq_13
            refine WL.indexC (e := esn) h2.snaps Try.underlying22 Try.sizeOf72 rfl rfl ⟨hy, rfl⟩ rfl ?_
            refine WL.nil ?_
            exact WX.one ⟨rfl, by first | exact Chg.refl _ _ | assumption⟩
          apply DQ.step (E' := [(44, _)])
          case ho => rfl
          case hs => exact ⟨rfl, trivial⟩
          case hk => rfl
          case h1 =>
            intro wq_14 kq_14
            refine WL.fieldAddr (fld_72_0) rfl rfl (?_)
            refine WL.nil ?_
            exact WX.one ⟨rfl, by first | exact Chg.refl _ _ | assumption⟩
          apply DQ.step (E' := [(45, _)])
          case ho => rfl
          case hs => exact ⟨rfl, trivial⟩
          case hk => rfl
          case h1 =>
            intro wq_15 kq_15
            have zs_kq_15 := kq_15.size
            replace hb0 := hb0.pure kq_15
            replace hb1 := hb1.pure kq_15
            replace h1 := h1.pure kq_15
            replace h2 := h2.pure kq_15
            replace hw := hw.pure kq_15
            refine WL.load Try.isAgg3 rfl (h2.snaps.cellsAt hy 0 _ rfl) rfl ?_
            refine WL.nil ?_
            exact WX.one ⟨rfl, by first | exact Chg.refl _ _ | assumption⟩
          apply DQ.split (E' := [(40, _), (46, _)])
          case ho => rfl
          case hs => exact ⟨rfl, rfl, trivial⟩
          case hk => rfl
          case h1 =>
            intro wq_16 kq_16
            refine WL.neq rfl rfl rfl ?_
            refine WL.nil ?_
            exact WX.one ⟨rfl, by first | exact Chg.refl _ _ | assumption⟩
          case ht =>
            intro h47
            replace h47 := of_decide_eq_true h47
            apply DQ.step (E' := [(47, _)])
            case ho => rfl
            case hs => exact ⟨rfl, trivial⟩
            case hk => rfl
            case h1 =>
              intro wq_17 kq_17
              refine WL.move rfl rfl (?_)
              refine WL.nil ?_
              exact WX.one ⟨rfl, by first | exact Chg.refl _ _ | assumption⟩
            apply DQ.step (E' := [(2, _), (48, _)])
            case ho => rfl
            case hs => exact ⟨rfl, rfl, trivial⟩
            case hk => rfl
            case h1 =>
              intro wq_18 kq_18
              refine WL.pass rfl rfl rfl rfl (WL.nil (?_))
              exact WX.one ⟨rfl, by first | exact Chg.refl _ _ | assumption⟩
            apply DQ.step (E' := [(49, _), (48, _)])
            case ho => rfl
            case hs => exact ⟨rfl, rfl, trivial⟩
            case hk => rfl
            case h1 =>
              intro wq_19 kq_19
              have zs_kq_19 := kq_19.size
              replace hb0 := hb0.pure kq_19
              replace hb1 := hb1.pure kq_19
              replace h1 := h1.pure kq_19
              replace h2 := h2.pure kq_19
              replace hw := hw.pure kq_19
              refine WL.pass rfl rfl rfl rfl (WL.nil (?_))
              exact WX.one ⟨rfl, by first | exact Chg.refl _ _ | assumption⟩
            apply DQ.step (E' := [(5, _), (48, _)])
            case ho => rfl
            case hs => exact ⟨rfl, rfl, trivial⟩
            case hk => rfl
            case h1 =>
              intro wq_20 kq_20
              refine WL.pass rfl rfl rfl rfl (WL.nil (?_))
              exact WX.one ⟨rfl, by first | exact Chg.refl _ _ | assumption⟩
            apply DQ.step (E' := [(50, _), (51, _), (48, _)])
            case ho => rfl
            case hs => exact ⟨rfl, rfl, rfl, trivial⟩
            case hk => rfl
            case h1 =>
              intro wq_21 kq_21
              have zs_kq_21 := kq_21.size
              replace hb0 := hb0.pure kq_21
              replace hb1 := hb1.pure kq_21
              replace h1 := h1.pure kq_21
              replace h2 := h2.pure kq_21
              replace hw := hw.pure kq_21
              refine WL.pass rfl rfl rfl rfl (WL.nil (?_))
              exact WX.one ⟨rfl, by first | exact Chg.refl _ _ | assumption⟩
            apply DQ.step (E' := [(52, _), (48, _)])
            case ho => rfl
            case hs => exact ⟨rfl, rfl, trivial⟩
            case hk => rfl
            case h1 =>
              intro wq_22 kq_22
              refine WL.pass rfl rfl rfl rfl (WL.nil (?_))
              exact WX.one ⟨rfl, by first | exact Chg.refl _ _ | assumption⟩
            apply DQ.step (E' := [(53, _), (48, _)])
            case ho => rfl
            case hs => exact ⟨rfl, rfl, trivial⟩
            case hk => rfl
            case h1 =>
              intro wq_23 kq_23
              have zs_kq_23 := kq_23.size
              replace hb0 := hb0.pure kq_23
              replace hb1 := hb1.pure kq_23
              replace h1 := h1.pure kq_23
              replace h2 := h2.pure kq_23
              replace hw := hw.pure kq_23
              refine WL.pass rfl rfl rfl rfl (WL.nil (?_))
              exact WX.one ⟨rfl, by first | exact Chg.refl _ _ | assumption⟩
            apply DQ.step (E' := [(3, _), (48, _)])
            case ho => rfl
            case hs => exact ⟨rfl, rfl, trivial⟩
            case hk => rfl
            case h1 =>
              intro wq_24 kq_24
              refine WL.pass rfl rfl rfl rfl (WL.nil (?_))
              exact WX.one ⟨rfl, by first | exact Chg.refl _ _ | assumption⟩
            apply DQ.step (E' := [(55, _), (48, _)])
            case ho => rfl
            case hs => exact ⟨rfl, rfl, trivial⟩
            case hk => rfl
            case h1 =>
              intro wq_25 kq_25
              have zs_kq_25 := kq_25.size
              replace hb0 := hb0.pure kq_25
              replace hb1 := hb1.pure kq_25
              replace h1 := h1.pure kq_25
              replace h2 := h2.pure kq_25
              replace hw := hw.pure kq_25
              refine WL.pass rfl rfl rfl rfl (WL.nil (?_))
              exact WX.one ⟨rfl, by first | exact Chg.refl _ _ | assumption⟩
            apply DQ.step (E' := [(5, _), (48, _)])
            case ho => rfl
            case hs => exact ⟨rfl, rfl, trivial⟩
            case hk => rfl
            case h1 =>
              intro wq_26 kq_26
              refine WL.pass rfl rfl rfl rfl (WL.nil (?_))
              exact WX.one ⟨rfl, by first | exact Chg.refl _ _ | assumption⟩
            apply DQ.step (E' := [(56, _), (57, _), (48, _)])
            case ho => rfl
            case hs => exact ⟨rfl, rfl, rfl, trivial⟩
            case hk => rfl
            case h1 =>
              intro wq_27 kq_27
              have zs_kq_27 := kq_27.size
              replace hb0 := hb0.pure kq_27
              replace hb1 := hb1.pure kq_27
              replace h1 := h1.pure kq_27
              replace h2 := h2.pure kq_27
              replace hw := hw.pure kq_27
              refine WL.pass rfl rfl rfl rfl (WL.nil (?_))
              exact WX.one ⟨rfl, by first | exact Chg.refl _ _ | assumption⟩
            apply DQ.step (E' := [(58, _), (48, _)])
            case ho => rfl
            case hs => exact ⟨rfl, rfl, trivial⟩
            case hk => rfl
            case h1 =>
              intro wq_28 kq_28
              refine WL.pass rfl rfl rfl rfl (WL.nil (?_))
              exact WX.one ⟨rfl, by first | exact Chg.refl _ _ | assumption⟩
            apply DQ.step (E' := [(59, _), (48, _)])
            case ho => rfl
            case hs => exact ⟨rfl, rfl, trivial⟩
            case hk => rfl
            case h1 =>
              intro wq_29 kq_29
              have zs_kq_29 := kq_29.size
              replace hb0 := hb0.pure kq_29
              replace hb1 := hb1.pure kq_29
              replace h1 := h1.pure kq_29
              replace h2 := h2.pure kq_29
              replace hw := hw.pure kq_29
              refine WL.pass rfl rfl rfl rfl (WL.nil (?_))
              exact WX.one ⟨rfl, by first | exact Chg.refl _ _ | assumption⟩
            apply DQ.step (E' := [(54, _), (60, _), (48, _)])
            case ho => rfl
            case hs => exact ⟨rfl, rfl, rfl, trivial⟩
            case hk => rfl
            case h1 =>
              intro wq_30 kq_30
              have zs_kq_30 := kq_30.size
              replace hb0 := hb0.pure kq_30
              replace hb1 := hb1.pure kq_30
              replace h1 := h1.pure kq_30
              replace h2 := h2.pure kq_30
              replace hw := hw.pure kq_30
              refine WL.pass rfl rfl rfl rfl (WL.nil (?_))
              exact WX.one ⟨rfl, by first | exact Chg.refl _ _ | assumption⟩
            apply DQ.step (E' := [(61, _), (48, _)])
            case ho => rfl
            case hs => exact ⟨rfl, rfl, trivial⟩
            case hk => rfl
            case h1 =>
              intro wq_31 kq_31
              refine WL.pass rfl rfl rfl rfl (WL.nil (?_))
              exact WX.one ⟨rfl, by first | exact Chg.refl _ _ | assumption⟩
            apply DQ.step (E' := [(48, _), (62, _)])
            case ho => rfl
            case hs => exact ⟨rfl, rfl, trivial⟩
            case hk => rfl
            case h1 =>
              intro wq_32 kq_32
              refine WL.pickT rfl rfl rfl (?_)
              refine WL.nil ?_
              exact WX.one ⟨rfl, by first | exact Chg.refl _ _ | assumption⟩
            refine DQ.done (fun _ => ?_)
            refine DL.done (fun we_33 ke_33 => ?_)
            have zs_ke_33 := ke_33.size
            replace hb0 := hb0.pure ke_33
            replace hb1 := hb1.pure ke_33
            replace h1 := h1.pure ke_33
            replace h2 := h2.pure ke_33
            replace hw := hw.pure ke_33
            refine WX.then_normal (WC.cond_true rfl (WC.seq (WC.region (WL.assign rfl rfl (WL.nil (WX.then_normal (WC.ret (?_))))))))
            refine WX.block_ret (WX.then_ret (WX.then_ret (WX.block_ret (WX.then_ret (?_)))))
            refine WX.ret1 (.inl rfl) Try.results14 rfl ?_
            first
              | (have hh : ba ≠ bb := h10
                 exact ⟨_, rfl, ⟨false, rfl, (fun h => by cases h), (fun e => absurd (congrArg LA.base e) hh)⟩, hw⟩)
              | (have hh : (sn.length : Int) ≠ tn.length := h18
                 refine ⟨_, rfl, ⟨false, rfl, (fun h => by cases h), (fun e => ?_)⟩, hw⟩
                 have h3 := congrArg (fun L : LA => L.snaps.length) e
                 simp only [LnV.abs, sabs_len] at h3
                 omega)
              | (have hh : ¬ de = ee := hde
                 exact ⟨_, rfl, ⟨false, rfl, (fun h => by cases h), (fun e => absurd (congrArg LA.dead e) hh)⟩, hw⟩)
              | (have hh : x.txg ≠ y.txg := h47
                 refine ⟨_, rfl, ⟨false, rfl, (fun h => by cases h), (fun e => ?_)⟩, hw⟩
                 have h3 : (sabs sn)[i]? = (sabs tn)[i]? := congrArg (fun L : LA => L.snaps[i]?) e
                 rw [sabs_at hx, sabs_at hy] at h3
                 injection h3 with h3
                 injection h3 with h3 h4
                 exact absurd h3 hh)
              | (have hh : (!decide (x.dead = y.dead)) = true := hc63
                 refine ⟨_, rfl, ⟨false, rfl, (fun h => by cases h), (fun e => ?_)⟩, hw⟩
                 have h3 : (sabs sn)[i]? = (sabs tn)[i]? := congrArg (fun L : LA => L.snaps[i]?) e
                 rw [sabs_at hx, sabs_at hy] at h3
                 injection h3 with h3
                 injection h3 with h3 h4
                 rw [decide_eq_true h4] at hh
                 cases hh)
              | (have hlen : (sn.length : Int) = tn.length := h18
                 have hbb : ba = bb := h10
                 have e : sabs sn = sabs tn := by
                   apply List.ext_getElem?
                   intro j
                   rcases Nat.lt_or_ge j i with h3 | h3
                   ·
                     exact hno j h3
                   ·
                     rw [List.getElem?_eq_none (by rw [sabs_len]; omega), List.getElem?_eq_none (by rw [sabs_len]; omega)]
                 refine ⟨_, rfl, ⟨true, rfl, fun _ => ?_, fun _ => rfl⟩, hw⟩
                 show LA.mk ba (sabs sn) de = LA.mk bb (sabs tn) ee
                 rw [hbb, e, hde])
          case hf =>
            intro h47
            replace h47 := of_decide_eq_false h47
            apply DQ.step (E' := [(47, _)])
            case ho => rfl
            case hs => exact ⟨rfl, trivial⟩
            case hk => rfl
            case h1 =>
              intro wq_17 kq_17
              refine WL.move rfl rfl (?_)
              refine WL.nil ?_
              exact WX.one ⟨rfl, by first | exact Chg.refl _ _ | assumption⟩
            apply DQ.step (E' := [(2, _), (48, _)])
            case ho => rfl
            case hs => exact ⟨rfl, rfl, trivial⟩
            case hk => rfl
            case h1 =>
              intro wq_18 kq_18
              refine WL.want rfl rfl rfl (WL.fieldAddr (fld_25_1) rfl rfl (?_))
              refine WL.nil ?_
              exact WX.one ⟨rfl, by first | exact Chg.refl _ _ | assumption⟩
            apply DQ.step (E' := [(49, _), (48, _)])
            case ho => rfl
            case hs => exact ⟨rfl, rfl, trivial⟩
            case hk => rfl
            case h1 =>
              intro wq_19 kq_19
              have zs_kq_19 := kq_19.size
              replace hb0 := hb0.pure kq_19
              replace hb1 := hb1.pure kq_19
              replace h1 := h1.pure kq_19
              replace h2 := h2.pure kq_19
              replace hw := hw.pure kq_19
              refine WL.want rfl rfl rfl (WL.loadB Try.isAgg22 hb0 rfl rfl rfl (?_))
              refine WL.nil ?_
              exact WX.one ⟨rfl, by first | exact Chg.refl _ _ | assumption⟩
            apply DQ.step (E' := [(5, _), (48, _)])
            case ho => rfl
            case hs => exact ⟨rfl, rfl, trivial⟩
            case hk => rfl
            case h1 =>
              intro wq_20 kq_20
              refine WL.want rfl rfl rfl (WL.move rfl rfl (?_))
              refine WL.nil ?_
              exact WX.one ⟨rfl, by first | exact Chg.refl _ _ | assumption⟩
            apply DQ.step (E' := [(50, _), (51, _), (48, _)])
            case ho => rfl
            case hs => exact ⟨rfl, rfl, rfl, trivial⟩
            case hk => rfl
            case h1 =>
              intro wq_21 kq_21
              have zs_kq_21 := kq_21.size
              replace hb0 := hb0.pure kq_21
              replace hb1 := hb1.pure kq_21
              replace h1 := h1.pure kq_21
              replace h2 := h2.pure kq_21
              replace hw := hw.pure kq_21
              refine WL.want rfl rfl rfl (?_)
              refine WL.indexC (e := esn) h1.snaps Try.underlying22 Try.sizeOf72 rfl rfl ⟨hx, rfl⟩ rfl ?_
              refine WL.nil ?_
              exact WX.one ⟨rfl, by first | exact Chg.refl _ _ | assumption⟩
            apply DQ.step (E' := [(52, _), (48, _)])
            case ho => rfl
            case hs => exact ⟨rfl, rfl, trivial⟩
            case hk => rfl
            case h1 =>
              intro wq_22 kq_22
              refine WL.want rfl rfl rfl (WL.fieldAddr (fld_72_1) rfl rfl (?_))
              refine WL.nil ?_
              exact WX.one ⟨rfl, by first | exact Chg.refl _ _ | assumption⟩
            apply DQ.step (E' := [(53, _), (48, _)])
            case ho => rfl
            case hs => exact ⟨rfl, rfl, trivial⟩
            case hk => rfl
            case h1 =>
              intro wq_23 kq_23
              have zs_kq_23 := kq_23.size
              replace hb0 := hb0.pure kq_23
              replace hb1 := hb1.pure kq_23
              replace h1 := h1.pure kq_23
              replace h2 := h2.pure kq_23
              replace hw := hw.pure kq_23
              refine WL.want rfl rfl rfl (?_)
              refine WL.load Try.isAgg23 rfl (h1.snaps.cellsAt hx 1 _ rfl) rfl ?_
              refine WL.nil ?_
              exact WX.one ⟨rfl, by first | exact Chg.refl _ _ | assumption⟩
            apply DQ.step (E' := [(3, _), (48, _)])
            case ho => rfl
            case hs => exact ⟨rfl, rfl, trivial⟩
            case hk => rfl
            case h1 =>
              intro wq_24 kq_24
              refine WL.want rfl rfl rfl (WL.fieldAddr (fld_25_1) rfl rfl (?_))
              refine WL.nil ?_
              exact WX.one ⟨rfl, by first | exact Chg.refl _ _ | assumption⟩
            apply DQ.step (E' := [(55, _), (48, _)])
            case ho => rfl
            case hs => exact ⟨rfl, rfl, trivial⟩
            case hk => rfl
            case h1 =>
              intro wq_25 kq_25
              have zs_kq_25 := kq_25.size
              replace hb0 := hb0.pure kq_25
              replace hb1 := hb1.pure kq_25
              replace h1 := h1.pure kq_25
              replace h2 := h2.pure kq_25
              replace hw := hw.pure kq_25
              refine WL.want rfl rfl rfl (WL.loadB Try.isAgg22 hb1 rfl rfl rfl (?_))
              refine WL.nil ?_
              exact WX.one ⟨rfl, by first | exact Chg.refl _ _ | assumption⟩
            apply DQ.step (E' := [(5, _), (48, _)])
            case ho => rfl
            case hs => exact ⟨rfl, rfl, trivial⟩
            case hk => rfl
            case h1 =>
              intro wq_26 kq_26
              refine WL.want rfl rfl rfl (WL.move rfl rfl (?_))
              refine WL.nil ?_
              exact WX.one ⟨rfl, by first | exact Chg.refl _ _ | assumption⟩
            apply DQ.step (E' := [(56, _), (57, _), (48, _)])
            case ho => rfl
            case hs => exact ⟨rfl, rfl, rfl, trivial⟩
            case hk => rfl
            case h1 =>
              intro wq_27 kq_27
              have zs_kq_27 := kq_27.size
              replace hb0 := hb0.pure kq_27
              replace hb1 := hb1.pure kq_27
              replace h1 := h1.pure kq_27
              replace h2 := h2.pure kq_27
              replace hw := hw.pure kq_27
              refine WL.want rfl rfl rfl (?_)
              refine WL.indexC (e := esn) h2.snaps Try.underlying22 Try.sizeOf72 rfl rfl ⟨hy, rfl⟩ rfl ?_
              refine WL.nil ?_
              exact WX.one ⟨rfl, by first | exact Chg.refl _ _ | assumption⟩
            apply DQ.step (E' := [(58, _), (48, _)])
            case ho => rfl
            case hs => exact ⟨rfl, rfl, trivial⟩
            case hk => rfl
            case h1 =>
              intro wq_28 kq_28
              refine WL.want rfl rfl rfl (WL.fieldAddr (fld_72_1) rfl rfl (?_))
              refine WL.nil ?_
              exact WX.one ⟨rfl, by first | exact Chg.refl _ _ | assumption⟩
            apply DQ.step (E' := [(59, _), (48, _)])
            case ho => rfl
            case hs => exact ⟨rfl, rfl, trivial⟩
            case hk => rfl
            case h1 =>
              intro wq_29 kq_29
              have zs_kq_29 := kq_29.size
              replace hb0 := hb0.pure kq_29
              replace hb1 := hb1.pure kq_29
              replace h1 := h1.pure kq_29
              replace h2 := h2.pure kq_29
              replace hw := hw.pure kq_29
              refine WL.want rfl rfl rfl (?_)
              refine WL.load Try.isAgg23 rfl (h2.snaps.cellsAt hy 1 _ rfl) rfl ?_
              refine WL.nil ?_
              exact WX.one ⟨rfl, by first | exact Chg.refl _ _ | assumption⟩
            apply DQ.step (E' := [(54, _), (60, _), (48, _)])
            case ho => rfl
            case hs => exact ⟨rfl, rfl, rfl, trivial⟩
            case hk => rfl
            case h1 =>
              intro wq_30 kq_30
              have zs_kq_30 := kq_30.size
              replace hb0 := hb0.pure kq_30
              replace hb1 := hb1.pure kq_30
              replace h1 := h1.pure kq_30
              replace h2 := h2.pure kq_30
              replace hw := hw.pure kq_30
              refine WL.want rfl rfl rfl (?_)
              refine WL.call eg_20 rfl rfl (same_calls (h1.inner x hxm) (h2.inner y hym) (by omega)) ?_
              rintro v w2 ⟨rfl, k2⟩
              have zs_k2 := k2.size
              replace hb0 := hb0.pure k2
              replace hb1 := hb1.pure k2
              replace h1 := h1.pure k2
              replace h2 := h2.pure k2
              replace hw := hw.pure k2
              refine WL.nil ?_
              exact WX.one ⟨rfl, by first | exact Chg.refl _ _ | assumption⟩
            apply DQ.step (E' := [(61, _), (48, _)])
            case ho => rfl
            case hs => exact ⟨rfl, rfl, trivial⟩
            case hk => rfl
            case h1 =>
              intro wq_31 kq_31
              refine WL.want rfl rfl rfl (WL.not rfl rfl (?_))
              refine WL.nil ?_
              exact WX.one ⟨rfl, by first | exact Chg.refl _ _ | assumption⟩
            apply DQ.step (E' := [(48, _), (62, _)])
            case ho => rfl
            case hs => exact ⟨rfl, rfl, trivial⟩
            case hk => rfl
            case h1 =>
              intro wq_32 kq_32
              refine WL.pickF rfl rfl rfl (?_)
              refine WL.nil ?_
              exact WX.one ⟨rfl, by first | exact Chg.refl _ _ | assumption⟩
            refine DQ.done (fun _ => ?_)
            refine DL.done (fun we_33 ke_33 => ?_)
            have zs_ke_33 := ke_33.size
            replace hb0 := hb0.pure ke_33
            replace hb1 := hb1.pure ke_33
            replace h1 := h1.pure ke_33
            replace h2 := h2.pure ke_33
            replace hw := hw.pure ke_33
            refine WX.then_normal (?_)
            first | refine WC.cond_dec rfl (fun hc63 => ?_) (fun hc63 => ?_) | refine WC.cond_split rfl (fun hc63 => ?_) (fun hc63 => ?_)
            ·
              refine WC.seq (WC.region (WL.assign rfl rfl (WL.nil (WX.then_normal (WC.ret (WX.block_ret (WX.then_ret (?_))))))))
              refine WX.then_ret (WX.block_ret (WX.then_ret (?_)))
              refine WX.ret1 (.inl rfl) Try.results14 rfl ?_
              first
                | (have hh : ba ≠ bb := h10
                   exact ⟨_, rfl, ⟨false, rfl, (fun h => by cases h), (fun e => absurd (congrArg LA.base e) hh)⟩, hw⟩)
                | (have hh : (sn.length : Int) ≠ tn.length := h18
                   refine ⟨_, rfl, ⟨false, rfl, (fun h => by cases h), (fun e => ?_)⟩, hw⟩
                   have h3 := congrArg (fun L : LA => L.snaps.length) e
                   simp only [LnV.abs, sabs_len] at h3
                   omega)
                | (have hh : ¬ de = ee := hde
                   exact ⟨_, rfl, ⟨false, rfl, (fun h => by cases h), (fun e => absurd (congrArg LA.dead e) hh)⟩, hw⟩)
                | (have hh : x.txg ≠ y.txg := h47
                   refine ⟨_, rfl, ⟨false, rfl, (fun h => by cases h), (fun e => ?_)⟩, hw⟩
                   have h3 : (sabs sn)[i]? = (sabs tn)[i]? := congrArg (fun L : LA => L.snaps[i]?) e
                   rw [sabs_at hx, sabs_at hy] at h3
                   injection h3 with h3
                   injection h3 with h3 h4
                   exact absurd h3 hh)
                | (have hh : (!decide (x.dead = y.dead)) = true := hc63
                   refine ⟨_, rfl, ⟨false, rfl, (fun h => by cases h), (fun e => ?_)⟩, hw⟩
                   have h3 : (sabs sn)[i]? = (sabs tn)[i]? := congrArg (fun L : LA => L.snaps[i]?) e
                   rw [sabs_at hx, sabs_at hy] at h3
                   injection h3 with h3
                   injection h3 with h3 h4
                   rw [decide_eq_true h4] at hh
                   cases hh)
                | (have hlen : (sn.length : Int) = tn.length := h18
                   have hbb : ba = bb := h10
                   have e : sabs sn = sabs tn := by
                     apply List.ext_getElem?
                     intro j
                     rcases Nat.lt_or_ge j i with h3 | h3
                     ·
                       exact hno j h3
                     ·
                       rw [List.getElem?_eq_none (by rw [sabs_len]; omega), List.getElem?_eq_none (by rw [sabs_len]; omega)]
                   refine ⟨_, rfl, ⟨true, rfl, fun _ => ?_, fun _ => rfl⟩, hw⟩
                   show LA.mk ba (sabs sn) de = LA.mk bb (sabs tn) ee
                   rw [hbb, e, hde])
            ·
              refine WC.skip (WX.block_normal (WX.then_normal (WC.region (WL.move rfl rfl (WL.add64 rfl rfl (by first | omega | (constructor <;> omega)) rfl (WL.assign rfl rfl (WL.nil (?_))))))))
              refine WX.loop_next (i + 1) ⟨rfl, rfl, rfl, trivial⟩ ⟨by omega, hb0, hb1, h1, h2, hw, fun j hj => ?_⟩ (by omega)
              rcases Nat.lt_or_ge j i with h3 | h3
              ·
                exact hno j h3
              ·
                have h4 : j = i := by omega
                subst h4
                have h5 : x.txg = y.txg := by omega
                have h6 : x.dead = y.dead := by
                  by_cases h7 : x.dead = y.dead
                  ·
                    exact h7
                  ·
                    rw [decide_eq_false h7] at hc63
                    cases hc63
                rw [sabs_at hx, sabs_at hy, h5, h6]
        ·
          refine WL.nil (WX.then_normal (WC.cond_false rfl (WC.exit (WX.then_exit (WX.then_exit (WX.block_here (WX.then_normal (?_))))))))
          refine WC.seq (WC.region (WL.assign rfl rfl (WL.nil (WX.then_normal (WC.ret (?_))))))
          refine WX.ret1 (.inl rfl) Try.results14 rfl ?_
          first
            | (have hh : ba ≠ bb := h10
               exact ⟨_, rfl, ⟨false, rfl, (fun h => by cases h), (fun e => absurd (congrArg LA.base e) hh)⟩, hw⟩)
            | (have hh : (sn.length : Int) ≠ tn.length := h18
               refine ⟨_, rfl, ⟨false, rfl, (fun h => by cases h), (fun e => ?_)⟩, hw⟩
               have h3 := congrArg (fun L : LA => L.snaps.length) e
               simp only [LnV.abs, sabs_len] at h3
               omega)
            | (have hh : ¬ de = ee := hde
               exact ⟨_, rfl, ⟨false, rfl, (fun h => by cases h), (fun e => absurd (congrArg LA.dead e) hh)⟩, hw⟩)
            | (have hh : x.txg ≠ y.txg := h47
               refine ⟨_, rfl, ⟨false, rfl, (fun h => by cases h), (fun e => ?_)⟩, hw⟩
               have h3 : (sabs sn)[i]? = (sabs tn)[i]? := congrArg (fun L : LA => L.snaps[i]?) e
               rw [sabs_at hx, sabs_at hy] at h3
               injection h3 with h3
               injection h3 with h3 h4
               exact absurd h3 hh)
            | (have hh : (!decide (x.dead = y.dead)) = true := hc63
               refine ⟨_, rfl, ⟨false, rfl, (fun h => by cases h), (fun e => ?_)⟩, hw⟩
               have h3 : (sabs sn)[i]? = (sabs tn)[i]? := congrArg (fun L : LA => L.snaps[i]?) e
               rw [sabs_at hx, sabs_at hy] at h3
               injection h3 with h3
               injection h3 with h3 h4
               rw [decide_eq_true h4] at hh
               cases hh)
            | (have hlen : (sn.length : Int) = tn.length := h18
               have hbb : ba = bb := h10
               have e : sabs sn = sabs tn := by
                 apply List.ext_getElem?
                 intro j
                 rcases Nat.lt_or_ge j i with h3 | h3
                 ·
                   exact hno j h3
                 ·
                   rw [List.getElem?_eq_none (by rw [sabs_len]; omega), List.getElem?_eq_none (by rw [sabs_len]; omega)]
               refine ⟨_, rfl, ⟨true, rfl, fun _ => ?_, fun _ => rfl⟩, hw⟩
               show LA.mk ba (sabs sn) de = LA.mk bb (sabs tn) ee
               rw [hbb, e, hde])
      ·
        rw [show decide ((LnV.mk ba sa sc sn da dc de).dead = (LnV.mk bb ta tc tn ea ec ee).dead) = false from decide_eq_false hde]
        refine WL.want rfl rfl rfl (WL.not rfl rfl (WL.pickF rfl rfl rfl (WL.nil (WX.then_normal (WC.cond_true rfl (WC.seq (WC.region (?_))))))))
        refine WL.assign rfl rfl (WL.nil (WX.then_normal (WC.ret (WX.then_ret (?_)))))
        refine WX.ret1 (.inl rfl) Try.results14 rfl ?_
        first
          | (have hh : ba ≠ bb := h10
             exact ⟨_, rfl, ⟨false, rfl, (fun h => by cases h), (fun e => absurd (congrArg LA.base e) hh)⟩, hw⟩)
          | (have hh : (sn.length : Int) ≠ tn.length := h18
             refine ⟨_, rfl, ⟨false, rfl, (fun h => by cases h), (fun e => ?_)⟩, hw⟩
             have h3 := congrArg (fun L : LA => L.snaps.length) e
             simp only [LnV.abs, sabs_len] at h3
             omega)
          | (have hh : ¬ de = ee := hde
             exact ⟨_, rfl, ⟨false, rfl, (fun h => by cases h), (fun e => absurd (congrArg LA.dead e) hh)⟩, hw⟩)
          | (have hh : x.txg ≠ y.txg := h47
             refine ⟨_, rfl, ⟨false, rfl, (fun h => by cases h), (fun e => ?_)⟩, hw⟩
             have h3 : (sabs sn)[i]? = (sabs tn)[i]? := congrArg (fun L : LA => L.snaps[i]?) e
             rw [sabs_at hx, sabs_at hy] at h3
             injection h3 with h3
             injection h3 with h3 h4
             exact absurd h3 hh)
          | (have hh : (!decide (x.dead = y.dead)) = true := hc63
             refine ⟨_, rfl, ⟨false, rfl, (fun h => by cases h), (fun e => ?_)⟩, hw⟩
             have h3 : (sabs sn)[i]? = (sabs tn)[i]? := congrArg (fun L : LA => L.snaps[i]?) e
             rw [sabs_at hx, sabs_at hy] at h3
             injection h3 with h3
             injection h3 with h3 h4
             rw [decide_eq_true h4] at hh
             cases hh)
          | (have hlen : (sn.length : Int) = tn.length := h18
             have hbb : ba = bb := h10
             have e : sabs sn = sabs tn := by
               apply List.ext_getElem?
               intro j
               rcases Nat.lt_or_ge j i with h3 | h3
               ·
                 exact hno j h3
               ·
                 rw [List.getElem?_eq_none (by rw [sabs_len]; omega), List.getElem?_eq_none (by rw [sabs_len]; omega)]
             refine ⟨_, rfl, ⟨true, rfl, fun _ => ?_, fun _ => rfl⟩, hw⟩
             show LA.mk ba (sabs sn) de = LA.mk bb (sabs tn) ee
             rw [hbb, e, hde])
end Go.Proofs.Ytgmkoieemmglpaa
