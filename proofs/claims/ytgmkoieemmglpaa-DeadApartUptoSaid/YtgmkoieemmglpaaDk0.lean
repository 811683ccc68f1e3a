import Derived.Test.YtgmkoieemmglpaaDh
namespace Go.Proofs.Ytgmkoieemmglpaa
open Go.RowKit Go.HL

/-! the same as the document's -/
set_option maxHeartbeats 4000000 in
theorem back_calls {S : Nat → Prop} {w : World} {l : LnV} (h : LS S w l) (hs : Sm 60 l) : Calls Try.prog 15 [lval l].toArray w (Ret fun v w' => (∃ l', v = lval l' ∧ LS (fun _ => True) w' l' ∧ l'.abs = l.abs) ∧ Chg Nob w w') := by
  have hw := Chg.refl Nob w
  have hsn := hs.snaps
  have hsd := hs.dead
  replace h := h.old
  obtain ⟨ba, sa, sc, sn, da, dc, de⟩ := l
  simp only at hsn hsd
  refine Calls.of_WC Try.func15 rfl Try.ntmps15 (by simp) ?_
  refine WC.seq (WC.region (?_))
  refine WL.box rfl rfl ?_
  intro g_1 w_1 hge_1 hlt_1 hb_1 k_1
  have zs_k_1 := k_1.size
  replace h := h.pure k_1
  replace hw := hw.pure k_1
  refine WL.alloc Try.zeroValue25 rfl ?_
  intro g_2 w_2 hge_2 hlt_2 hb_2 k_2
  have zs_k_2 := k_2.size
  replace h := h.pure k_2
  replace hw := hw.pure k_2
  replace hb_1 := hb_1.pure k_2
  refine WL.nil (WX.then_normal (WC.seq (WC.region (WL.fieldAddr (fld_33_0) rfl rfl (WL.loadB Try.isAgg3 hb_1 rfl rfl rfl (WL.fieldAddr (fld_33_2) rfl rfl (WL.loadB Try.isAgg23 hb_1 rfl rfl rfl (?_))))))))
  refine WL.bld rfl (bld_25_0_2 _ _ _ _) rfl (?_)
  refine WL.alloc Try.zeroValue25 rfl ?_
  intro g_3 w_3 hge_3 hlt_3 hb_3 k_3
  have zs_k_3 := k_3.size
  replace h := h.pure k_3
  replace hw := hw.pure k_3
  replace hb_1 := hb_1.pure k_3
  replace hb_2 := hb_2.pure k_3
  refine WL.stores Try.sizeOf25 hb_3 rfl rfl (by first | (simp; done) | (simp; omega) | rfl) (by first | exact Enc.one _ _ | (intro u hu; obtain ⟨x, _, rfl⟩ := List.mem_map.1 hu; rfl) | (simp [Value.oneCell']; done) | (simp [Value.oneCell', Value.cells]; done)) (by first | (simp; done) | (simp; omega) | (simp [Value.cells]; done) | (simp [Value.cells]; omega) | exact Nat.le_of_ble_eq_true rfl) rfl ?_
  intro w_4 hs_4 hn_4 k_4
  have zs_k_4 := k_4.size
  replace h := h.chg k_4 (by first | (intro x h1 h2; have h3 : _ = _ := h2; subst h3; assumption) | (intro x h1 h2; have h3 : _ = _ := h2; exfalso; omega) | (intro b h1 h2 h3; have h4 : _ = _ := h3; (try dsimp only at h2); exfalso; omega) | (intro h1; have h2 : _ = _ := h1; exfalso; omega) | (intros; exfalso; (try dsimp only at *); omega) | (intro h1; exfalso; have h4 := h1.2; (try dsimp only at *); omega) | (intro x h1 h2; exact h2.1))
  replace hw := hw.chg k_4 (by first | (intro x h1 h2; have h3 : _ = _ := h2; subst h3; assumption) | (intro x h1 h2; have h3 : _ = _ := h2; exfalso; omega) | (intro b h1 h2 h3; have h4 : _ = _ := h3; (try dsimp only at h2); exfalso; omega) | (intro h1; have h2 : _ = _ := h1; exfalso; omega) | (intros; exfalso; (try dsimp only at *); omega) | (intro h1; exfalso; have h4 := h1.2; (try dsimp only at *); omega) | (intro x h1 h2; exact h2.1))
  replace hb_1 := hb_1.chg k_4 (by first | (intro x h1 h2; have h3 : _ = _ := h2; subst h3; assumption) | (intro x h1 h2; have h3 : _ = _ := h2; exfalso; omega) | (intro b h1 h2 h3; have h4 : _ = _ := h3; (try dsimp only at h2); exfalso; omega) | (intro h1; have h2 : _ = _ := h1; exfalso; omega) | (intros; exfalso; (try dsimp only at *); omega) | (intro h1; exfalso; have h4 := h1.2; (try dsimp only at *); omega) | (intro x h1 h2; exact h2.1))
  replace hb_2 := hb_2.chg k_4 (by first | (intro x h1 h2; have h3 : _ = _ := h2; subst h3; assumption) | (intro x h1 h2; have h3 : _ = _ := h2; exfalso; omega) | (intro b h1 h2 h3; have h4 : _ = _ := h3; (try dsimp only at h2); exfalso; omega) | (intro h1; have h2 : _ = _ := h1; exfalso; omega) | (intros; exfalso; (try dsimp only at *); omega) | (intro h1; exfalso; have h4 := h1.2; (try dsimp only at *); omega) | (intro x h1 h2; exact h2.1))
  replace hb_3 := hn_4
  refine WL.nil (WX.then_normal (WC.seq (WC.seq (WC.region (WL.assign rfl rfl (WL.nil (WX.then_normal (?_))))))))
  refine WC.block (?_)
  have hb1 : Blk _ g_1 33 [vi ba, .slice sa sn.length sc, .slice da de.length dc] := hb_1
  have hb3 : Blk _ g_3 25 [vi ba, .slice none 0 0, .slice da de.length dc] := hb_3
  refine WC.loop (σ := Nat × (Option Addr × Nat)) (fun q => [(1, gptr g_1), (2, gptr g_2), (3, gptr g_3), (4, vi (q.1 : Int))]) (fun q w' => q.1 ≤ sn.length ∧ Blk w' g_1 33 [vi ba, .slice sa sn.length sc, .slice da de.length dc] ∧ Blk w' g_2 25 (lcells ⟨0, none, 0, [], none, 0, []⟩) ∧ Blk w' g_3 25 [vi ba, .slice q.2.1 (sn.take q.1).length q.2.2, .slice da de.length dc] ∧ LS (· < w.heap.size) w' ⟨ba, sa, sc, sn, da, dc, de⟩ ∧ Chg Nob w w' ∧ Row (fun b => (w.heap.size ≤ b ∧ b ≠ g_1 ∧ b ≠ g_2) ∧ b ≠ g_3) w' 72 esn q.2.1 q.2.2 (sn.take q.1)) (fun q => sn.length - q.1) (0, (none, 0)) ⟨rfl, rfl, rfl, rfl, trivial⟩ ⟨Nat.zero_le _, hb1, hb_2, hb3, h, hw, Row.nil _ _ _ _⟩ ?_
  clear hb1 hb_1 hb_2 hb_3 hb3 h hw
  rintro ⟨i, ⟨sa2, sc2⟩⟩ w1 ⟨hi, hb1, hb2, hb3, h, hw, hW⟩
  simp only at hi hb3 hW
  dsimp only
  have lg1 := hb1.lt
  have lg2 := hb2.lt
  have lg3 := hb3.lt
  have hl2 : (sn.take i).length = i := by rw [List.length_take]; omega
  have zw := hw.size
  refine WC.seq (WC.seq (WC.region (WL.move rfl rfl (WL.fieldAddr (fld_33_1) rfl rfl (WL.loadB Try.isAgg31 hb1 rfl rfl rfl (WL.len Try.underlying31 rfl rfl (?_)))))))
  refine WL.lss? rfl rfl rfl (fun h14 => ?_) (fun h14 => ?_)
  ·
    refine WL.nil (WX.then_normal (WC.cond_true rfl (WC.skip (WX.then_normal (WC.seq (WC.block (?_)))))))
    have h14' : (i : Int) < (sn.length : Int) := by omega
    obtain ⟨x, hx⟩ : ∃ x, sn[i]? = some x := ⟨_, List.getElem?_eq_getElem (by omega)⟩
    have hxm := List.mem_of_getElem? hx
    have hM3 : w.heap.size ≤ g_3 ∧ g_3 ≠ g_1 ∧ g_3 ≠ g_2 := by omega
    obtain ⟨b1, o1, rfl⟩ := h.snaps.place hx
    refine WC.drawM ((fun x => w.heap.size ≤ x ∧ x ≠ g_1 ∧ x ≠ g_2)) [0, 2, 3, 4, 5, 6, 7, 8, 9, 10, 11, 12, 13, 14, 17] [1, 15, 16, 18] mixed rfl rfl (fun wd_5 kd_5 zd_5 => ?_)
    have zs_kd_5 := kd_5.size
    replace hb1 := hb1.pure kd_5
    replace hb2 := hb2.pure kd_5
    replace hb3 := hb3.pure kd_5
    replace h := h.pure kd_5
    replace hw := hw.pure kd_5
    replace hW := hW.pure kd_5
    apply DQT.step (E' := [(3, _)])
    case ho => rfl
    case hs => exact ⟨rfl, trivial⟩
    case hk => rfl
    case h1 =>
      intro wq_7 kq_7
      refine WL.fieldAddr (fld_25_1) rfl rfl (?_)
      refine WL.nil ?_
      exact WX.one ⟨rfl, by first | exact Chg.refl _ _ | assumption⟩
    apply DQT.step (E' := [(1, _)])
    case ho => rfl
    case hs => exact ⟨rfl, trivial⟩
    case hk => rfl
    case h1 =>
      intro wq_8 kq_8
      refine WL.fieldAddr (fld_33_1) rfl rfl (?_)
      refine WL.nil ?_
      exact WX.one ⟨rfl, by first | exact Chg.refl _ _ | assumption⟩
    apply DQT.step (E' := [(19, _)])
    case ho => rfl
    case hs => exact ⟨rfl, trivial⟩
    case hk => rfl
    case h1 =>
      intro wq_9 kq_9
      have zs_kq_9 := kq_9.size
      replace hb1 := hb1.chg kq_9 (by first | (intro x h1 h2; have h3 : _ = _ := h2; subst h3; assumption) | (intro x h1 h2; have h3 : _ = _ := h2; exfalso; omega) | (intro b h1 h2 h3; have h4 : _ = _ := h3; (try dsimp only at h2); exfalso; omega) | (intro h1; have h2 : _ = _ := h1; exfalso; omega) | (intros; exfalso; (try dsimp only at *); omega) | (intro h1; exfalso; have h4 := h1.2; (try dsimp only at *); omega) | (intro x h1 h2; exact h2.1))
      replace hb2 := hb2.chg kq_9 (by first | (intro x h1 h2; have h3 : _ = _ := h2; subst h3; assumption) | (intro x h1 h2; have h3 : _ = _ := h2; exfalso; omega) | (intro b h1 h2 h3; have h4 : _ = _ := h3; (try dsimp only at h2); exfalso; omega) | (intro h1; have h2 : _ = _ := h1; exfalso; omega) | (intros; exfalso; (try dsimp only at *); omega) | (intro h1; exfalso; have h4 := h1.2; (try dsimp only at *); omega) | (intro x h1 h2; exact h2.1))
      replace h := h.chg kq_9 (by first | (intro x h1 h2; have h3 : _ = _ := h2; subst h3; assumption) | (intro x h1 h2; have h3 : _ = _ := h2; exfalso; omega) | (intro b h1 h2 h3; have h4 : _ = _ := h3; (try dsimp only at h2); exfalso; omega) | (intro h1; have h2 : _ = _ := h1; exfalso; omega) | (intros; exfalso; (try dsimp only at *); omega) | (intro h1; exfalso; have h4 := h1.2; (try dsimp only at *); omega) | (intro x h1 h2; exact h2.1))
      replace hw := hw.chg kq_9 (by first | (intro x h1 h2; have h3 : _ = _ := h2; subst h3; assumption) | (intro x h1 h2; have h3 : _ = _ := h2; exfalso; omega) | (intro b h1 h2 h3; have h4 : _ = _ := h3; (try dsimp only at h2); exfalso; omega) | (intro h1; have h2 : _ = _ := h1; exfalso; omega) | (intros; exfalso; (try dsimp only at *); omega) | (intro h1; exfalso; have h4 := h1.2; (try dsimp only at *); omega) | (intro x h1 h2; exact h2.1))
      refine WL.loadB Try.isAgg31 hb1 rfl rfl rfl (?_)
      refine WL.nil ?_
      exact WX.one ⟨rfl, by first | exact Chg.refl _ _ | assumption⟩
    apply DQT.step (E' := [(4, _)])
    case ho => rfl
    case hs => exact ⟨rfl, trivial⟩
    case hk => rfl
    case h1 =>
      intro wq_10 kq_10
      refine WL.move rfl rfl (?_)
      refine WL.nil ?_
      exact WX.one ⟨rfl, by first | exact Chg.refl _ _ | assumption⟩
    apply DQT.step (E' := [(20, _), (21, _)])
    case ho => rfl
    case hs => exact ⟨rfl, rfl, trivial⟩
    case hk => rfl
    case h1 =>
      intro wq_11 kq_11
      have zs_kq_11 := kq_11.size
      replace hb1 := hb1.chg kq_11 (by first | (intro x h1 h2; have h3 : _ = _ := h2; subst h3; assumption) | (intro x h1 h2; have h3 : _ = _ := h2; exfalso; omega) | (intro b h1 h2 h3; have h4 : _ = _ := h3; (try dsimp only at h2); exfalso; omega) | (intro h1; have h2 : _ = _ := h1; exfalso; omega) | (intros; exfalso; (try dsimp only at *); omega) | (intro h1; exfalso; have h4 := h1.2; (try dsimp only at *); omega) | (intro x h1 h2; exact h2.1))
      replace hb2 := hb2.chg kq_11 (by first | (intro x h1 h2; have h3 : _ = _ := h2; subst h3; assumption) | (intro x h1 h2; have h3 : _ = _ := h2; exfalso; omega) | (intro b h1 h2 h3; have h4 : _ = _ := h3; (try dsimp only at h2); exfalso; omega) | (intro h1; have h2 : _ = _ := h1; exfalso; omega) | (intros; exfalso; (try dsimp only at *); omega) | (intro h1; exfalso; have h4 := h1.2; (try dsimp only at *); omega) | (intro x h1 h2; exact h2.1))
      replace h := h.chg kq_11 (by first | (intro x h1 h2; have h3 : _ = _ := h2; subst h3; assumption) | (intro x h1 h2; have h3 : _ = _ := h2; exfalso; omega) | (intro b h1 h2 h3; have h4 : _ = _ := h3; (try dsimp only at h2); exfalso; omega) | (intro h1; have h2 : _ = _ := h1; exfalso; omega) | (intros; exfalso; (try dsimp only at *); omega) | (intro h1; exfalso; have h4 := h1.2; (try dsimp only at *); omega) | (intro x h1 h2; exact h2.1))
      replace hw := hw.chg kq_11 (by first | (intro x h1 h2; have h3 : _ = _ := h2; subst h3; assumption) | (intro x h1 h2; have h3 : _ = _ := h2; exfalso; omega) | (intro b h1 h2 h3; have h4 : _ = _ := h3; (try dsimp only at h2); exfalso; omega) | (intro h1; have h2 : _ = _ := h1; exfalso; omega) | (intros; exfalso; (try dsimp only at *); omega) | (intro h1; exfalso; have h4 := h1.2; (try dsimp only at *); omega) | (intro x h1 h2; exact h2.1))
      refine WL.indexC (e := esn) h.snaps Try.underlying31 Try.sizeOf65 rfl rfl ⟨hx, rfl⟩ rfl ?_
      refine WL.nil ?_
      exact WX.one ⟨rfl, by first | exact Chg.refl _ _ | assumption⟩
    apply DQT.step (E' := [(22, _)])
    case ho => rfl
    case hs => exact ⟨rfl, trivial⟩
    case hk => rfl
    case h1 =>
      intro wq_12 kq_12
      refine WL.fieldAddr (fld_65_0) rfl rfl (?_)
      refine WL.nil ?_
      exact WX.one ⟨rfl, by first | exact Chg.refl _ _ | assumption⟩
    apply DQT.step (E' := [(23, _)])
    case ho => rfl
    case hs => exact ⟨rfl, trivial⟩
    case hk => rfl
    case h1 =>
      intro wq_13 kq_13
      have zs_kq_13 := kq_13.size
      replace hb1 := hb1.chg kq_13 (by first | (intro x h1 h2; have h3 : _ = _ := h2; subst h3; assumption) | (intro x h1 h2; have h3 : _ = _ := h2; exfalso; omega) | (intro b h1 h2 h3; have h4 : _ = _ := h3; (try dsimp only at h2); exfalso; omega) | (intro h1; have h2 : _ = _ := h1; exfalso; omega) | (intros; exfalso; (try dsimp only at *); omega) | (intro h1; exfalso; have h4 := h1.2; (try dsimp only at *); omega) | (intro x h1 h2; exact h2.1))
      replace hb2 := hb2.chg kq_13 (by first | (intro x h1 h2; have h3 : _ = _ := h2; subst h3; assumption) | (intro x h1 h2; have h3 : _ = _ := h2; exfalso; omega) | (intro b h1 h2 h3; have h4 : _ = _ := h3; (try dsimp only at h2); exfalso; omega) | (intro h1; have h2 : _ = _ := h1; exfalso; omega) | (intros; exfalso; (try dsimp only at *); omega) | (intro h1; exfalso; have h4 := h1.2; (try dsimp only at *); omega) | (intro x h1 h2; exact h2.1))
      replace h := h.chg kq_13 (by first | (intro x h1 h2; have h3 : _ = _ := h2; subst h3; assumption) | (intro x h1 h2; have h3 : _ = _ := h2; exfalso; omega) | (intro b h1 h2 h3; have h4 : _ = _ := h3; (try dsimp only at h2); exfalso; omega) | (intro h1; have h2 : _ = _ := h1; exfalso; omega) | (intros; exfalso; (try dsimp only at *); omega) | (intro h1; exfalso; have h4 := h1.2; (try dsimp only at *); omega) | (intro x h1 h2; exact h2.1))
      replace hw := hw.chg kq_13 (by first | (intro x h1 h2; have h3 : _ = _ := h2; subst h3; assumption) | (intro x h1 h2; have h3 : _ = _ := h2; exfalso; omega) | (intro b h1 h2 h3; have h4 : _ = _ := h3; (try dsimp only at h2); exfalso; omega) | (intro h1; have h2 : _ = _ := h1; exfalso; omega) | (intros; exfalso; (try dsimp only at *); omega) | (intro h1; exfalso; have h4 := h1.2; (try dsimp only at *); omega) | (intro x h1 h2; exact h2.1))
      refine WL.load Try.isAgg3 rfl (h.snaps.cellsAt hx 0 _ rfl) rfl ?_
      refine WL.nil ?_
      exact WX.one ⟨rfl, by first | exact Chg.refl _ _ | assumption⟩
    apply DQT.step (E' := [(1, _)])
    case ho => rfl
    case hs => exact ⟨rfl, trivial⟩
    case hk => rfl
    case h1 =>
      intro wq_14 kq_14
      refine WL.fieldAddr (fld_33_1) rfl rfl (?_)
      refine WL.nil ?_
      exact WX.one ⟨rfl, by first | exact Chg.refl _ _ | assumption⟩
    apply DQT.step (E' := [(25, _)])
    case ho => rfl
    case hs => exact ⟨rfl, trivial⟩
    case hk => rfl
    case h1 =>
      intro wq_15 kq_15
      have zs_kq_15 := kq_15.size
      replace hb1 := hb1.chg kq_15 (by first | (intro x h1 h2; have h3 : _ = _ := h2; subst h3; assumption) | (intro x h1 h2; have h3 : _ = _ := h2; exfalso; omega) | (intro b h1 h2 h3; have h4 : _ = _ := h3; (try dsimp only at h2); exfalso; omega) | (intro h1; have h2 : _ = _ := h1; exfalso; omega) | (intros; exfalso; (try dsimp only at *); omega) | (intro h1; exfalso; have h4 := h1.2; (try dsimp only at *); omega) | (intro x h1 h2; exact h2.1))
      replace hb2 := hb2.chg kq_15 (by first | (intro x h1 h2; have h3 : _ = _ := h2; subst h3; assumption) | (intro x h1 h2; have h3 : _ = _ := h2; exfalso; omega) | (intro b h1 h2 h3; have h4 : _ = _ := h3; (try dsimp only at h2); exfalso; omega) | (intro h1; have h2 : _ = _ := h1; exfalso; omega) | (intros; exfalso; (try dsimp only at *); omega) | (intro h1; exfalso; have h4 := h1.2; (try dsimp only at *); omega) | (intro x h1 h2; exact h2.1))
      replace h := h.chg kq_15 (by first | (intro x h1 h2; have h3 : _ = _ := h2; subst h3; assumption) | (intro x h1 h2; have h3 : _ = _ := h2; exfalso; omega) | (intro b h1 h2 h3; have h4 : _ = _ := h3; (try dsimp only at h2); exfalso; omega) | (intro h1; have h2 : _ = _ := h1; exfalso; omega) | (intros; exfalso; (try dsimp only at *); omega) | (intro h1; exfalso; have h4 := h1.2; (try dsimp only at *); omega) | (intro x h1 h2; exact h2.1))
      replace hw := hw.chg kq_15 (by first | (intro x h1 h2; have h3 : _ = _ := h2; subst h3; assumption) | (intro x h1 h2; have h3 : _ = _ := h2; exfalso; omega) | (intro b h1 h2 h3; have h4 : _ = _ := h3; (try dsimp only at h2); exfalso; omega) | (intro h1; have h2 : _ = _ := h1; exfalso; omega) | (intros; exfalso; (try dsimp only at *); omega) | (intro h1; exfalso; have h4 := h1.2; (try dsimp only at *); omega) | (intro x h1 h2; exact h2.1))
      refine WL.loadB Try.isAgg31 hb1 rfl rfl rfl (?_)
      refine WL.nil ?_
      exact WX.one ⟨rfl, by first | exact Chg.refl _ _ | assumption⟩
    apply DQT.step (E' := [(4, _)])
    case ho => rfl
    case hs => exact ⟨rfl, trivial⟩
    case hk => rfl
    case h1 =>
      intro wq_16 kq_16
      refine WL.move rfl rfl (?_)
      refine WL.nil ?_
      exact WX.one ⟨rfl, by first | exact Chg.refl _ _ | assumption⟩
    apply DQT.step (E' := [(26, _), (27, _)])
    case ho => rfl
    case hs => exact ⟨rfl, rfl, trivial⟩
    case hk => rfl
    case h1 =>
      intro wq_17 kq_17
      have zs_kq_17 := kq_17.size
      replace hb1 := hb1.chg kq_17 (by first | (intro x h1 h2; have h3 : _ = _ := h2; subst h3; assumption) | (intro x h1 h2; have h3 : _ = _ := h2; exfalso; omega) | (intro b h1 h2 h3; have h4 : _ = _ := h3; (try dsimp only at h2); exfalso; omega) | (intro h1; have h2 : _ = _ := h1; exfalso; omega) | (intros; exfalso; (try dsimp only at *); omega) | (intro h1; exfalso; have h4 := h1.2; (try dsimp only at *); omega) | (intro x h1 h2; exact h2.1))
      replace hb2 := hb2.chg kq_17 (by first | (intro x h1 h2; have h3 : _ = _ := h2; subst h3; assumption) | (intro x h1 h2; have h3 : _ = _ := h2; exfalso; omega) | (intro b h1 h2 h3; have h4 : _ = _ := h3; (try dsimp only at h2); exfalso; omega) | (intro h1; have h2 : _ = _ := h1; exfalso; omega) | (intros; exfalso; (try dsimp only at *); omega) | (intro h1; exfalso; have h4 := h1.2; (try dsimp only at *); omega) | (intro x h1 h2; exact h2.1))
      replace h := h.chg kq_17 (by first | (intro x h1 h2; have h3 : _ = _ := h2; subst h3; assumption) | (intro x h1 h2; have h3 : _ = _ := h2; exfalso; omega) | (intro b h1 h2 h3; have h4 : _ = _ := h3; (try dsimp only at h2); exfalso; omega) | (intro h1; have h2 : _ = _ := h1; exfalso; omega) | (intros; exfalso; (try dsimp only at *); omega) | (intro h1; exfalso; have h4 := h1.2; (try dsimp only at *); omega) | (intro x h1 h2; exact h2.1))
      replace hw := hw.chg kq_17 (by first | (intro x h1 h2; have h3 : _ = _ := h2; subst h3; assumption) | (intro x h1 h2; have h3 : _ = _ := h2; exfalso; omega) | (intro b h1 h2 h3; have h4 : _ = _ := h3; (try dsimp only at h2); exfalso; omega) | (intro h1; have h2 : _ = _ := h1; exfalso; omega) | (intros; exfalso; (try dsimp only at *); omega) | (intro h1; exfalso; have h4 := h1.2; (try dsimp only at *); omega) | (intro x h1 h2; exact h2.1))
      refine WL.indexC (e := esn) h.snaps Try.underlying31 Try.sizeOf65 rfl rfl ⟨hx, rfl⟩ rfl ?_
      refine WL.nil ?_
      exact WX.one ⟨rfl, by first | exact Chg.refl _ _ | assumption⟩
    apply DQT.step (E' := [(28, _)])
    case ho => rfl
    case hs => exact ⟨rfl, trivial⟩
    case hk => rfl
    case h1 =>
      intro wq_18 kq_18
      refine WL.fieldAddr (fld_65_1) rfl rfl (?_)
      refine WL.nil ?_
      exact WX.one ⟨rfl, by first | exact Chg.refl _ _ | assumption⟩
    apply DQT.step (E' := [(29, _)])
    case ho => rfl
    case hs => exact ⟨rfl, trivial⟩
    case hk => rfl
    case h1 =>
      intro wq_19 kq_19
      have zs_kq_19 := kq_19.size
      replace hb1 := hb1.chg kq_19 (by first | (intro x h1 h2; have h3 : _ = _ := h2; subst h3; assumption) | (intro x h1 h2; have h3 : _ = _ := h2; exfalso; omega) | (intro b h1 h2 h3; have h4 : _ = _ := h3; (try dsimp only at h2); exfalso; omega) | (intro h1; have h2 : _ = _ := h1; exfalso; omega) | (intros; exfalso; (try dsimp only at *); omega) | (intro h1; exfalso; have h4 := h1.2; (try dsimp only at *); omega) | (intro x h1 h2; exact h2.1))
      replace hb2 := hb2.chg kq_19 (by first | (intro x h1 h2; have h3 : _ = _ := h2; subst h3; assumption) | (intro x h1 h2; have h3 : _ = _ := h2; exfalso; omega) | (intro b h1 h2 h3; have h4 : _ = _ := h3; (try dsimp only at h2); exfalso; omega) | (intro h1; have h2 : _ = _ := h1; exfalso; omega) | (intros; exfalso; (try dsimp only at *); omega) | (intro h1; exfalso; have h4 := h1.2; (try dsimp only at *); omega) | (intro x h1 h2; exact h2.1))
      replace h := h.chg kq_19 (by first | (intro x h1 h2; have h3 : _ = _ := h2; subst h3; assumption) | (intro x h1 h2; have h3 : _ = _ := h2; exfalso; omega) | (intro b h1 h2 h3; have h4 : _ = _ := h3; (try dsimp only at h2); exfalso; omega) | (intro h1; have h2 : _ = _ := h1; exfalso; omega) | (intros; exfalso; (try dsimp only at *); omega) | (intro h1; exfalso; have h4 := h1.2; (try dsimp only at *); omega) | (intro x h1 h2; exact h2.1))
      replace hw := hw.chg kq_19 (by first | (intro x h1 h2; have h3 : _ = _ := h2; subst h3; assumption) | (intro x h1 h2; have h3 : _ = _ := h2; exfalso; omega) | (intro b h1 h2 h3; have h4 : _ = _ := h3; (try dsimp only at h2); exfalso; omega) | (intro h1; have h2 : _ = _ := h1; exfalso; omega) | (intros; exfalso; (try dsimp only at *); omega) | (intro h1; exfalso; have h4 := h1.2; (try dsimp only at *); omega) | (intro x h1 h2; exact h2.1))
      refine WL.load Try.isAgg23 rfl (h.snaps.cellsAt hx 1 _ rfl) rfl ?_
      refine WL.nil ?_
      exact WX.one ⟨rfl, by first | exact Chg.refl _ _ | assumption⟩
    apply DQT.step (E' := [(24, _), (30, _)])
    case ho => rfl
    case hs => exact ⟨rfl, rfl, trivial⟩
    case hk => rfl
    case h1 =>
      intro wq_20 kq_20
      refine WL.bld rfl (bld_72_0_1 _ _ _ _) rfl (?_)
      refine WL.nil ?_
      exact WX.one ⟨rfl, by first | exact Chg.refl _ _ | assumption⟩
    apply DQT.step (E' := [(3, _)])
    case ho => rfl
    case hs => exact ⟨rfl, trivial⟩
    case hk => rfl
    case h1 =>
      intro wq_21 kq_21
      refine WL.fieldAddr (fld_25_1) rfl rfl (?_)
      refine WL.nil ?_
      exact WX.one ⟨rfl, by first | exact Chg.refl _ _ | assumption⟩
    refine DQT.done (fun hd_6 => ?_)
    refine ⟨?_, ?_, trivial, trivial, trivial⟩
    refine DT.step [(17, _)] rfl ⟨rfl, trivial⟩ rfl (fun wq_22 kq_22 => ?_)
    have zs_kq_22 := kq_22.size
    replace hb1 := hb1.pure kq_22
    replace hb2 := hb2.pure kq_22
    replace hb3 := hb3.pure kq_22
    replace h := h.pure kq_22
    replace hw := hw.pure kq_22
    replace hW := hW.pure kq_22
    replace hd_6 := hd_6.pure kq_22
    refine WL.loadB Try.isAgg22 hb3 rfl rfl rfl (?_)
    refine WL.nil (WX.one ⟨hd_6, ?_⟩)
    refine ⟨?_, trivial, trivial, trivial⟩
    refine DT.step [(31, _)] rfl ⟨rfl, trivial⟩ rfl (fun wq_23 kq_23 => ?_)
    have zs_kq_23 := kq_23.size
    replace hb1 := hb1.pure kq_23
    replace hb2 := hb2.pure kq_23
    replace hb3 := hb3.pure kq_23
    replace h := h.pure kq_23
    replace hw := hw.pure kq_23
    replace hW := hW.pure kq_23
    replace hd_6 := hd_6.pure kq_23
    refine WL.build (e := esn) [x] Try.underlying22 Try.sizeOf72 Try.zeroValue72 rfl rfl rfl (by first | (simp [Value.cells]; done) | (simp [Value.cells] <;> rfl) | (simp [Value.cells, eb, ei, es, ebool, e32, e64]; done)) (by decide) rfl ?_
    intro a_hq w_hq hq l_hq z_hq k_hq
    have zs_k_hq := k_hq.size
    replace hb1 := hb1.pure k_hq
    replace hb2 := hb2.pure k_hq
    replace hb3 := hb3.pure k_hq
    replace h := h.pure k_hq
    replace hw := hw.pure k_hq
    replace hW := hW.pure k_hq
    replace hd_6 := hd_6.pure k_hq
    refine WL.nil (WX.one ⟨hd_6, ?_⟩)
    refine ⟨?_, trivial, trivial⟩
    refine DT.step [(18, _), (32, _)] rfl ⟨rfl, rfl, trivial⟩ rfl (fun wq_24 kq_24 => ?_)
    have zs_kq_24 := kq_24.size
    replace hb1 := hb1.pure kq_24
    replace hb2 := hb2.pure kq_24
    replace hb3 := hb3.pure kq_24
    replace h := h.pure kq_24
    replace hw := hw.pure kq_24
    replace hW := hW.pure kq_24
    replace hd_6 := hd_6.pure kq_24
    replace hq := hq.pure kq_24
    refine WL.append (e := esn) info_72 rfl Try.underlying22 rfl rfl hW (hq.rsl.src Try.underlying22) (by show ((sn.take i).length + 1) * 32 ≤ _ ∧ (sn.take i).length + 1 ≤ _; constructor <;> omega) (fun x hx => by omega) rfl ?_
    intro as9 cs9 w8 hR8 gg8 n8
    have gk8 := gg8.chg.mono (fun x _ hx => hx.2)
    have zs_gk8 := gk8.size
    replace hb1 := hb1.chg gk8 (by first | (intro x h1 h2; have h3 : _ = _ := h2; subst h3; assumption) | (intro x h1 h2; have h3 : _ = _ := h2; exfalso; omega) | (intro b h1 h2 h3; have h4 : _ = _ := h3; (try dsimp only at h2); exfalso; omega) | (intro h1; have h2 : _ = _ := h1; exfalso; omega) | (intros; exfalso; (try dsimp only at *); omega) | (intro h1; exfalso; have h4 := h1.2; (try dsimp only at *); omega) | (intro x h1 h2; exact h2.1))
    replace hb2 := hb2.chg gk8 (by first | (intro x h1 h2; have h3 : _ = _ := h2; subst h3; assumption) | (intro x h1 h2; have h3 : _ = _ := h2; exfalso; omega) | (intro b h1 h2 h3; have h4 : _ = _ := h3; (try dsimp only at h2); exfalso; omega) | (intro h1; have h2 : _ = _ := h1; exfalso; omega) | (intros; exfalso; (try dsimp only at *); omega) | (intro h1; exfalso; have h4 := h1.2; (try dsimp only at *); omega) | (intro x h1 h2; exact h2.1))
    replace hb3 := hb3.chg gk8 (by first | (intro x h1 h2; have h3 : _ = _ := h2; subst h3; assumption) | (intro x h1 h2; have h3 : _ = _ := h2; exfalso; omega) | (intro b h1 h2 h3; have h4 : _ = _ := h3; (try dsimp only at h2); exfalso; omega) | (intro h1; have h2 : _ = _ := h1; exfalso; omega) | (intros; exfalso; (try dsimp only at *); omega) | (intro h1; exfalso; have h4 := h1.2; (try dsimp only at *); omega) | (intro x h1 h2; exact h2.1))
    replace h := h.chg gk8 (by first | (intro x h1 h2; have h3 : _ = _ := h2; subst h3; assumption) | (intro x h1 h2; have h3 : _ = _ := h2; exfalso; omega) | (intro b h1 h2 h3; have h4 : _ = _ := h3; (try dsimp only at h2); exfalso; omega) | (intro h1; have h2 : _ = _ := h1; exfalso; omega) | (intros; exfalso; (try dsimp only at *); omega) | (intro h1; exfalso; have h4 := h1.2; (try dsimp only at *); omega) | (intro x h1 h2; exact h2.1))
    replace hw := hw.chg gk8 (by first | (intro x h1 h2; have h3 : _ = _ := h2; subst h3; assumption) | (intro x h1 h2; have h3 : _ = _ := h2; exfalso; omega) | (intro b h1 h2 h3; have h4 : _ = _ := h3; (try dsimp only at h2); exfalso; omega) | (intro h1; have h2 : _ = _ := h1; exfalso; omega) | (intros; exfalso; (try dsimp only at *); omega) | (intro h1; exfalso; have h4 := h1.2; (try dsimp only at *); omega) | (intro x h1 h2; exact h2.1))
    replace hd_6 := hd_6.chg gk8 (by first | (intro x h1 h2; have h3 : _ = _ := h2; subst h3; assumption) | (intro x h1 h2; have h3 : _ = _ := h2; exfalso; omega) | (intro b h1 h2 h3; have h4 : _ = _ := h3; (try dsimp only at h2); exfalso; omega) | (intro h1; have h2 : _ = _ := h1; exfalso; omega) | (intros; exfalso; (try dsimp only at *); omega) | (intro h1; exfalso; have h4 := h1.2; (try dsimp only at *); omega) | (intro x h1 h2; exact h2.1))
    refine WL.nil (WX.one ⟨hd_6, ?_⟩)
    refine ⟨?_, trivial⟩
    refine DT.step [(34, _), (33, _)] rfl ⟨rfl, rfl, trivial⟩ rfl (fun wq_25 kq_25 => ?_)
    have zs_kq_25 := kq_25.size
    replace hb1 := hb1.pure kq_25
    replace hb2 := hb2.pure kq_25
    replace hb3 := hb3.pure kq_25
    replace h := h.pure kq_25
    replace hw := hw.pure kq_25
    replace hd_6 := hd_6.pure kq_25
    replace hR8 := hR8.pure kq_25
    refine WL.store Try.sizeOf22 hb3 rfl rfl rfl rfl ?_
    intro w_26 hs_26 hn_26 k_26
    have zs_k_26 := k_26.size
    replace hb1 := hb1.chg k_26 (by first | (intro x h1 h2; have h3 : _ = _ := h2; subst h3; assumption) | (intro x h1 h2; have h3 : _ = _ := h2; exfalso; omega) | (intro b h1 h2 h3; have h4 : _ = _ := h3; (try dsimp only at h2); exfalso; omega) | (intro h1; have h2 : _ = _ := h1; exfalso; omega) | (intros; exfalso; (try dsimp only at *); omega) | (intro h1; exfalso; have h4 := h1.2; (try dsimp only at *); omega) | (intro x h1 h2; exact h2.1))
    replace hb2 := hb2.chg k_26 (by first | (intro x h1 h2; have h3 : _ = _ := h2; subst h3; assumption) | (intro x h1 h2; have h3 : _ = _ := h2; exfalso; omega) | (intro b h1 h2 h3; have h4 : _ = _ := h3; (try dsimp only at h2); exfalso; omega) | (intro h1; have h2 : _ = _ := h1; exfalso; omega) | (intros; exfalso; (try dsimp only at *); omega) | (intro h1; exfalso; have h4 := h1.2; (try dsimp only at *); omega) | (intro x h1 h2; exact h2.1))
    replace h := h.chg k_26 (by first | (intro x h1 h2; have h3 : _ = _ := h2; subst h3; assumption) | (intro x h1 h2; have h3 : _ = _ := h2; exfalso; omega) | (intro b h1 h2 h3; have h4 : _ = _ := h3; (try dsimp only at h2); exfalso; omega) | (intro h1; have h2 : _ = _ := h1; exfalso; omega) | (intros; exfalso; (try dsimp only at *); omega) | (intro h1; exfalso; have h4 := h1.2; (try dsimp only at *); omega) | (intro x h1 h2; exact h2.1))
    replace hw := hw.chg k_26 (by first | (intro x h1 h2; have h3 : _ = _ := h2; subst h3; assumption) | (intro x h1 h2; have h3 : _ = _ := h2; exfalso; omega) | (intro b h1 h2 h3; have h4 : _ = _ := h3; (try dsimp only at h2); exfalso; omega) | (intro h1; have h2 : _ = _ := h1; exfalso; omega) | (intros; exfalso; (try dsimp only at *); omega) | (intro h1; exfalso; have h4 := h1.2; (try dsimp only at *); omega) | (intro x h1 h2; exact h2.1))
    replace hd_6 := hd_6.chg k_26 (by first | (intro x h1 h2; have h3 : _ = _ := h2; subst h3; assumption) | (intro x h1 h2; have h3 : _ = _ := h2; exfalso; omega) | (intro b h1 h2 h3; have h4 : _ = _ := h3; (try dsimp only at h2); exfalso; omega) | (intro h1; have h2 : _ = _ := h1; exfalso; omega) | (intros; exfalso; (try dsimp only at *); omega) | (intro h1; exfalso; have h4 := h1.2; (try dsimp only at *); omega) | (intro x h1 h2; exact h2.1))
    replace hR8 := hR8.chg k_26 (by first | (intro x h1 h2; have h3 : _ = _ := h2; subst h3; assumption) | (intro x h1 h2; have h3 : _ = _ := h2; exfalso; omega) | (intro b h1 h2 h3; have h4 : _ = _ := h3; (try dsimp only at h2); exfalso; omega) | (intro h1; have h2 : _ = _ := h1; exfalso; omega) | (intros; exfalso; (try dsimp only at *); omega) | (intro h1; exfalso; have h4 := h1.2; (try dsimp only at *); omega) | (intro x h1 h2; exact h2.1))
    replace hb3 := hn_26
    refine WL.nil (WX.one0 (v := undef) ⟨hd_6, ?_⟩)
    refine DT.done (fun we_27 ke_27 => ?_) _
    have zs_ke_27 := ke_27.size
    replace hb1 := hb1.pure ke_27
    replace hb2 := hb2.pure ke_27
    replace hb3 := hb3.pure ke_27
    replace h := h.pure ke_27
    replace hw := hw.pure ke_27
    replace hd_6 := hd_6.pure ke_27
    replace hR8 := hR8.pure ke_27
    rotate_left
    refine DT.step [(31, _)] rfl ⟨rfl, trivial⟩ rfl (fun wq_22 kq_22 => ?_)
    have zs_kq_22 := kq_22.size
    replace hb1 := hb1.pure kq_22
    replace hb2 := hb2.pure kq_22
    replace hb3 := hb3.pure kq_22
    replace h := h.pure kq_22
    replace hw := hw.pure kq_22
    replace hW := hW.pure kq_22
    replace hd_6 := hd_6.pure kq_22
    refine WL.build (e := esn) [x] Try.underlying22 Try.sizeOf72 Try.zeroValue72 rfl rfl rfl (by first | (simp [Value.cells]; done) | (simp [Value.cells] <;> rfl) | (simp [Value.cells, eb, ei, es, ebool, e32, e64]; done)) (by decide) rfl ?_
    intro a_hq w_hq hq l_hq z_hq k_hq
    have zs_k_hq := k_hq.size
    replace hb1 := hb1.pure k_hq
    replace hb2 := hb2.pure k_hq
    replace hb3 := hb3.pure k_hq
    replace h := h.pure k_hq
    replace hw := hw.pure k_hq
    replace hW := hW.pure k_hq
    replace hd_6 := hd_6.pure k_hq
    refine WL.nil (WX.one ⟨hd_6, ?_⟩)
    refine ⟨?_, trivial, trivial, trivial⟩
    refine DT.step [(17, _)] rfl ⟨rfl, trivial⟩ rfl (fun wq_23 kq_23 => ?_)
    have zs_kq_23 := kq_23.size
    replace hb1 := hb1.pure kq_23
    replace hb2 := hb2.pure kq_23
    replace hb3 := hb3.pure kq_23
    replace h := h.pure kq_23
    replace hw := hw.pure kq_23
    replace hW := hW.pure kq_23
    replace hd_6 := hd_6.pure kq_23
    replace hq := hq.pure kq_23
    refine WL.loadB Try.isAgg22 hb3 rfl rfl rfl (?_)
    refine WL.nil (WX.one ⟨hd_6, ?_⟩)
    refine ⟨?_, trivial, trivial⟩
    refine DT.step [(18, _), (32, _)] rfl ⟨rfl, rfl, trivial⟩ rfl (fun wq_24 kq_24 => ?_)
    have zs_kq_24 := kq_24.size
    replace hb1 := hb1.pure kq_24
    replace hb2 := hb2.pure kq_24
    replace hb3 := hb3.pure kq_24
    replace h := h.pure kq_24
    replace hw := hw.pure kq_24
    replace hW := hW.pure kq_24
    replace hd_6 := hd_6.pure kq_24
    replace hq := hq.pure kq_24
    refine WL.append (e := esn) info_72 rfl Try.underlying22 rfl rfl hW (hq.rsl.src Try.underlying22) (by show ((sn.take i).length + 1) * 32 ≤ _ ∧ (sn.take i).length + 1 ≤ _; constructor <;> omega) (fun x hx => by omega) rfl ?_
    intro as9 cs9 w8 hR8 gg8 n8
    have gk8 := gg8.chg.mono (fun x _ hx => hx.2)
    have zs_gk8 := gk8.size
    replace hb1 := hb1.chg gk8 (by first | (intro x h1 h2; have h3 : _ = _ := h2; subst h3; assumption) | (intro x h1 h2; have h3 : _ = _ := h2; exfalso; omega) | (intro b h1 h2 h3; have h4 : _ = _ := h3; (try dsimp only at h2); exfalso; omega) | (intro h1; have h2 : _ = _ := h1; exfalso; omega) | (intros; exfalso; (try dsimp only at *); omega) | (intro h1; exfalso; have h4 := h1.2; (try dsimp only at *); omega) | (intro x h1 h2; exact h2.1))
    replace hb2 := hb2.chg gk8 (by first | (intro x h1 h2; have h3 : _ = _ := h2; subst h3; assumption) | (intro x h1 h2; have h3 : _ = _ := h2; exfalso; omega) | (intro b h1 h2 h3; have h4 : _ = _ := h3; (try dsimp only at h2); exfalso; omega) | (intro h1; have h2 : _ = _ := h1; exfalso; omega) | (intros; exfalso; (try dsimp only at *); omega) | (intro h1; exfalso; have h4 := h1.2; (try dsimp only at *); omega) | (intro x h1 h2; exact h2.1))
    replace hb3 := hb3.chg gk8 (by first | (intro x h1 h2; have h3 : _ = _ := h2; subst h3; assumption) | (intro x h1 h2; have h3 : _ = _ := h2; exfalso; omega) | (intro b h1 h2 h3; have h4 : _ = _ := h3; (try dsimp only at h2); exfalso; omega) | (intro h1; have h2 : _ = _ := h1; exfalso; omega) | (intros; exfalso; (try dsimp only at *); omega) | (intro h1; exfalso; have h4 := h1.2; (try dsimp only at *); omega) | (intro x h1 h2; exact h2.1))
    replace h := h.chg gk8 (by first | (intro x h1 h2; have h3 : _ = _ := h2; subst h3; assumption) | (intro x h1 h2; have h3 : _ = _ := h2; exfalso; omega) | (intro b h1 h2 h3; have h4 : _ = _ := h3; (try dsimp only at h2); exfalso; omega) | (intro h1; have h2 : _ = _ := h1; exfalso; omega) | (intros; exfalso; (try dsimp only at *); omega) | (intro h1; exfalso; have h4 := h1.2; (try dsimp only at *); omega) | (intro x h1 h2; exact h2.1))
    replace hw := hw.chg gk8 (by first | (intro x h1 h2; have h3 : _ = _ := h2; subst h3; assumption) | (intro x h1 h2; have h3 : _ = _ := h2; exfalso; omega) | (intro b h1 h2 h3; have h4 : _ = _ := h3; (try dsimp only at h2); exfalso; omega) | (intro h1; have h2 : _ = _ := h1; exfalso; omega) | (intros; exfalso; (try dsimp only at *); omega) | (intro h1; exfalso; have h4 := h1.2; (try dsimp only at *); omega) | (intro x h1 h2; exact h2.1))
    replace hd_6 := hd_6.chg gk8 (by first | (intro x h1 h2; have h3 : _ = _ := h2; subst h3; assumption) | (intro x h1 h2; have h3 : _ = _ := h2; exfalso; omega) | (intro b h1 h2 h3; have h4 : _ = _ := h3; (try dsimp only at h2); exfalso; omega) | (intro h1; have h2 : _ = _ := h1; exfalso; omega) | (intros; exfalso; (try dsimp only at *); omega) | (intro h1; exfalso; have h4 := h1.2; (try dsimp only at *); omega) | (intro x h1 h2; exact h2.1))
    refine WL.nil (WX.one ⟨hd_6, ?_⟩)
    refine ⟨?_, trivial⟩
    refine DT.step [(34, _), (33, _)] rfl ⟨rfl, rfl, trivial⟩ rfl (fun wq_25 kq_25 => ?_)
    have zs_kq_25 := kq_25.size
    replace hb1 := hb1.pure kq_25
    replace hb2 := hb2.pure kq_25
    replace hb3 := hb3.pure kq_25
    replace h := h.pure kq_25
    replace hw := hw.pure kq_25
    replace hd_6 := hd_6.pure kq_25
    replace hR8 := hR8.pure kq_25
    refine WL.store Try.sizeOf22 hb3 rfl rfl rfl rfl ?_
    intro w_26 hs_26 hn_26 k_26
    have zs_k_26 := k_26.size
    replace hb1 := hb1.chg k_26 (by first | (intro x h1 h2; have h3 : _ = _ := h2; subst h3; assumption) | (intro x h1 h2; have h3 : _ = _ := h2; exfalso; omega) | (intro b h1 h2 h3; have h4 : _ = _ := h3; (try dsimp only at h2); exfalso; omega) | (intro h1; have h2 : _ = _ := h1; exfalso; omega) | (intros; exfalso; (try dsimp only at *); omega) | (intro h1; exfalso; have h4 := h1.2; (try dsimp only at *); omega) | (intro x h1 h2; exact h2.1))
    replace hb2 := hb2.chg k_26 (by first | (intro x h1 h2; have h3 : _ = _ := h2; subst h3; assumption) | (intro x h1 h2; have h3 : _ = _ := h2; exfalso; omega) | (intro b h1 h2 h3; have h4 : _ = _ := h3; (try dsimp only at h2); exfalso; omega) | (intro h1; have h2 : _ = _ := h1; exfalso; omega) | (intros; exfalso; (try dsimp only at *); omega) | (intro h1; exfalso; have h4 := h1.2; (try dsimp only at *); omega) | (intro x h1 h2; exact h2.1))
    replace h := h.chg k_26 (by first | (intro x h1 h2; have h3 : _ = _ := h2; subst h3; assumption) | (intro x h1 h2; have h3 : _ = _ := h2; exfalso; omega) | (intro b h1 h2 h3; have h4 : _ = _ := h3; (try dsimp only at h2); exfalso; omega) | (intro h1; have h2 : _ = _ := h1; exfalso; omega) | (intros; exfalso; (try dsimp only at *); omega) | (intro h1; exfalso; have h4 := h1.2; (try dsimp only at *); omega) | (intro x h1 h2; exact h2.1))
    replace hw := hw.chg k_26 (by first | (intro x h1 h2; have h3 : _ = _ := h2; subst h3; assumption) | (intro x h1 h2; have h3 : _ = _ := h2; exfalso; omega) | (intro b h1 h2 h3; have h4 : _ = _ := h3; (try dsimp only at h2); exfalso; omega) | (intro h1; have h2 : _ = _ := h1; exfalso; omega) | (intros; exfalso; (try dsimp only at *); omega) | (intro h1; exfalso; have h4 := h1.2; (try dsimp only at *); omega) | (intro x h1 h2; exact h2.1))
    replace hd_6 := hd_6.chg k_26 (by first | (intro x h1 h2; have h3 : _ = _ := h2; subst h3; assumption) | (intro x h1 h2; have h3 : _ = _ := h2; exfalso; omega) | (intro b h1 h2 h3; have h4 : _ = _ := h3; (try dsimp only at h2); exfalso; omega) | (intro h1; have h2 : _ = _ := h1; exfalso; omega) | (intros; exfalso; (try dsimp only at *); omega) | (intro h1; exfalso; have h4 := h1.2; (try dsimp only at *); omega) | (intro x h1 h2; exact h2.1))
    replace hR8 := hR8.chg k_26 (by first | (intro x h1 h2; have h3 : _ = _ := h2; subst h3; assumption) | (intro x h1 h2; have h3 : _ = _ := h2; exfalso; omega) | (intro b h1 h2 h3; have h4 : _ = _ := h3; (try dsimp only at h2); exfalso; omega) | (intro h1; have h2 : _ = _ := h1; exfalso; omega) | (intros; exfalso; (try dsimp only at *); omega) | (intro h1; exfalso; have h4 := h1.2; (try dsimp only at *); omega) | (intro x h1 h2; exact h2.1))
    replace hb3 := hn_26
    refine WL.nil (WX.one0 (v := undef) ⟨hd_6, ?_⟩)
    refine DT.done (fun we_27 ke_27 => ?_) _
    have zs_ke_27 := ke_27.size
    replace hb1 := hb1.pure ke_27
    replace hb2 := hb2.pure ke_27
    replace hb3 := hb3.pure ke_27
    replace h := h.pure ke_27
    replace hw := hw.pure ke_27
    replace hd_6 := hd_6.pure ke_27
    replace hR8 := hR8.pure ke_27
    rotate_left
    all_goals
      refine WX.block_normal (WX.then_normal (WC.region (WL.move rfl rfl (WL.add64 rfl rfl (by first | omega | (constructor <;> omega)) rfl (WL.assign rfl rfl (WL.nil (?_)))))))
      have htk : sn.take (i + 1) = sn.take i ++ [x] := by rw [List.take_add_one, hx]; rfl
      exact WX.loop_next (i + 1, (as9, cs9)) ⟨rfl, rfl, rfl, rfl, trivial⟩ ⟨by show i + 1 ≤ _; omega, hb1, hb2, by show Blk _ _ _ [vi ba, .slice as9 (sn.take (i + 1)).length cs9, .slice da de.length dc]; rw [htk]; exact hb3, h, hw, by show Row _ _ _ esn as9 cs9 (sn.take (i + 1)); rw [htk]; exact hR8⟩ (by show sn.length - (i + 1) < sn.length - i; omega)
  ·
    refine WL.nil (WX.then_normal (WC.cond_false rfl (WC.exit (WX.then_exit (WX.then_exit (WX.block_here (WX.then_normal (?_))))))))
    refine WC.seq (WC.region (WL.loadsB Try.isAgg25 Try.sizeOf25 hb3 rfl (by first | (simp; done) | (simp; omega) | rfl) rfl (?_)))
    refine WL.stores Try.sizeOf25 hb2 rfl rfl (by first | (simp; done) | (simp; omega) | rfl) (by first | exact Enc.one _ _ | (intro u hu; obtain ⟨x, _, rfl⟩ := List.mem_map.1 hu; rfl) | (simp [Value.oneCell']; done) | (simp [Value.oneCell', Value.cells]; done)) (by first | (simp; done) | (simp; omega) | (simp [Value.cells]; done) | (simp [Value.cells]; omega) | exact Nat.le_of_ble_eq_true rfl) rfl ?_
    intro w_5 hs_5 hn_5 k_5
    have zs_k_5 := k_5.size
    replace hb1 := hb1.chg k_5 (by first | (intro x h1 h2; have h3 : _ = _ := h2; subst h3; assumption) | (intro x h1 h2; have h3 : _ = _ := h2; exfalso; omega) | (intro b h1 h2 h3; have h4 : _ = _ := h3; (try dsimp only at h2); exfalso; omega) | (intro h1; have h2 : _ = _ := h1; exfalso; omega) | (intros; exfalso; (try dsimp only at *); omega) | (intro h1; exfalso; have h4 := h1.2; (try dsimp only at *); omega) | (intro x h1 h2; exact h2.1))
    replace hb3 := hb3.chg k_5 (by first | (intro x h1 h2; have h3 : _ = _ := h2; subst h3; assumption) | (intro x h1 h2; have h3 : _ = _ := h2; exfalso; omega) | (intro b h1 h2 h3; have h4 : _ = _ := h3; (try dsimp only at h2); exfalso; omega) | (intro h1; have h2 : _ = _ := h1; exfalso; omega) | (intros; exfalso; (try dsimp only at *); omega) | (intro h1; exfalso; have h4 := h1.2; (try dsimp only at *); omega) | (intro x h1 h2; exact h2.1))
    replace h := h.chg k_5 (by first | (intro x h1 h2; have h3 : _ = _ := h2; subst h3; assumption) | (intro x h1 h2; have h3 : _ = _ := h2; exfalso; omega) | (intro b h1 h2 h3; have h4 : _ = _ := h3; (try dsimp only at h2); exfalso; omega) | (intro h1; have h2 : _ = _ := h1; exfalso; omega) | (intros; exfalso; (try dsimp only at *); omega) | (intro h1; exfalso; have h4 := h1.2; (try dsimp only at *); omega) | (intro x h1 h2; exact h2.1))
    replace hw := hw.chg k_5 (by first | (intro x h1 h2; have h3 : _ = _ := h2; subst h3; assumption) | (intro x h1 h2; have h3 : _ = _ := h2; exfalso; omega) | (intro b h1 h2 h3; have h4 : _ = _ := h3; (try dsimp only at h2); exfalso; omega) | (intro h1; have h2 : _ = _ := h1; exfalso; omega) | (intros; exfalso; (try dsimp only at *); omega) | (intro h1; exfalso; have h4 := h1.2; (try dsimp only at *); omega) | (intro x h1 h2; exact h2.1))
    replace hW := hW.chg k_5 (by first | (intro x h1 h2; have h3 : _ = _ := h2; subst h3; assumption) | (intro x h1 h2; have h3 : _ = _ := h2; exfalso; omega) | (intro b h1 h2 h3; have h4 : _ = _ := h3; (try dsimp only at h2); exfalso; omega) | (intro h1; have h2 : _ = _ := h1; exfalso; omega) | (intros; exfalso; (try dsimp only at *); omega) | (intro h1; exfalso; have h4 := h1.2; (try dsimp only at *); omega) | (intro x h1 h2; exact h2.1))
    replace hb2 := hn_5
    refine WL.nil (WX.then_normal (WC.ret (?_)))
    refine WX.ret1c (.inl rfl) Try.results15 Try.isAgg25 Try.sizeOf25 hb2 rfl (by first | (simp; done) | (simp; omega) | rfl) ?_
    have hil : i = sn.length := by omega
    subst hil
    rw [List.take_length] at hW hb3 ⊢
    exact ⟨_, rfl, ⟨⟨ba, sa2, sc2, sn, da, dc, de⟩, rfl, ⟨hW.rsl.mono (fun _ _ => trivial), h.dead.mono (fun _ _ => trivial), fun x hx => (h.inner x hx).mono (fun _ _ => trivial)⟩, rfl⟩, hw⟩
end Go.Proofs.Ytgmkoieemmglpaa
