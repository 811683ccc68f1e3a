import Derived.Test.YtgmkoieemmglpaaDn
namespace Go.Proofs.Ytgmkoieemmglpaa
open Go.RowKit Go.HL

/-! the line's plays and the document's agree -/
set_option maxHeartbeats 4000000 in
theorem DeadPlays_calls {S : Nat → Prop} {w : World} {l : LnV} (h : LS S w l) (hs : Sm 0 l) (p : PtV) (t : Int) : Calls Try.prog 3 [lval l, .agg (ept.f p).toArray, vi t].toArray w (Ret fun v w' => v = .bool true ∧ Chg Nob w w') := by
  have hw := Chg.refl Nob w
  have hsn := hs.snaps
  have hsd := hs.dead
  have hsa := hs.sma
  have hs6 : Sm 60 l := hs.up (by decide)
  have hs2 : Sm 20 l := hs.up (by decide)
  have hs1 : Sm 10 l := hs.up (by decide)
  replace h := h.old
  refine Calls.of_WC Try.func3 rfl Try.ntmps3 (by simp) ?_
  refine WC.seq (WC.region (?_))
  refine WL.box rfl rfl ?_
  intro g_1 w_1 hge_1 hlt_1 hb_1 k_1
  have zs_k_1 := k_1.size
  replace h := h.pure k_1
  replace hw := hw.pure k_1
  refine WL.box rfl rfl ?_
  intro g_2 w_2 hge_2 hlt_2 hb_2 k_2
  have zs_k_2 := k_2.size
  replace h := h.pure k_2
  replace hw := hw.pure k_2
  replace hb_1 := hb_1.pure k_2
  refine WL.assign rfl rfl (WL.nil (WX.then_normal (WC.seq (WC.seq (?_)))))
  have hb1 : Blk _ g_1 25 (lcells l) := hb_1
  have hb2 : Blk _ g_2 27 (ept.f p) := hb_2
  refine WC.drawP (Nob) [0, 1, 2, 3, 7] [(4, []), (5, [6]), (8, [9, 10])] mixed rfl rfl (fun wd_3 kd_3 zd_3 => ?_)
  have zs_kd_3 := kd_3.size
  replace h := h.pure kd_3
  replace hw := hw.pure kd_3
  replace hb1 := hb1.pure kd_3
  replace hb2 := hb2.pure kd_3
  apply DPQ.step (E' := [])
  case ho => rfl
  case hs => exact trivial
  case hk => rfl
  case h1 =>
    intro wq_4 kq_4
    have zs_kq_4 := kq_4.size
    replace h := h.pure kq_4
    replace hw := hw.pure kq_4
    replace hb1 := hb1.pure kq_4
    replace hb2 := hb2.pure kq_4
    refine WL.call eg_8 rfl rfl (known_calls _) ?_
    rintro v w1 ⟨rfl, k1⟩
    have zs_k1 := k1.size
    replace h := h.pure k1
    replace hw := hw.pure k1
    replace hb1 := hb1.pure k1
    replace hb2 := hb2.pure k1
    refine WL.nil ?_
    exact WX.one ⟨rfl, by first | exact Chg.refl _ _ | assumption⟩
  apply DPQ.step (E' := [(13, _)])
  case ho => rfl
  case hs => exact ⟨rfl, trivial⟩
  case hk => rfl
  case h1 =>
    intro wq_5 kq_5
    refine WL.not rfl rfl (?_)
    refine WL.nil ?_
    exact WX.one ⟨rfl, by first | exact Chg.refl _ _ | assumption⟩
  apply DPQ.step (E' := [(14, _)])
  case ho => rfl
  case hs => exact ⟨rfl, trivial⟩
  case hk => rfl
  case h1 =>
    intro wq_6 kq_6
    refine WL.move rfl rfl (?_)
    refine WL.nil ?_
    exact WX.one ⟨rfl, by first | exact Chg.refl _ _ | assumption⟩
  apply DPQ.step (E' := [(3, _), (15, _)])
  case ho => rfl
  case hs => exact ⟨rfl, rfl, trivial⟩
  case hk => rfl
  case h1 =>
    intro wq_7 kq_7
    have zs_kq_7 := kq_7.size
    replace h := h.pure kq_7
    replace hw := hw.pure kq_7
    replace hb1 := hb1.pure kq_7
    replace hb2 := hb2.pure kq_7
    refine WL.want rfl rfl rfl (WL.loadsB Try.isAgg25 Try.sizeOf25 hb1 rfl (by first | (simp; done) | (simp; omega) | rfl) rfl (?_))
    refine WL.nil ?_
    exact WX.one ⟨rfl, by first | exact Chg.refl _ _ | assumption⟩
  apply DPQ.step (E' := [(3, _), (15, _)])
  case ho => rfl
  case hs => exact ⟨rfl, rfl, trivial⟩
  case hk => rfl
  case h1 =>
    intro wq_8 kq_8
    have zs_kq_8 := kq_8.size
    replace h := h.pure kq_8
    replace hw := hw.pure kq_8
    replace hb1 := hb1.pure kq_8
    replace hb2 := hb2.pure kq_8
    refine WL.want rfl rfl rfl (WL.loadsB Try.isAgg25 Try.sizeOf25 hb1 rfl (by first | (simp; done) | (simp; omega) | rfl) rfl (?_))
    refine WL.nil ?_
    exact WX.one ⟨rfl, by first | exact Chg.refl _ _ | assumption⟩
  refine DPQ.done ?_
  refine DPR.step [(16, _), (15, _)] rfl ⟨rfl, rfl, trivial⟩ rfl (fun wq_9 kq_9 => ?_)
  have zs_kq_9 := kq_9.size
  replace h := h.pure kq_9
  replace hw := hw.pure kq_9
  replace hb1 := hb1.pure kq_9
  replace hb2 := hb2.pure kq_9
  have hd_9 := Chg.refl (Nob) wq_9
  refine WL.want rfl rfl rfl (?_)
  refine WL.call eg_10 rfl rfl (of_calls h hs2) ?_
  rintro v w1 ⟨⟨l1, rfl, hO, ha⟩, k1⟩
  have zs_k1 := k1.size
  replace h := h.pure k1
  replace hw := hw.pure k1
  replace hb1 := hb1.pure k1
  replace hb2 := hb2.pure k1
  replace hd_9 := hd_9.pure k1
  have hL := hO.ls.old
  refine WL.nil ?_
  refine WX.one ⟨hd_9, ?_⟩
  refine DPQ.done ?_
  refine DPR.step [(17, _), (15, _)] rfl ⟨rfl, rfl, trivial⟩ rfl (fun wq_10 kq_10 => ?_)
  have zs_kq_10 := kq_10.size
  replace h := h.pure kq_10
  replace hw := hw.pure kq_10
  replace hb1 := hb1.pure kq_10
  replace hb2 := hb2.pure kq_10
  replace hL := hL.pure kq_10
  have hd_10 := Chg.refl (Nob) wq_10
  refine WL.want rfl rfl rfl (?_)
  refine WL.call eg_9 rfl rfl (Check_calls hL ((ha ▸ hs6.sma : SmA 60 l1.abs).sm)) ?_
  rintro v w2 ⟨⟨e, rfl, he⟩, k2⟩
  have zs_k2 := k2.size
  replace h := h.pure k2
  replace hw := hw.pure k2
  replace hb1 := hb1.pure k2
  replace hb2 := hb2.pure k2
  replace hL := hL.pure k2
  replace hd_10 := hd_10.pure k2
  rw [ha] at he
  refine WL.nil ?_
  refine WX.one ⟨hd_10, ?_⟩
  apply DPQ.step (E' := [(18, _), (15, _)])
  case ho => rfl
  case hs => exact ⟨rfl, rfl, trivial⟩
  case hk => rfl
  case h1 =>
    intro wq_11 kq_11
    refine WL.want rfl rfl rfl (WL.eql rfl rfl rfl (?_))
    refine WL.nil ?_
    exact WX.one ⟨rfl, by first | exact Chg.refl _ _ | assumption⟩
  refine DPQ.done ?_
  refine DPR.step [(20, _), (15, _)] rfl ⟨rfl, rfl, trivial⟩ rfl (fun wq_12 kq_12 => ?_)
  have zs_kq_12 := kq_12.size
  replace h := h.pure kq_12
  replace hw := hw.pure kq_12
  replace hb1 := hb1.pure kq_12
  replace hb2 := hb2.pure kq_12
  replace hL := hL.pure kq_12
  have hd_12 := Chg.refl (Nob) wq_12
  refine WL.want rfl rfl rfl (?_)
  refine WL.call eg_11 rfl rfl (right_calls h hs6) ?_
  rintro v w3 ⟨⟨b, rfl, hb⟩, k3⟩
  have zs_k3 := k3.size
  replace h := h.pure k3
  replace hw := hw.pure k3
  replace hb1 := hb1.pure k3
  replace hb2 := hb2.pure k3
  replace hL := hL.pure k3
  replace hd_12 := hd_12.pure k3
  have heb : decide (e = 0) = b := by
    rcases he with ⟨rfl, hR⟩ | ⟨rfl, hR⟩
    ·
      rw [hb.2 hR]; rfl
    ·
      cases b with
      | false => rfl
      | true => exact absurd (hb.1 rfl) hR
  refine WL.nil ?_
  refine WX.one ⟨hd_12, ?_⟩
  apply DPQ.step (E' := [(19, _), (21, _), (15, _)])
  case ho => rfl
  case hs => exact ⟨rfl, rfl, rfl, trivial⟩
  case hk => rfl
  case h1 =>
    intro wq_13 kq_13
    refine WL.want rfl rfl rfl (?_)
    refine WL.bneqF Try.underlying4 rfl rfl heb rfl ?_
    refine WL.nil ?_
    exact WX.one ⟨rfl, by first | exact Chg.refl _ _ | assumption⟩
  apply DPQ.step (E' := [(15, _), (22, _)])
  case ho => rfl
  case hs => exact ⟨rfl, rfl, trivial⟩
  case hk => rfl
  case h1 =>
    intro wq_14 kq_14
    refine WL.pickF rfl rfl rfl (?_)
    refine WL.nil ?_
    exact WX.one ⟨rfl, by first | exact Chg.refl _ _ | assumption⟩
  refine DPQ.done ?_
  refine DPR.done (fun we_15 ke_15 => ?_)
  have zs_ke_15 := ke_15.size
  replace h := h.pure ke_15
  replace hw := hw.pure ke_15
  replace hb1 := hb1.pure ke_15
  replace hb2 := hb2.pure ke_15
  replace hL := hL.pure ke_15
  refine WX.then_normal (WC.cond_false rfl (WC.skip (WX.then_normal (WC.seq (WC.region (WL.loadsB Try.isAgg25 Try.sizeOf25 hb1 rfl (by first | (simp; done) | (simp; omega) | rfl) rfl (WL.loadsB Try.isAgg27 Try.sizeOf27 hb2 rfl (by first | (simp; done) | (simp; omega) | rfl) rfl (?_))))))))
  refine WL.call eg_12 rfl rfl (dockill_calls h hs1 p) ?_
  rintro v w4 ⟨⟨l2, b2, e2, rfl, hR2, hO2⟩, k4⟩
  have zs_k4 := k4.size
  replace h := h.pure k4
  replace hw := hw.pure k4
  replace hb1 := hb1.pure k4
  replace hb2 := hb2.pure k4
  replace hL := hL.pure k4
  replace hO2 := hO2.lt
  refine WL.move rfl rfl (WL.extract rfl rfl rfl (WL.extract rfl rfl rfl (WL.extract rfl rfl rfl (?_))))
  refine WL.alloc Try.zeroValue25 rfl ?_
  intro g_3 ws3 hge3 hlt3 hb_3 ks3
  have zs_ks3 := ks3.size
  replace h := h.pure ks3
  replace hw := hw.pure ks3
  replace hb1 := hb1.pure ks3
  replace hb2 := hb2.pure ks3
  replace hL := hL.pure ks3
  replace hO2 := hO2.pure ks3
  refine WL.stores Try.sizeOf25 hb_3 rfl rfl (by first | (simp; done) | (simp; omega) | rfl) (by first | exact Enc.one _ _ | (intro u hu; obtain ⟨x, _, rfl⟩ := List.mem_map.1 hu; rfl) | (simp [Value.oneCell']; done) | (simp [Value.oneCell', Value.cells]; done)) (by first | (simp; done) | (simp; omega) | (simp [Value.cells]; done) | (simp [Value.cells]; omega) | exact Nat.le_of_ble_eq_true rfl) rfl ?_
  intro w_16 hs_16 hn_16 k_16
  have zs_k_16 := k_16.size
  replace h := h.chg k_16 (by first | (intro x h1 h2; exact h2) | (intro x h1 h2; have h3 : _ = _ := h2; exfalso; omega) | (intro b h1 h2 h3; have h4 : _ = _ := h3; (try dsimp only at h2); exfalso; omega) | (intro h1; have h2 : _ = _ := h1; exfalso; omega))
  replace hw := hw.chg k_16 (by first | (intro x h1 h2; exact h2) | (intro x h1 h2; have h3 : _ = _ := h2; exfalso; omega) | (intro b h1 h2 h3; have h4 : _ = _ := h3; (try dsimp only at h2); exfalso; omega) | (intro h1; have h2 : _ = _ := h1; exfalso; omega))
  replace hb1 := hb1.chg k_16 (by first | (intro x h1 h2; exact h2) | (intro x h1 h2; have h3 : _ = _ := h2; exfalso; omega) | (intro b h1 h2 h3; have h4 : _ = _ := h3; (try dsimp only at h2); exfalso; omega) | (intro h1; have h2 : _ = _ := h1; exfalso; omega))
  replace hb2 := hb2.chg k_16 (by first | (intro x h1 h2; exact h2) | (intro x h1 h2; have h3 : _ = _ := h2; exfalso; omega) | (intro b h1 h2 h3; have h4 : _ = _ := h3; (try dsimp only at h2); exfalso; omega) | (intro h1; have h2 : _ = _ := h1; exfalso; omega))
  replace hL := hL.chg k_16 (by first | (intro x h1 h2; exact h2) | (intro x h1 h2; have h3 : _ = _ := h2; exfalso; omega) | (intro b h1 h2 h3; have h4 : _ = _ := h3; (try dsimp only at h2); exfalso; omega) | (intro h1; have h2 : _ = _ := h1; exfalso; omega))
  replace hO2 := hO2.chg k_16 (by first | (intro x h1 h2; exact h2) | (intro x h1 h2; have h3 : _ = _ := h2; exfalso; omega) | (intro b h1 h2 h3; have h4 : _ = _ := h3; (try dsimp only at h2); exfalso; omega) | (intro h1; have h2 : _ = _ := h1; exfalso; omega))
  replace hb_3 := hn_16
  refine WL.assign rfl rfl (WL.assign rfl rfl (WL.nil (WX.then_normal (WC.seq (?_)))))
  have hb3 : Blk _ g_3 25 (lcells l2) := hb_3
  have hL2 := hO2.ls
  have lg1 := hb1.lt
  have lg2 := hb2.lt
  have lg3 := hb3.lt
  refine WC.cutR (σ := LnV × Nat) (fun s => [(2, vi t), (3, gptr g_1), (4, gptr g_2), (7, gptr g_3), (8, .bool b2), (9, vi e2), (10, gptr s.2), (11, .bool b2), (12, vi e2)]) (fun s w' => s.1.abs = l2.abs ∧ (g_3 < s.2 ∧ s.2 < w'.heap.size) ∧ Blk w' s.2 33 (lcells s.1) ∧ LS (fun _ => True) w' s.1 ∧ LS (fun _ => True) w' l2 ∧ Blk w' g_1 25 (lcells l) ∧ Blk w' g_2 27 (ept.f p) ∧ Blk w' g_3 25 (lcells l2) ∧ LS (· < w.heap.size) w' l ∧ Chg Nob w w') ?_ ?_
  rotate_left
  ·
    have hL2s := hL2
    have hb3s := hb3
    have hb1s := hb1
    have hb2s := hb2
    have hss := h
    have hsw := hw
    refine WC.drawM (Nob) [0, 2] [1, 3, 4, 5, 6, 7, 8, 9, 10, 11] mixed rfl rfl (fun wd_17 kd_17 zd_17 => ?_)
    replace h := h.pure kd_17
    replace hb1 := hb1.pure kd_17
    replace hb2 := hb2.pure kd_17
    apply DQT.step (E' := [(3, _)])
    case ho => rfl
    case hs => exact ⟨rfl, trivial⟩
    case hk => rfl
    case h1 =>
      intro wq_19 kq_19
      replace h := h.pure kq_19
      replace hb1 := hb1.pure kq_19
      replace hb2 := hb2.pure kq_19
      refine WL.loadsB Try.isAgg25 Try.sizeOf25 hb1 rfl (by first | (simp; done) | (simp; omega) | rfl) rfl (?_)
      refine WL.nil ?_
      exact WX.one ⟨rfl, by first | exact Chg.refl _ _ | assumption⟩
    apply DQT.step (E' := [(4, _)])
    case ho => rfl
    case hs => exact ⟨rfl, trivial⟩
    case hk => rfl
    case h1 =>
      intro wq_20 kq_20
      replace h := h.pure kq_20
      replace hb1 := hb1.pure kq_20
      replace hb2 := hb2.pure kq_20
      refine WL.loadsB Try.isAgg27 Try.sizeOf27 hb2 rfl (by first | (simp; done) | (simp; omega) | rfl) rfl (?_)
      refine WL.nil ?_
      exact WX.one ⟨rfl, by first | exact Chg.refl _ _ | assumption⟩
    refine DQT.done (fun hd_18 => ?_)
    refine ⟨?_, trivial, trivial, trivial, trivial, trivial, ?_, trivial, trivial, trivial, trivial⟩
    refine DT.step [(32, _)] rfl ⟨rfl, trivial⟩ rfl (fun wq_21 kq_21 => ?_)
    replace h := h.pure kq_21
    replace hb1 := hb1.pure kq_21
    replace hb2 := hb2.pure kq_21
    replace hd_18 := hd_18.pure kq_21
    refine WL.call eg_10 rfl rfl (of_calls h hs2) ?_
    rintro v w1 ⟨⟨l1, rfl, hO, ha⟩, k1⟩
    replace h := h.pure k1
    replace hb1 := hb1.pure k1
    replace hb2 := hb2.pure k1
    replace hd_18 := hd_18.pure k1
    have hLa := hO.ls.old
    refine WL.nil (WX.one ⟨hd_18, ?_⟩)
    refine ⟨?_, trivial, trivial, trivial, trivial, ?_, trivial, trivial, trivial, trivial⟩
    refine DT.step [(33, _), (34, _)] rfl ⟨rfl, rfl, trivial⟩ rfl (fun wq_22 kq_22 => ?_)
    replace h := h.pure kq_22
    replace hb1 := hb1.pure kq_22
    replace hb2 := hb2.pure kq_22
    replace hd_18 := hd_18.pure kq_22
    replace hLa := hLa.pure kq_22
    try have lg4 := hb_4.lt
    refine WL.call eg_13 rfl rfl (Kill_calls hLa ((ha ▸ hs2.sma : SmA 20 l1.abs).up (by decide)).sm p) ?_
    rintro v w1 ⟨⟨l3, b3, e3, rfl, hR3, hO3⟩, k1⟩
    replace hd_18 := hd_18.pure k1
    replace hO3 := hO3.lt
    rw [ha] at hR3
    obtain ⟨ha3, rfl, rfl⟩ := hR3.uniq hR2
    refine WL.nil (WX.one ⟨hd_18, ?_⟩)
    refine ⟨?_, trivial, trivial, trivial, ?_, trivial, trivial, trivial, trivial⟩
    refine DT.step [(35, _)] rfl ⟨rfl, trivial⟩ rfl (fun wq_23 kq_23 => ?_)
    replace hd_18 := hd_18.pure kq_23
    replace hO3 := hO3.pure kq_23
    refine WL.move rfl rfl (WL.nil (WX.one ⟨hd_18, ?_⟩))
    refine ⟨?_, ?_, ?_, ?_, trivial, trivial, trivial, trivial⟩
    refine DT.step [(31, _)] rfl ⟨rfl, trivial⟩ rfl (fun wq_24 kq_24 => ?_)
    replace hd_18 := hd_18.pure kq_24
    replace hO3 := hO3.pure kq_24
    refine WL.extract rfl rfl rfl (WL.nil (WX.one ⟨hd_18, ?_⟩))
    refine ⟨?_, ?_, ?_, trivial, trivial, trivial, trivial⟩
    refine DT.step [(31, _)] rfl ⟨rfl, trivial⟩ rfl (fun wq_25 kq_25 => ?_)
    replace hd_18 := hd_18.pure kq_25
    replace hO3 := hO3.pure kq_25
    refine WL.extract rfl rfl rfl (WL.nil (WX.one ⟨hd_18, ?_⟩))
    refine ⟨?_, ?_, trivial, trivial, trivial, trivial⟩
    refine DT.step [(31, _)] rfl ⟨rfl, trivial⟩ rfl (fun wq_26 kq_26 => ?_)
    replace hd_18 := hd_18.pure kq_26
    replace hO3 := hO3.pure kq_26
    refine WL.extract rfl rfl rfl (WL.nil (WX.one ⟨hd_18, ?_⟩))
    refine ⟨?_, trivial, trivial, trivial, trivial⟩
    refine DT.step [] rfl trivial rfl (fun wq_27 kq_27 => ?_)
    replace hd_18 := hd_18.pure kq_27
    replace hO3 := hO3.pure kq_27
    try replace hO3 := hO3.lt
    have hsz17 := hd_18.size
    have hlt33 := Nat.lt_of_lt_of_le lg3 (Nat.le_trans kd_17.size hd_18.size)
    refine WL.alloc Try.zeroValue33 rfl ?_
    intro g_4 ws4 hge4 hlt4 hb_4 ks4
    have hlt34 : g_3 < g_4 := Nat.lt_of_lt_of_le hlt33 hge4
    have hge17 : wd_17.heap.size ≤ g_4 := Nat.le_trans hsz17 hge4
    clear hlt33 hsz17
    replace hd_18 := hd_18.pure ks4
    replace hO3 := hO3.pure ks4
    refine WL.nil (WX.one ⟨hd_18, ?_⟩)
    refine ⟨?_, trivial, trivial, trivial⟩
    refine DT.step [(10, _), (36, _)] rfl ⟨rfl, rfl, trivial⟩ rfl (fun wq_28 kq_28 => ?_)
    replace hd_18 := hd_18.pure kq_28
    replace hO3 := hO3.pure kq_28
    replace hb_4 := hb_4.pure kq_28
    refine WL.stores Try.sizeOf33 hb_4 rfl rfl (by rfl) (by simp [Value.oneCell']) (by simp [Value.cells]) rfl ?_
    intro w_29 hs_29 hn_29 k_29
    replace hd_18 := hd_18.chg k_29 (by first | (intro x h1 h2; have h3 : _ = _ := h2; exfalso; omega) | (intro b h1 h2 h3; have h4 : _ = _ := h3; (try dsimp only at h2); exfalso; omega))
    replace hO3 := hO3.chg k_29 (by first | (intro x h1 h2; have h3 : _ = _ := h2; exfalso; omega) | (intro b h1 h2 h3; have h4 : _ = _ := h3; (try dsimp only at h2); exfalso; omega))
    replace hb_4 := hn_29
    refine WL.nil (WX.one0 (v := undef) ⟨hd_18, ?_⟩)
    refine ⟨?_, trivial, trivial⟩
    refine DT.step [(37, _)] rfl ⟨rfl, trivial⟩ rfl (fun wq_30 kq_30 => ?_)
    replace hd_18 := hd_18.pure kq_30
    replace hO3 := hO3.pure kq_30
    replace hb_4 := hb_4.pure kq_30
    refine WL.assign rfl rfl (WL.nil (WX.one ⟨hd_18, ?_⟩))
    refine ⟨?_, trivial⟩
    refine DT.step [(38, _)] rfl ⟨rfl, trivial⟩ rfl (fun wq_31 kq_31 => ?_)
    replace hd_18 := hd_18.pure kq_31
    replace hO3 := hO3.pure kq_31
    replace hb_4 := hb_4.pure kq_31
    refine WL.assign rfl rfl (WL.nil (WX.one ⟨hd_18, ?_⟩))
    refine DT.done (fun we_32 ke_32 => ?_) _
    replace hd_18 := hd_18.pure ke_32
    replace hO3 := hO3.pure ke_32
    replace hb_4 := hb_4.pure ke_32
    exact WX.cut (l3, g_4) ⟨rfl, rfl, rfl, rfl, rfl, rfl, rfl, rfl, rfl, trivial⟩ ⟨ha3, ⟨hlt34, hb_4.lt⟩, hb_4, hO3.ls.mono (fun _ _ => trivial), ((hL2s.pure kd_17).pure hd_18).mono (fun _ _ => trivial), (hb1s.pure kd_17).pure hd_18, (hb2s.pure kd_17).pure hd_18, (hb3s.pure kd_17).pure hd_18, (hss.pure kd_17).pure hd_18, (hsw.pure kd_17).pure hd_18⟩
    refine DT.step [] rfl trivial rfl (fun wq_26 kq_26 => ?_)
    replace hd_18 := hd_18.pure kq_26
    replace hO3 := hO3.pure kq_26
    try replace hO3 := hO3.lt
    have hsz17 := hd_18.size
    have hlt33 := Nat.lt_of_lt_of_le lg3 (Nat.le_trans kd_17.size hd_18.size)
    refine WL.alloc Try.zeroValue33 rfl ?_
    intro g_4 ws4 hge4 hlt4 hb_4 ks4
    have hlt34 : g_3 < g_4 := Nat.lt_of_lt_of_le hlt33 hge4
    have hge17 : wd_17.heap.size ≤ g_4 := Nat.le_trans hsz17 hge4
    clear hlt33 hsz17
    replace hd_18 := hd_18.pure ks4
    replace hO3 := hO3.pure ks4
    refine WL.nil (WX.one ⟨hd_18, ?_⟩)
    refine ⟨?_, ?_, trivial, trivial, trivial⟩
    refine DT.step [(31, _)] rfl ⟨rfl, trivial⟩ rfl (fun wq_27 kq_27 => ?_)
    replace hd_18 := hd_18.pure kq_27
    replace hO3 := hO3.pure kq_27
    replace hb_4 := hb_4.pure kq_27
    refine WL.extract rfl rfl rfl (WL.nil (WX.one ⟨hd_18, ?_⟩))
    refine ⟨?_, trivial, trivial, trivial⟩
    refine DT.step [(10, _), (36, _)] rfl ⟨rfl, rfl, trivial⟩ rfl (fun wq_28 kq_28 => ?_)
    replace hd_18 := hd_18.pure kq_28
    replace hO3 := hO3.pure kq_28
    replace hb_4 := hb_4.pure kq_28
    refine WL.stores Try.sizeOf33 hb_4 rfl rfl (by rfl) (by simp [Value.oneCell']) (by simp [Value.cells]) rfl ?_
    intro w_29 hs_29 hn_29 k_29
    replace hd_18 := hd_18.chg k_29 (by first | (intro x h1 h2; have h3 : _ = _ := h2; exfalso; omega) | (intro b h1 h2 h3; have h4 : _ = _ := h3; (try dsimp only at h2); exfalso; omega))
    replace hO3 := hO3.chg k_29 (by first | (intro x h1 h2; have h3 : _ = _ := h2; exfalso; omega) | (intro b h1 h2 h3; have h4 : _ = _ := h3; (try dsimp only at h2); exfalso; omega))
    replace hb_4 := hn_29
    refine WL.nil (WX.one0 (v := undef) ⟨hd_18, ?_⟩)
    refine ⟨?_, trivial, trivial⟩
    refine DT.step [(37, _)] rfl ⟨rfl, trivial⟩ rfl (fun wq_30 kq_30 => ?_)
    replace hd_18 := hd_18.pure kq_30
    replace hO3 := hO3.pure kq_30
    replace hb_4 := hb_4.pure kq_30
    refine WL.assign rfl rfl (WL.nil (WX.one ⟨hd_18, ?_⟩))
    refine ⟨?_, trivial⟩
    refine DT.step [(38, _)] rfl ⟨rfl, trivial⟩ rfl (fun wq_31 kq_31 => ?_)
    replace hd_18 := hd_18.pure kq_31
    replace hO3 := hO3.pure kq_31
    replace hb_4 := hb_4.pure kq_31
    refine WL.assign rfl rfl (WL.nil (WX.one ⟨hd_18, ?_⟩))
    refine DT.done (fun we_32 ke_32 => ?_) _
    replace hd_18 := hd_18.pure ke_32
    replace hO3 := hO3.pure ke_32
    replace hb_4 := hb_4.pure ke_32
    exact WX.cut (l3, g_4) ⟨rfl, rfl, rfl, rfl, rfl, rfl, rfl, rfl, rfl, trivial⟩ ⟨ha3, ⟨hlt34, hb_4.lt⟩, hb_4, hO3.ls.mono (fun _ _ => trivial), ((hL2s.pure kd_17).pure hd_18).mono (fun _ _ => trivial), (hb1s.pure kd_17).pure hd_18, (hb2s.pure kd_17).pure hd_18, (hb3s.pure kd_17).pure hd_18, (hss.pure kd_17).pure hd_18, (hsw.pure kd_17).pure hd_18⟩
    refine DT.step [(10, _), (36, _)] rfl ⟨rfl, rfl, trivial⟩ rfl (fun wq_27 kq_27 => ?_)
    replace hd_18 := hd_18.pure kq_27
    replace hO3 := hO3.pure kq_27
    replace hb_4 := hb_4.pure kq_27
    refine WL.stores Try.sizeOf33 hb_4 rfl rfl (by rfl) (by simp [Value.oneCell']) (by simp [Value.cells]) rfl ?_
    intro w_28 hs_28 hn_28 k_28
    replace hd_18 := hd_18.chg k_28 (by first | (intro x h1 h2; have h3 : _ = _ := h2; exfalso; omega) | (intro b h1 h2 h3; have h4 : _ = _ := h3; (try dsimp only at h2); exfalso; omega))
    replace hO3 := hO3.chg k_28 (by first | (intro x h1 h2; have h3 : _ = _ := h2; exfalso; omega) | (intro b h1 h2 h3; have h4 : _ = _ := h3; (try dsimp only at h2); exfalso; omega))
    replace hb_4 := hn_28
    refine WL.nil (WX.one0 (v := undef) ⟨hd_18, ?_⟩)
    refine ⟨?_, ?_, trivial, trivial⟩
    refine DT.step [(31, _)] rfl ⟨rfl, trivial⟩ rfl (fun wq_29 kq_29 => ?_)
    replace hd_18 := hd_18.pure kq_29
    replace hO3 := hO3.pure kq_29
    replace hb_4 := hb_4.pure kq_29
    refine WL.extract rfl rfl rfl (WL.nil (WX.one ⟨hd_18, ?_⟩))
    refine ⟨?_, trivial, trivial⟩
    refine DT.step [(37, _)] rfl ⟨rfl, trivial⟩ rfl (fun wq_30 kq_30 => ?_)
    replace hd_18 := hd_18.pure kq_30
    replace hO3 := hO3.pure kq_30
    replace hb_4 := hb_4.pure kq_30
    refine WL.assign rfl rfl (WL.nil (WX.one ⟨hd_18, ?_⟩))
    refine ⟨?_, trivial⟩
    refine DT.step [(38, _)] rfl ⟨rfl, trivial⟩ rfl (fun wq_31 kq_31 => ?_)
    replace hd_18 := hd_18.pure kq_31
    replace hO3 := hO3.pure kq_31
    replace hb_4 := hb_4.pure kq_31
    refine WL.assign rfl rfl (WL.nil (WX.one ⟨hd_18, ?_⟩))
    refine DT.done (fun we_32 ke_32 => ?_) _
    replace hd_18 := hd_18.pure ke_32
    replace hO3 := hO3.pure ke_32
    replace hb_4 := hb_4.pure ke_32
    exact WX.cut (l3, g_4) ⟨rfl, rfl, rfl, rfl, rfl, rfl, rfl, rfl, rfl, trivial⟩ ⟨ha3, ⟨hlt34, hb_4.lt⟩, hb_4, hO3.ls.mono (fun _ _ => trivial), ((hL2s.pure kd_17).pure hd_18).mono (fun _ _ => trivial), (hb1s.pure kd_17).pure hd_18, (hb2s.pure kd_17).pure hd_18, (hb3s.pure kd_17).pure hd_18, (hss.pure kd_17).pure hd_18, (hsw.pure kd_17).pure hd_18⟩
    refine DT.step [(37, _)] rfl ⟨rfl, trivial⟩ rfl (fun wq_29 kq_29 => ?_)
    replace hd_18 := hd_18.pure kq_29
    replace hO3 := hO3.pure kq_29
    replace hb_4 := hb_4.pure kq_29
    refine WL.assign rfl rfl (WL.nil (WX.one ⟨hd_18, ?_⟩))
    refine ⟨?_, trivial, trivial⟩
    refine DT.step [(31, _)] rfl ⟨rfl, trivial⟩ rfl (fun wq_30 kq_30 => ?_)
    replace hd_18 := hd_18.pure kq_30
    replace hO3 := hO3.pure kq_30
    replace hb_4 := hb_4.pure kq_30
    refine WL.extract rfl rfl rfl (WL.nil (WX.one ⟨hd_18, ?_⟩))
    refine ⟨?_, trivial⟩
    refine DT.step [(38, _)] rfl ⟨rfl, trivial⟩ rfl (fun wq_31 kq_31 => ?_)
    replace hd_18 := hd_18.pure kq_31
    replace hO3 := hO3.pure kq_31
    replace hb_4 := hb_4.pure kq_31
    refine WL.assign rfl rfl (WL.nil (WX.one ⟨hd_18, ?_⟩))
    refine DT.done (fun we_32 ke_32 => ?_) _
    replace hd_18 := hd_18.pure ke_32
    replace hO3 := hO3.pure ke_32
    replace hb_4 := hb_4.pure ke_32
    exact WX.cut (l3, g_4) ⟨rfl, rfl, rfl, rfl, rfl, rfl, rfl, rfl, rfl, trivial⟩ ⟨ha3, ⟨hlt34, hb_4.lt⟩, hb_4, hO3.ls.mono (fun _ _ => trivial), ((hL2s.pure kd_17).pure hd_18).mono (fun _ _ => trivial), (hb1s.pure kd_17).pure hd_18, (hb2s.pure kd_17).pure hd_18, (hb3s.pure kd_17).pure hd_18, (hss.pure kd_17).pure hd_18, (hsw.pure kd_17).pure hd_18⟩
    refine DT.step [(31, _)] rfl ⟨rfl, trivial⟩ rfl (fun wq_25 kq_25 => ?_)
    replace hd_18 := hd_18.pure kq_25
    replace hO3 := hO3.pure kq_25
    refine WL.extract rfl rfl rfl (WL.nil (WX.one ⟨hd_18, ?_⟩))
    refine ⟨?_, ?_, trivial, trivial, trivial, trivial⟩
    refine DT.step [(31, _)] rfl ⟨rfl, trivial⟩ rfl (fun wq_26 kq_26 => ?_)
    replace hd_18 := hd_18.pure kq_26
    replace hO3 := hO3.pure kq_26
    refine WL.extract rfl rfl rfl (WL.nil (WX.one ⟨hd_18, ?_⟩))
    refine ⟨?_, trivial, trivial, trivial, trivial⟩
    refine DT.step [] rfl trivial rfl (fun wq_27 kq_27 => ?_)
    replace hd_18 := hd_18.pure kq_27
    replace hO3 := hO3.pure kq_27
    try replace hO3 := hO3.lt
    have hsz17 := hd_18.size
    have hlt33 := Nat.lt_of_lt_of_le lg3 (Nat.le_trans kd_17.size hd_18.size)
    refine WL.alloc Try.zeroValue33 rfl ?_
    intro g_4 ws4 hge4 hlt4 hb_4 ks4
    have hlt34 : g_3 < g_4 := Nat.lt_of_lt_of_le hlt33 hge4
    have hge17 : wd_17.heap.size ≤ g_4 := Nat.le_trans hsz17 hge4
    clear hlt33 hsz17
    replace hd_18 := hd_18.pure ks4
    replace hO3 := hO3.pure ks4
    refine WL.nil (WX.one ⟨hd_18, ?_⟩)
    refine ⟨?_, trivial, trivial, trivial⟩
    refine DT.step [(10, _), (36, _)] rfl ⟨rfl, rfl, trivial⟩ rfl (fun wq_28 kq_28 => ?_)
    replace hd_18 := hd_18.pure kq_28
    replace hO3 := hO3.pure kq_28
    replace hb_4 := hb_4.pure kq_28
    refine WL.stores Try.sizeOf33 hb_4 rfl rfl (by rfl) (by simp [Value.oneCell']) (by simp [Value.cells]) rfl ?_
    intro w_29 hs_29 hn_29 k_29
    replace hd_18 := hd_18.chg k_29 (by first | (intro x h1 h2; have h3 : _ = _ := h2; exfalso; omega) | (intro b h1 h2 h3; have h4 : _ = _ := h3; (try dsimp only at h2); exfalso; omega))
    replace hO3 := hO3.chg k_29 (by first | (intro x h1 h2; have h3 : _ = _ := h2; exfalso; omega) | (intro b h1 h2 h3; have h4 : _ = _ := h3; (try dsimp only at h2); exfalso; omega))
    replace hb_4 := hn_29
    refine WL.nil (WX.one0 (v := undef) ⟨hd_18, ?_⟩)
    refine ⟨?_, trivial, trivial⟩
    refine DT.step [(37, _)] rfl ⟨rfl, trivial⟩ rfl (fun wq_30 kq_30 => ?_)
    replace hd_18 := hd_18.pure kq_30
    replace hO3 := hO3.pure kq_30
    replace hb_4 := hb_4.pure kq_30
    refine WL.assign rfl rfl (WL.nil (WX.one ⟨hd_18, ?_⟩))
    refine ⟨?_, trivial⟩
    refine DT.step [(38, _)] rfl ⟨rfl, trivial⟩ rfl (fun wq_31 kq_31 => ?_)
    replace hd_18 := hd_18.pure kq_31
    replace hO3 := hO3.pure kq_31
    replace hb_4 := hb_4.pure kq_31
    refine WL.assign rfl rfl (WL.nil (WX.one ⟨hd_18, ?_⟩))
    refine DT.done (fun we_32 ke_32 => ?_) _
    replace hd_18 := hd_18.pure ke_32
    replace hO3 := hO3.pure ke_32
    replace hb_4 := hb_4.pure ke_32
    exact WX.cut (l3, g_4) ⟨rfl, rfl, rfl, rfl, rfl, rfl, rfl, rfl, rfl, trivial⟩ ⟨ha3, ⟨hlt34, hb_4.lt⟩, hb_4, hO3.ls.mono (fun _ _ => trivial), ((hL2s.pure kd_17).pure hd_18).mono (fun _ _ => trivial), (hb1s.pure kd_17).pure hd_18, (hb2s.pure kd_17).pure hd_18, (hb3s.pure kd_17).pure hd_18, (hss.pure kd_17).pure hd_18, (hsw.pure kd_17).pure hd_18⟩
    refine DT.step [] rfl trivial rfl (fun wq_26 kq_26 => ?_)
    replace hd_18 := hd_18.pure kq_26
    replace hO3 := hO3.pure kq_26
    try replace hO3 := hO3.lt
    have hsz17 := hd_18.size
    have hlt33 := Nat.lt_of_lt_of_le lg3 (Nat.le_trans kd_17.size hd_18.size)
    refine WL.alloc Try.zeroValue33 rfl ?_
    intro g_4 ws4 hge4 hlt4 hb_4 ks4
    have hlt34 : g_3 < g_4 := Nat.lt_of_lt_of_le hlt33 hge4
    have hge17 : wd_17.heap.size ≤ g_4 := Nat.le_trans hsz17 hge4
    clear hlt33 hsz17
    replace hd_18 := hd_18.pure ks4
    replace hO3 := hO3.pure ks4
    refine WL.nil (WX.one ⟨hd_18, ?_⟩)
    refine ⟨?_, ?_, trivial, trivial, trivial⟩
    refine DT.step [(31, _)] rfl ⟨rfl, trivial⟩ rfl (fun wq_27 kq_27 => ?_)
    replace hd_18 := hd_18.pure kq_27
    replace hO3 := hO3.pure kq_27
    replace hb_4 := hb_4.pure kq_27
    refine WL.extract rfl rfl rfl (WL.nil (WX.one ⟨hd_18, ?_⟩))
    refine ⟨?_, trivial, trivial, trivial⟩
    refine DT.step [(10, _), (36, _)] rfl ⟨rfl, rfl, trivial⟩ rfl (fun wq_28 kq_28 => ?_)
    replace hd_18 := hd_18.pure kq_28
    replace hO3 := hO3.pure kq_28
    replace hb_4 := hb_4.pure kq_28
    refine WL.stores Try.sizeOf33 hb_4 rfl rfl (by rfl) (by simp [Value.oneCell']) (by simp [Value.cells]) rfl ?_
    intro w_29 hs_29 hn_29 k_29
    replace hd_18 := hd_18.chg k_29 (by first | (intro x h1 h2; have h3 : _ = _ := h2; exfalso; omega) | (intro b h1 h2 h3; have h4 : _ = _ := h3; (try dsimp only at h2); exfalso; omega))
    replace hO3 := hO3.chg k_29 (by first | (intro x h1 h2; have h3 : _ = _ := h2; exfalso; omega) | (intro b h1 h2 h3; have h4 : _ = _ := h3; (try dsimp only at h2); exfalso; omega))
    replace hb_4 := hn_29
    refine WL.nil (WX.one0 (v := undef) ⟨hd_18, ?_⟩)
    refine ⟨?_, trivial, trivial⟩
    refine DT.step [(37, _)] rfl ⟨rfl, trivial⟩ rfl (fun wq_30 kq_30 => ?_)
    replace hd_18 := hd_18.pure kq_30
    replace hO3 := hO3.pure kq_30
    replace hb_4 := hb_4.pure kq_30
    refine WL.assign rfl rfl (WL.nil (WX.one ⟨hd_18, ?_⟩))
    refine ⟨?_, trivial⟩
    refine DT.step [(38, _)] rfl ⟨rfl, trivial⟩ rfl (fun wq_31 kq_31 => ?_)
    replace hd_18 := hd_18.pure kq_31
    replace hO3 := hO3.pure kq_31
    replace hb_4 := hb_4.pure kq_31
    refine WL.assign rfl rfl (WL.nil (WX.one ⟨hd_18, ?_⟩))
    refine DT.done (fun we_32 ke_32 => ?_) _
    replace hd_18 := hd_18.pure ke_32
    replace hO3 := hO3.pure ke_32
    replace hb_4 := hb_4.pure ke_32
    exact WX.cut (l3, g_4) ⟨rfl, rfl, rfl, rfl, rfl, rfl, rfl, rfl, rfl, trivial⟩ ⟨ha3, ⟨hlt34, hb_4.lt⟩, hb_4, hO3.ls.mono (fun _ _ => trivial), ((hL2s.pure kd_17).pure hd_18).mono (fun _ _ => trivial), (hb1s.pure kd_17).pure hd_18, (hb2s.pure kd_17).pure hd_18, (hb3s.pure kd_17).pure hd_18, (hss.pure kd_17).pure hd_18, (hsw.pure kd_17).pure hd_18⟩
    refine DT.step [(10, _), (36, _)] rfl ⟨rfl, rfl, trivial⟩ rfl (fun wq_27 kq_27 => ?_)
    replace hd_18 := hd_18.pure kq_27
    replace hO3 := hO3.pure kq_27
    replace hb_4 := hb_4.pure kq_27
    refine WL.stores Try.sizeOf33 hb_4 rfl rfl (by rfl) (by simp [Value.oneCell']) (by simp [Value.cells]) rfl ?_
    intro w_28 hs_28 hn_28 k_28
    replace hd_18 := hd_18.chg k_28 (by first | (intro x h1 h2; have h3 : _ = _ := h2; exfalso; omega) | (intro b h1 h2 h3; have h4 : _ = _ := h3; (try dsimp only at h2); exfalso; omega))
    replace hO3 := hO3.chg k_28 (by first | (intro x h1 h2; have h3 : _ = _ := h2; exfalso; omega) | (intro b h1 h2 h3; have h4 : _ = _ := h3; (try dsimp only at h2); exfalso; omega))
    replace hb_4 := hn_28
    refine WL.nil (WX.one0 (v := undef) ⟨hd_18, ?_⟩)
    refine ⟨?_, trivial, trivial, trivial⟩
    refine DT.step [(31, _)] rfl ⟨rfl, trivial⟩ rfl (fun wq_29 kq_29 => ?_)
    replace hd_18 := hd_18.pure kq_29
    replace hO3 := hO3.pure kq_29
    replace hb_4 := hb_4.pure kq_29
    refine WL.extract rfl rfl rfl (WL.nil (WX.one ⟨hd_18, ?_⟩))
    refine ⟨?_, trivial, trivial⟩
    refine DT.step [(37, _)] rfl ⟨rfl, trivial⟩ rfl (fun wq_30 kq_30 => ?_)
    replace hd_18 := hd_18.pure kq_30
    replace hO3 := hO3.pure kq_30
    replace hb_4 := hb_4.pure kq_30
    refine WL.assign rfl rfl (WL.nil (WX.one ⟨hd_18, ?_⟩))
    refine ⟨?_, trivial⟩
    refine DT.step [(38, _)] rfl ⟨rfl, trivial⟩ rfl (fun wq_31 kq_31 => ?_)
    replace hd_18 := hd_18.pure kq_31
    replace hO3 := hO3.pure kq_31
    replace hb_4 := hb_4.pure kq_31
    refine WL.assign rfl rfl (WL.nil (WX.one ⟨hd_18, ?_⟩))
    refine DT.done (fun we_32 ke_32 => ?_) _
    replace hd_18 := hd_18.pure ke_32
    replace hO3 := hO3.pure ke_32
    replace hb_4 := hb_4.pure ke_32
    exact WX.cut (l3, g_4) ⟨rfl, rfl, rfl, rfl, rfl, rfl, rfl, rfl, rfl, trivial⟩ ⟨ha3, ⟨hlt34, hb_4.lt⟩, hb_4, hO3.ls.mono (fun _ _ => trivial), ((hL2s.pure kd_17).pure hd_18).mono (fun _ _ => trivial), (hb1s.pure kd_17).pure hd_18, (hb2s.pure kd_17).pure hd_18, (hb3s.pure kd_17).pure hd_18, (hss.pure kd_17).pure hd_18, (hsw.pure kd_17).pure hd_18⟩
    refine DT.step [] rfl trivial rfl (fun wq_25 kq_25 => ?_)
    replace hd_18 := hd_18.pure kq_25
    replace hO3 := hO3.pure kq_25
    try replace hO3 := hO3.lt
    have hsz17 := hd_18.size
    have hlt33 := Nat.lt_of_lt_of_le lg3 (Nat.le_trans kd_17.size hd_18.size)
    refine WL.alloc Try.zeroValue33 rfl ?_
    intro g_4 ws4 hge4 hlt4 hb_4 ks4
    have hlt34 : g_3 < g_4 := Nat.lt_of_lt_of_le hlt33 hge4
    have hge17 : wd_17.heap.size ≤ g_4 := Nat.le_trans hsz17 hge4
    clear hlt33 hsz17
    replace hd_18 := hd_18.pure ks4
    replace hO3 := hO3.pure ks4
    refine WL.nil (WX.one ⟨hd_18, ?_⟩)
    refine ⟨?_, ?_, ?_, trivial, trivial, trivial⟩
    refine DT.step [(31, _)] rfl ⟨rfl, trivial⟩ rfl (fun wq_26 kq_26 => ?_)
    replace hd_18 := hd_18.pure kq_26
    replace hO3 := hO3.pure kq_26
    replace hb_4 := hb_4.pure kq_26
    refine WL.extract rfl rfl rfl (WL.nil (WX.one ⟨hd_18, ?_⟩))
    refine ⟨?_, ?_, trivial, trivial, trivial⟩
    refine DT.step [(31, _)] rfl ⟨rfl, trivial⟩ rfl (fun wq_27 kq_27 => ?_)
    replace hd_18 := hd_18.pure kq_27
    replace hO3 := hO3.pure kq_27
    replace hb_4 := hb_4.pure kq_27
    refine WL.extract rfl rfl rfl (WL.nil (WX.one ⟨hd_18, ?_⟩))
    refine ⟨?_, trivial, trivial, trivial⟩
    refine DT.step [(10, _), (36, _)] rfl ⟨rfl, rfl, trivial⟩ rfl (fun wq_28 kq_28 => ?_)
    replace hd_18 := hd_18.pure kq_28
    replace hO3 := hO3.pure kq_28
    replace hb_4 := hb_4.pure kq_28
    refine WL.stores Try.sizeOf33 hb_4 rfl rfl (by rfl) (by simp [Value.oneCell']) (by simp [Value.cells]) rfl ?_
    intro w_29 hs_29 hn_29 k_29
    replace hd_18 := hd_18.chg k_29 (by first | (intro x h1 h2; have h3 : _ = _ := h2; exfalso; omega) | (intro b h1 h2 h3; have h4 : _ = _ := h3; (try dsimp only at h2); exfalso; omega))
    replace hO3 := hO3.chg k_29 (by first | (intro x h1 h2; have h3 : _ = _ := h2; exfalso; omega) | (intro b h1 h2 h3; have h4 : _ = _ := h3; (try dsimp only at h2); exfalso; omega))
    replace hb_4 := hn_29
    refine WL.nil (WX.one0 (v := undef) ⟨hd_18, ?_⟩)
    refine ⟨?_, trivial, trivial⟩
    refine DT.step [(37, _)] rfl ⟨rfl, trivial⟩ rfl (fun wq_30 kq_30 => ?_)
    replace hd_18 := hd_18.pure kq_30
    replace hO3 := hO3.pure kq_30
    replace hb_4 := hb_4.pure kq_30
    refine WL.assign rfl rfl (WL.nil (WX.one ⟨hd_18, ?_⟩))
    refine ⟨?_, trivial⟩
    refine DT.step [(38, _)] rfl ⟨rfl, trivial⟩ rfl (fun wq_31 kq_31 => ?_)
    replace hd_18 := hd_18.pure kq_31
    replace hO3 := hO3.pure kq_31
    replace hb_4 := hb_4.pure kq_31
    refine WL.assign rfl rfl (WL.nil (WX.one ⟨hd_18, ?_⟩))
    refine DT.done (fun we_32 ke_32 => ?_) _
    replace hd_18 := hd_18.pure ke_32
    replace hO3 := hO3.pure ke_32
    replace hb_4 := hb_4.pure ke_32
    exact WX.cut (l3, g_4) ⟨rfl, rfl, rfl, rfl, rfl, rfl, rfl, rfl, rfl, trivial⟩ ⟨ha3, ⟨hlt34, hb_4.lt⟩, hb_4, hO3.ls.mono (fun _ _ => trivial), ((hL2s.pure kd_17).pure hd_18).mono (fun _ _ => trivial), (hb1s.pure kd_17).pure hd_18, (hb2s.pure kd_17).pure hd_18, (hb3s.pure kd_17).pure hd_18, (hss.pure kd_17).pure hd_18, (hsw.pure kd_17).pure hd_18⟩
    refine DT.step [(10, _), (36, _)] rfl ⟨rfl, rfl, trivial⟩ rfl (fun wq_27 kq_27 => ?_)
    replace hd_18 := hd_18.pure kq_27
    replace hO3 := hO3.pure kq_27
    replace hb_4 := hb_4.pure kq_27
    refine WL.stores Try.sizeOf33 hb_4 rfl rfl (by rfl) (by simp [Value.oneCell']) (by simp [Value.cells]) rfl ?_
    intro w_28 hs_28 hn_28 k_28
    replace hd_18 := hd_18.chg k_28 (by first | (intro x h1 h2; have h3 : _ = _ := h2; exfalso; omega) | (intro b h1 h2 h3; have h4 : _ = _ := h3; (try dsimp only at h2); exfalso; omega))
    replace hO3 := hO3.chg k_28 (by first | (intro x h1 h2; have h3 : _ = _ := h2; exfalso; omega) | (intro b h1 h2 h3; have h4 : _ = _ := h3; (try dsimp only at h2); exfalso; omega))
    replace hb_4 := hn_28
    refine WL.nil (WX.one0 (v := undef) ⟨hd_18, ?_⟩)
    refine ⟨?_, ?_, trivial, trivial⟩
    refine DT.step [(31, _)] rfl ⟨rfl, trivial⟩ rfl (fun wq_29 kq_29 => ?_)
    replace hd_18 := hd_18.pure kq_29
    replace hO3 := hO3.pure kq_29
    replace hb_4 := hb_4.pure kq_29
    refine WL.extract rfl rfl rfl (WL.nil (WX.one ⟨hd_18, ?_⟩))
    refine ⟨?_, trivial, trivial⟩
    refine DT.step [(37, _)] rfl ⟨rfl, trivial⟩ rfl (fun wq_30 kq_30 => ?_)
    replace hd_18 := hd_18.pure kq_30
    replace hO3 := hO3.pure kq_30
    replace hb_4 := hb_4.pure kq_30
    refine WL.assign rfl rfl (WL.nil (WX.one ⟨hd_18, ?_⟩))
    refine ⟨?_, trivial⟩
    refine DT.step [(38, _)] rfl ⟨rfl, trivial⟩ rfl (fun wq_31 kq_31 => ?_)
    replace hd_18 := hd_18.pure kq_31
    replace hO3 := hO3.pure kq_31
    replace hb_4 := hb_4.pure kq_31
    refine WL.assign rfl rfl (WL.nil (WX.one ⟨hd_18, ?_⟩))
    refine DT.done (fun we_32 ke_32 => ?_) _
    replace hd_18 := hd_18.pure ke_32
    replace hO3 := hO3.pure ke_32
    replace hb_4 := hb_4.pure ke_32
    exact WX.cut (l3, g_4) ⟨rfl, rfl, rfl, rfl, rfl, rfl, rfl, rfl, rfl, trivial⟩ ⟨ha3, ⟨hlt34, hb_4.lt⟩, hb_4, hO3.ls.mono (fun _ _ => trivial), ((hL2s.pure kd_17).pure hd_18).mono (fun _ _ => trivial), (hb1s.pure kd_17).pure hd_18, (hb2s.pure kd_17).pure hd_18, (hb3s.pure kd_17).pure hd_18, (hss.pure kd_17).pure hd_18, (hsw.pure kd_17).pure hd_18⟩
    refine DT.step [(37, _)] rfl ⟨rfl, trivial⟩ rfl (fun wq_29 kq_29 => ?_)
    replace hd_18 := hd_18.pure kq_29
    replace hO3 := hO3.pure kq_29
    replace hb_4 := hb_4.pure kq_29
    refine WL.assign rfl rfl (WL.nil (WX.one ⟨hd_18, ?_⟩))
    refine ⟨?_, trivial, trivial⟩
    refine DT.step [(31, _)] rfl ⟨rfl, trivial⟩ rfl (fun wq_30 kq_30 => ?_)
    replace hd_18 := hd_18.pure kq_30
    replace hO3 := hO3.pure kq_30
    replace hb_4 := hb_4.pure kq_30
    refine WL.extract rfl rfl rfl (WL.nil (WX.one ⟨hd_18, ?_⟩))
    refine ⟨?_, trivial⟩
    refine DT.step [(38, _)] rfl ⟨rfl, trivial⟩ rfl (fun wq_31 kq_31 => ?_)
    replace hd_18 := hd_18.pure kq_31
    replace hO3 := hO3.pure kq_31
    replace hb_4 := hb_4.pure kq_31
    refine WL.assign rfl rfl (WL.nil (WX.one ⟨hd_18, ?_⟩))
    refine DT.done (fun we_32 ke_32 => ?_) _
    replace hd_18 := hd_18.pure ke_32
    replace hO3 := hO3.pure ke_32
    replace hb_4 := hb_4.pure ke_32
    exact WX.cut (l3, g_4) ⟨rfl, rfl, rfl, rfl, rfl, rfl, rfl, rfl, rfl, trivial⟩ ⟨ha3, ⟨hlt34, hb_4.lt⟩, hb_4, hO3.ls.mono (fun _ _ => trivial), ((hL2s.pure kd_17).pure hd_18).mono (fun _ _ => trivial), (hb1s.pure kd_17).pure hd_18, (hb2s.pure kd_17).pure hd_18, (hb3s.pure kd_17).pure hd_18, (hss.pure kd_17).pure hd_18, (hsw.pure kd_17).pure hd_18⟩
    refine DT.step [(31, _)] rfl ⟨rfl, trivial⟩ rfl (fun wq_26 kq_26 => ?_)
    replace hd_18 := hd_18.pure kq_26
    replace hO3 := hO3.pure kq_26
    replace hb_4 := hb_4.pure kq_26
    refine WL.extract rfl rfl rfl (WL.nil (WX.one ⟨hd_18, ?_⟩))
    refine ⟨?_, ?_, trivial, trivial, trivial⟩
    refine DT.step [(31, _)] rfl ⟨rfl, trivial⟩ rfl (fun wq_27 kq_27 => ?_)
    replace hd_18 := hd_18.pure kq_27
    replace hO3 := hO3.pure kq_27
    replace hb_4 := hb_4.pure kq_27
    refine WL.extract rfl rfl rfl (WL.nil (WX.one ⟨hd_18, ?_⟩))
    refine ⟨?_, trivial, trivial, trivial⟩
    refine DT.step [(10, _), (36, _)] rfl ⟨rfl, rfl, trivial⟩ rfl (fun wq_28 kq_28 => ?_)
    replace hd_18 := hd_18.pure kq_28
    replace hO3 := hO3.pure kq_28
    replace hb_4 := hb_4.pure kq_28
    refine WL.stores Try.sizeOf33 hb_4 rfl rfl (by rfl) (by simp [Value.oneCell']) (by simp [Value.cells]) rfl ?_
    intro w_29 hs_29 hn_29 k_29
    replace hd_18 := hd_18.chg k_29 (by first | (intro x h1 h2; have h3 : _ = _ := h2; exfalso; omega) | (intro b h1 h2 h3; have h4 : _ = _ := h3; (try dsimp only at h2); exfalso; omega))
    replace hO3 := hO3.chg k_29 (by first | (intro x h1 h2; have h3 : _ = _ := h2; exfalso; omega) | (intro b h1 h2 h3; have h4 : _ = _ := h3; (try dsimp only at h2); exfalso; omega))
    replace hb_4 := hn_29
    refine WL.nil (WX.one0 (v := undef) ⟨hd_18, ?_⟩)
    refine ⟨?_, trivial, trivial⟩
    refine DT.step [(37, _)] rfl ⟨rfl, trivial⟩ rfl (fun wq_30 kq_30 => ?_)
    replace hd_18 := hd_18.pure kq_30
    replace hO3 := hO3.pure kq_30
    replace hb_4 := hb_4.pure kq_30
    refine WL.assign rfl rfl (WL.nil (WX.one ⟨hd_18, ?_⟩))
    refine ⟨?_, trivial⟩
    refine DT.step [(38, _)] rfl ⟨rfl, trivial⟩ rfl (fun wq_31 kq_31 => ?_)
    replace hd_18 := hd_18.pure kq_31
    replace hO3 := hO3.pure kq_31
    replace hb_4 := hb_4.pure kq_31
    refine WL.assign rfl rfl (WL.nil (WX.one ⟨hd_18, ?_⟩))
    refine DT.done (fun we_32 ke_32 => ?_) _
    replace hd_18 := hd_18.pure ke_32
    replace hO3 := hO3.pure ke_32
    replace hb_4 := hb_4.pure ke_32
    exact WX.cut (l3, g_4) ⟨rfl, rfl, rfl, rfl, rfl, rfl, rfl, rfl, rfl, trivial⟩ ⟨ha3, ⟨hlt34, hb_4.lt⟩, hb_4, hO3.ls.mono (fun _ _ => trivial), ((hL2s.pure kd_17).pure hd_18).mono (fun _ _ => trivial), (hb1s.pure kd_17).pure hd_18, (hb2s.pure kd_17).pure hd_18, (hb3s.pure kd_17).pure hd_18, (hss.pure kd_17).pure hd_18, (hsw.pure kd_17).pure hd_18⟩
    refine DT.step [(10, _), (36, _)] rfl ⟨rfl, rfl, trivial⟩ rfl (fun wq_27 kq_27 => ?_)
    replace hd_18 := hd_18.pure kq_27
    replace hO3 := hO3.pure kq_27
    replace hb_4 := hb_4.pure kq_27
    refine WL.stores Try.sizeOf33 hb_4 rfl rfl (by rfl) (by simp [Value.oneCell']) (by simp [Value.cells]) rfl ?_
    intro w_28 hs_28 hn_28 k_28
    replace hd_18 := hd_18.chg k_28 (by first | (intro x h1 h2; have h3 : _ = _ := h2; exfalso; omega) | (intro b h1 h2 h3; have h4 : _ = _ := h3; (try dsimp only at h2); exfalso; omega))
    replace hO3 := hO3.chg k_28 (by first | (intro x h1 h2; have h3 : _ = _ := h2; exfalso; omega) | (intro b h1 h2 h3; have h4 : _ = _ := h3; (try dsimp only at h2); exfalso; omega))
    replace hb_4 := hn_28
    refine WL.nil (WX.one0 (v := undef) ⟨hd_18, ?_⟩)
    refine ⟨?_, trivial, trivial, trivial⟩
    refine DT.step [(31, _)] rfl ⟨rfl, trivial⟩ rfl (fun wq_29 kq_29 => ?_)
    replace hd_18 := hd_18.pure kq_29
    replace hO3 := hO3.pure kq_29
    replace hb_4 := hb_4.pure kq_29
    refine WL.extract rfl rfl rfl (WL.nil (WX.one ⟨hd_18, ?_⟩))
    refine ⟨?_, trivial, trivial⟩
    refine DT.step [(37, _)] rfl ⟨rfl, trivial⟩ rfl (fun wq_30 kq_30 => ?_)
    replace hd_18 := hd_18.pure kq_30
    replace hO3 := hO3.pure kq_30
    replace hb_4 := hb_4.pure kq_30
    refine WL.assign rfl rfl (WL.nil (WX.one ⟨hd_18, ?_⟩))
    refine ⟨?_, trivial⟩
    refine DT.step [(38, _)] rfl ⟨rfl, trivial⟩ rfl (fun wq_31 kq_31 => ?_)
    replace hd_18 := hd_18.pure kq_31
    replace hO3 := hO3.pure kq_31
    replace hb_4 := hb_4.pure kq_31
    refine WL.assign rfl rfl (WL.nil (WX.one ⟨hd_18, ?_⟩))
    refine DT.done (fun we_32 ke_32 => ?_) _
    replace hd_18 := hd_18.pure ke_32
    replace hO3 := hO3.pure ke_32
    replace hb_4 := hb_4.pure ke_32
    exact WX.cut (l3, g_4) ⟨rfl, rfl, rfl, rfl, rfl, rfl, rfl, rfl, rfl, trivial⟩ ⟨ha3, ⟨hlt34, hb_4.lt⟩, hb_4, hO3.ls.mono (fun _ _ => trivial), ((hL2s.pure kd_17).pure hd_18).mono (fun _ _ => trivial), (hb1s.pure kd_17).pure hd_18, (hb2s.pure kd_17).pure hd_18, (hb3s.pure kd_17).pure hd_18, (hss.pure kd_17).pure hd_18, (hsw.pure kd_17).pure hd_18⟩
    refine DT.step [(10, _), (36, _)] rfl ⟨rfl, rfl, trivial⟩ rfl (fun wq_26 kq_26 => ?_)
    replace hd_18 := hd_18.pure kq_26
    replace hO3 := hO3.pure kq_26
    replace hb_4 := hb_4.pure kq_26
    refine WL.stores Try.sizeOf33 hb_4 rfl rfl (by rfl) (by simp [Value.oneCell']) (by simp [Value.cells]) rfl ?_
    intro w_27 hs_27 hn_27 k_27
    replace hd_18 := hd_18.chg k_27 (by first | (intro x h1 h2; have h3 : _ = _ := h2; exfalso; omega) | (intro b h1 h2 h3; have h4 : _ = _ := h3; (try dsimp only at h2); exfalso; omega))
    replace hO3 := hO3.chg k_27 (by first | (intro x h1 h2; have h3 : _ = _ := h2; exfalso; omega) | (intro b h1 h2 h3; have h4 : _ = _ := h3; (try dsimp only at h2); exfalso; omega))
    replace hb_4 := hn_27
    refine WL.nil (WX.one0 (v := undef) ⟨hd_18, ?_⟩)
    refine ⟨?_, ?_, trivial, trivial, trivial⟩
    refine DT.step [(31, _)] rfl ⟨rfl, trivial⟩ rfl (fun wq_28 kq_28 => ?_)
    replace hd_18 := hd_18.pure kq_28
    replace hO3 := hO3.pure kq_28
    replace hb_4 := hb_4.pure kq_28
    refine WL.extract rfl rfl rfl (WL.nil (WX.one ⟨hd_18, ?_⟩))
    refine ⟨?_, ?_, trivial, trivial⟩
    refine DT.step [(31, _)] rfl ⟨rfl, trivial⟩ rfl (fun wq_29 kq_29 => ?_)
    replace hd_18 := hd_18.pure kq_29
    replace hO3 := hO3.pure kq_29
    replace hb_4 := hb_4.pure kq_29
    refine WL.extract rfl rfl rfl (WL.nil (WX.one ⟨hd_18, ?_⟩))
    refine ⟨?_, trivial, trivial⟩
    refine DT.step [(37, _)] rfl ⟨rfl, trivial⟩ rfl (fun wq_30 kq_30 => ?_)
    replace hd_18 := hd_18.pure kq_30
    replace hO3 := hO3.pure kq_30
    replace hb_4 := hb_4.pure kq_30
    refine WL.assign rfl rfl (WL.nil (WX.one ⟨hd_18, ?_⟩))
    refine ⟨?_, trivial⟩
    refine DT.step [(38, _)] rfl ⟨rfl, trivial⟩ rfl (fun wq_31 kq_31 => ?_)
    replace hd_18 := hd_18.pure kq_31
    replace hO3 := hO3.pure kq_31
    replace hb_4 := hb_4.pure kq_31
    refine WL.assign rfl rfl (WL.nil (WX.one ⟨hd_18, ?_⟩))
    refine DT.done (fun we_32 ke_32 => ?_) _
    replace hd_18 := hd_18.pure ke_32
    replace hO3 := hO3.pure ke_32
    replace hb_4 := hb_4.pure ke_32
    exact WX.cut (l3, g_4) ⟨rfl, rfl, rfl, rfl, rfl, rfl, rfl, rfl, rfl, trivial⟩ ⟨ha3, ⟨hlt34, hb_4.lt⟩, hb_4, hO3.ls.mono (fun _ _ => trivial), ((hL2s.pure kd_17).pure hd_18).mono (fun _ _ => trivial), (hb1s.pure kd_17).pure hd_18, (hb2s.pure kd_17).pure hd_18, (hb3s.pure kd_17).pure hd_18, (hss.pure kd_17).pure hd_18, (hsw.pure kd_17).pure hd_18⟩
    refine DT.step [(37, _)] rfl ⟨rfl, trivial⟩ rfl (fun wq_29 kq_29 => ?_)
    replace hd_18 := hd_18.pure kq_29
    replace hO3 := hO3.pure kq_29
    replace hb_4 := hb_4.pure kq_29
    refine WL.assign rfl rfl (WL.nil (WX.one ⟨hd_18, ?_⟩))
    refine ⟨?_, trivial, trivial⟩
    refine DT.step [(31, _)] rfl ⟨rfl, trivial⟩ rfl (fun wq_30 kq_30 => ?_)
    replace hd_18 := hd_18.pure kq_30
    replace hO3 := hO3.pure kq_30
    replace hb_4 := hb_4.pure kq_30
    refine WL.extract rfl rfl rfl (WL.nil (WX.one ⟨hd_18, ?_⟩))
    refine ⟨?_, trivial⟩
    refine DT.step [(38, _)] rfl ⟨rfl, trivial⟩ rfl (fun wq_31 kq_31 => ?_)
    replace hd_18 := hd_18.pure kq_31
    replace hO3 := hO3.pure kq_31
    replace hb_4 := hb_4.pure kq_31
    refine WL.assign rfl rfl (WL.nil (WX.one ⟨hd_18, ?_⟩))
    refine DT.done (fun we_32 ke_32 => ?_) _
    replace hd_18 := hd_18.pure ke_32
    replace hO3 := hO3.pure ke_32
    replace hb_4 := hb_4.pure ke_32
    exact WX.cut (l3, g_4) ⟨rfl, rfl, rfl, rfl, rfl, rfl, rfl, rfl, rfl, trivial⟩ ⟨ha3, ⟨hlt34, hb_4.lt⟩, hb_4, hO3.ls.mono (fun _ _ => trivial), ((hL2s.pure kd_17).pure hd_18).mono (fun _ _ => trivial), (hb1s.pure kd_17).pure hd_18, (hb2s.pure kd_17).pure hd_18, (hb3s.pure kd_17).pure hd_18, (hss.pure kd_17).pure hd_18, (hsw.pure kd_17).pure hd_18⟩
    refine DT.step [(31, _)] rfl ⟨rfl, trivial⟩ rfl (fun wq_28 kq_28 => ?_)
    replace hd_18 := hd_18.pure kq_28
    replace hO3 := hO3.pure kq_28
    replace hb_4 := hb_4.pure kq_28
    refine WL.extract rfl rfl rfl (WL.nil (WX.one ⟨hd_18, ?_⟩))
    refine ⟨?_, trivial, trivial, trivial⟩
    refine DT.step [(31, _)] rfl ⟨rfl, trivial⟩ rfl (fun wq_29 kq_29 => ?_)
    replace hd_18 := hd_18.pure kq_29
    replace hO3 := hO3.pure kq_29
    replace hb_4 := hb_4.pure kq_29
    refine WL.extract rfl rfl rfl (WL.nil (WX.one ⟨hd_18, ?_⟩))
    refine ⟨?_, trivial, trivial⟩
    refine DT.step [(37, _)] rfl ⟨rfl, trivial⟩ rfl (fun wq_30 kq_30 => ?_)
    replace hd_18 := hd_18.pure kq_30
    replace hO3 := hO3.pure kq_30
    replace hb_4 := hb_4.pure kq_30
    refine WL.assign rfl rfl (WL.nil (WX.one ⟨hd_18, ?_⟩))
    refine ⟨?_, trivial⟩
    refine DT.step [(38, _)] rfl ⟨rfl, trivial⟩ rfl (fun wq_31 kq_31 => ?_)
    replace hd_18 := hd_18.pure kq_31
    replace hO3 := hO3.pure kq_31
    replace hb_4 := hb_4.pure kq_31
    refine WL.assign rfl rfl (WL.nil (WX.one ⟨hd_18, ?_⟩))
    refine DT.done (fun we_32 ke_32 => ?_) _
    replace hd_18 := hd_18.pure ke_32
    replace hO3 := hO3.pure ke_32
    replace hb_4 := hb_4.pure ke_32
    exact WX.cut (l3, g_4) ⟨rfl, rfl, rfl, rfl, rfl, rfl, rfl, rfl, rfl, trivial⟩ ⟨ha3, ⟨hlt34, hb_4.lt⟩, hb_4, hO3.ls.mono (fun _ _ => trivial), ((hL2s.pure kd_17).pure hd_18).mono (fun _ _ => trivial), (hb1s.pure kd_17).pure hd_18, (hb2s.pure kd_17).pure hd_18, (hb3s.pure kd_17).pure hd_18, (hss.pure kd_17).pure hd_18, (hsw.pure kd_17).pure hd_18⟩
    refine DT.step [(31, _)] rfl ⟨rfl, trivial⟩ rfl (fun wq_24 kq_24 => ?_)
    replace hd_18 := hd_18.pure kq_24
    replace hO3 := hO3.pure kq_24
    refine WL.extract rfl rfl rfl (WL.nil (WX.one ⟨hd_18, ?_⟩))
    refine ⟨?_, ?_, ?_, trivial, trivial, trivial, trivial⟩
    refine DT.step [(31, _)] rfl ⟨rfl, trivial⟩ rfl (fun wq_25 kq_25 => ?_)
    replace hd_18 := hd_18.pure kq_25
    replace hO3 := hO3.pure kq_25
    refine WL.extract rfl rfl rfl (WL.nil (WX.one ⟨hd_18, ?_⟩))
    refine ⟨?_, ?_, trivial, trivial, trivial, trivial⟩
    refine DT.step [(31, _)] rfl ⟨rfl, trivial⟩ rfl (fun wq_26 kq_26 => ?_)
    replace hd_18 := hd_18.pure kq_26
    replace hO3 := hO3.pure kq_26
    refine WL.extract rfl rfl rfl (WL.nil (WX.one ⟨hd_18, ?_⟩))
    refine ⟨?_, trivial, trivial, trivial, trivial⟩
    refine DT.step [] rfl trivial rfl (fun wq_27 kq_27 => ?_)
    replace hd_18 := hd_18.pure kq_27
    replace hO3 := hO3.pure kq_27
    try replace hO3 := hO3.lt
    have hsz17 := hd_18.size
    have hlt33 := Nat.lt_of_lt_of_le lg3 (Nat.le_trans kd_17.size hd_18.size)
    refine WL.alloc Try.zeroValue33 rfl ?_
    intro g_4 ws4 hge4 hlt4 hb_4 ks4
    have hlt34 : g_3 < g_4 := Nat.lt_of_lt_of_le hlt33 hge4
    have hge17 : wd_17.heap.size ≤ g_4 := Nat.le_trans hsz17 hge4
    clear hlt33 hsz17
    replace hd_18 := hd_18.pure ks4
    replace hO3 := hO3.pure ks4
    refine WL.nil (WX.one ⟨hd_18, ?_⟩)
    refine ⟨?_, trivial, trivial, trivial⟩
    refine DT.step [(10, _), (36, _)] rfl ⟨rfl, rfl, trivial⟩ rfl (fun wq_28 kq_28 => ?_)
    replace hd_18 := hd_18.pure kq_28
    replace hO3 := hO3.pure kq_28
    replace hb_4 := hb_4.pure kq_28
    refine WL.stores Try.sizeOf33 hb_4 rfl rfl (by rfl) (by simp [Value.oneCell']) (by simp [Value.cells]) rfl ?_
    intro w_29 hs_29 hn_29 k_29
    replace hd_18 := hd_18.chg k_29 (by first | (intro x h1 h2; have h3 : _ = _ := h2; exfalso; omega) | (intro b h1 h2 h3; have h4 : _ = _ := h3; (try dsimp only at h2); exfalso; omega))
    replace hO3 := hO3.chg k_29 (by first | (intro x h1 h2; have h3 : _ = _ := h2; exfalso; omega) | (intro b h1 h2 h3; have h4 : _ = _ := h3; (try dsimp only at h2); exfalso; omega))
    replace hb_4 := hn_29
    refine WL.nil (WX.one0 (v := undef) ⟨hd_18, ?_⟩)
    refine ⟨?_, trivial, trivial⟩
    refine DT.step [(37, _)] rfl ⟨rfl, trivial⟩ rfl (fun wq_30 kq_30 => ?_)
    replace hd_18 := hd_18.pure kq_30
    replace hO3 := hO3.pure kq_30
    replace hb_4 := hb_4.pure kq_30
    refine WL.assign rfl rfl (WL.nil (WX.one ⟨hd_18, ?_⟩))
    refine ⟨?_, trivial⟩
    refine DT.step [(38, _)] rfl ⟨rfl, trivial⟩ rfl (fun wq_31 kq_31 => ?_)
    replace hd_18 := hd_18.pure kq_31
    replace hO3 := hO3.pure kq_31
    replace hb_4 := hb_4.pure kq_31
    refine WL.assign rfl rfl (WL.nil (WX.one ⟨hd_18, ?_⟩))
    refine DT.done (fun we_32 ke_32 => ?_) _
    replace hd_18 := hd_18.pure ke_32
    replace hO3 := hO3.pure ke_32
    replace hb_4 := hb_4.pure ke_32
    exact WX.cut (l3, g_4) ⟨rfl, rfl, rfl, rfl, rfl, rfl, rfl, rfl, rfl, trivial⟩ ⟨ha3, ⟨hlt34, hb_4.lt⟩, hb_4, hO3.ls.mono (fun _ _ => trivial), ((hL2s.pure kd_17).pure hd_18).mono (fun _ _ => trivial), (hb1s.pure kd_17).pure hd_18, (hb2s.pure kd_17).pure hd_18, (hb3s.pure kd_17).pure hd_18, (hss.pure kd_17).pure hd_18, (hsw.pure kd_17).pure hd_18⟩
    refine DT.step [] rfl trivial rfl (fun wq_26 kq_26 => ?_)
    replace hd_18 := hd_18.pure kq_26
    replace hO3 := hO3.pure kq_26
    try replace hO3 := hO3.lt
    have hsz17 := hd_18.size
    have hlt33 := Nat.lt_of_lt_of_le lg3 (Nat.le_trans kd_17.size hd_18.size)
    refine WL.alloc Try.zeroValue33 rfl ?_
    intro g_4 ws4 hge4 hlt4 hb_4 ks4
    have hlt34 : g_3 < g_4 := Nat.lt_of_lt_of_le hlt33 hge4
    have hge17 : wd_17.heap.size ≤ g_4 := Nat.le_trans hsz17 hge4
    clear hlt33 hsz17
    replace hd_18 := hd_18.pure ks4
    replace hO3 := hO3.pure ks4
    refine WL.nil (WX.one ⟨hd_18, ?_⟩)
    refine ⟨?_, ?_, trivial, trivial, trivial⟩
    refine DT.step [(31, _)] rfl ⟨rfl, trivial⟩ rfl (fun wq_27 kq_27 => ?_)
    replace hd_18 := hd_18.pure kq_27
    replace hO3 := hO3.pure kq_27
    replace hb_4 := hb_4.pure kq_27
    refine WL.extract rfl rfl rfl (WL.nil (WX.one ⟨hd_18, ?_⟩))
    refine ⟨?_, trivial, trivial, trivial⟩
    refine DT.step [(10, _), (36, _)] rfl ⟨rfl, rfl, trivial⟩ rfl (fun wq_28 kq_28 => ?_)
    replace hd_18 := hd_18.pure kq_28
    replace hO3 := hO3.pure kq_28
    replace hb_4 := hb_4.pure kq_28
    refine WL.stores Try.sizeOf33 hb_4 rfl rfl (by rfl) (by simp [Value.oneCell']) (by simp [Value.cells]) rfl ?_
    intro w_29 hs_29 hn_29 k_29
    replace hd_18 := hd_18.chg k_29 (by first | (intro x h1 h2; have h3 : _ = _ := h2; exfalso; omega) | (intro b h1 h2 h3; have h4 : _ = _ := h3; (try dsimp only at h2); exfalso; omega))
    replace hO3 := hO3.chg k_29 (by first | (intro x h1 h2; have h3 : _ = _ := h2; exfalso; omega) | (intro b h1 h2 h3; have h4 : _ = _ := h3; (try dsimp only at h2); exfalso; omega))
    replace hb_4 := hn_29
    refine WL.nil (WX.one0 (v := undef) ⟨hd_18, ?_⟩)
    refine ⟨?_, trivial, trivial⟩
    refine DT.step [(37, _)] rfl ⟨rfl, trivial⟩ rfl (fun wq_30 kq_30 => ?_)
    replace hd_18 := hd_18.pure kq_30
    replace hO3 := hO3.pure kq_30
    replace hb_4 := hb_4.pure kq_30
    refine WL.assign rfl rfl (WL.nil (WX.one ⟨hd_18, ?_⟩))
    refine ⟨?_, trivial⟩
    refine DT.step [(38, _)] rfl ⟨rfl, trivial⟩ rfl (fun wq_31 kq_31 => ?_)
    replace hd_18 := hd_18.pure kq_31
    replace hO3 := hO3.pure kq_31
    replace hb_4 := hb_4.pure kq_31
    refine WL.assign rfl rfl (WL.nil (WX.one ⟨hd_18, ?_⟩))
    refine DT.done (fun we_32 ke_32 => ?_) _
    replace hd_18 := hd_18.pure ke_32
    replace hO3 := hO3.pure ke_32
    replace hb_4 := hb_4.pure ke_32
    exact WX.cut (l3, g_4) ⟨rfl, rfl, rfl, rfl, rfl, rfl, rfl, rfl, rfl, trivial⟩ ⟨ha3, ⟨hlt34, hb_4.lt⟩, hb_4, hO3.ls.mono (fun _ _ => trivial), ((hL2s.pure kd_17).pure hd_18).mono (fun _ _ => trivial), (hb1s.pure kd_17).pure hd_18, (hb2s.pure kd_17).pure hd_18, (hb3s.pure kd_17).pure hd_18, (hss.pure kd_17).pure hd_18, (hsw.pure kd_17).pure hd_18⟩
    refine DT.step [(10, _), (36, _)] rfl ⟨rfl, rfl, trivial⟩ rfl (fun wq_27 kq_27 => ?_)
    replace hd_18 := hd_18.pure kq_27
    replace hO3 := hO3.pure kq_27
    replace hb_4 := hb_4.pure kq_27
    refine WL.stores Try.sizeOf33 hb_4 rfl rfl (by rfl) (by simp [Value.oneCell']) (by simp [Value.cells]) rfl ?_
    intro w_28 hs_28 hn_28 k_28
    replace hd_18 := hd_18.chg k_28 (by first | (intro x h1 h2; have h3 : _ = _ := h2; exfalso; omega) | (intro b h1 h2 h3; have h4 : _ = _ := h3; (try dsimp only at h2); exfalso; omega))
    replace hO3 := hO3.chg k_28 (by first | (intro x h1 h2; have h3 : _ = _ := h2; exfalso; omega) | (intro b h1 h2 h3; have h4 : _ = _ := h3; (try dsimp only at h2); exfalso; omega))
    replace hb_4 := hn_28
    refine WL.nil (WX.one0 (v := undef) ⟨hd_18, ?_⟩)
    refine ⟨?_, ?_, trivial, trivial⟩
    refine DT.step [(31, _)] rfl ⟨rfl, trivial⟩ rfl (fun wq_29 kq_29 => ?_)
    replace hd_18 := hd_18.pure kq_29
    replace hO3 := hO3.pure kq_29
    replace hb_4 := hb_4.pure kq_29
    refine WL.extract rfl rfl rfl (WL.nil (WX.one ⟨hd_18, ?_⟩))
    refine ⟨?_, trivial, trivial⟩
    refine DT.step [(37, _)] rfl ⟨rfl, trivial⟩ rfl (fun wq_30 kq_30 => ?_)
    replace hd_18 := hd_18.pure kq_30
    replace hO3 := hO3.pure kq_30
    replace hb_4 := hb_4.pure kq_30
    refine WL.assign rfl rfl (WL.nil (WX.one ⟨hd_18, ?_⟩))
    refine ⟨?_, trivial⟩
    refine DT.step [(38, _)] rfl ⟨rfl, trivial⟩ rfl (fun wq_31 kq_31 => ?_)
    replace hd_18 := hd_18.pure kq_31
    replace hO3 := hO3.pure kq_31
    replace hb_4 := hb_4.pure kq_31
    refine WL.assign rfl rfl (WL.nil (WX.one ⟨hd_18, ?_⟩))
    refine DT.done (fun we_32 ke_32 => ?_) _
    replace hd_18 := hd_18.pure ke_32
    replace hO3 := hO3.pure ke_32
    replace hb_4 := hb_4.pure ke_32
    exact WX.cut (l3, g_4) ⟨rfl, rfl, rfl, rfl, rfl, rfl, rfl, rfl, rfl, trivial⟩ ⟨ha3, ⟨hlt34, hb_4.lt⟩, hb_4, hO3.ls.mono (fun _ _ => trivial), ((hL2s.pure kd_17).pure hd_18).mono (fun _ _ => trivial), (hb1s.pure kd_17).pure hd_18, (hb2s.pure kd_17).pure hd_18, (hb3s.pure kd_17).pure hd_18, (hss.pure kd_17).pure hd_18, (hsw.pure kd_17).pure hd_18⟩
    refine DT.step [(37, _)] rfl ⟨rfl, trivial⟩ rfl (fun wq_29 kq_29 => ?_)
    replace hd_18 := hd_18.pure kq_29
    replace hO3 := hO3.pure kq_29
    replace hb_4 := hb_4.pure kq_29
    refine WL.assign rfl rfl (WL.nil (WX.one ⟨hd_18, ?_⟩))
    refine ⟨?_, trivial, trivial⟩
    refine DT.step [(31, _)] rfl ⟨rfl, trivial⟩ rfl (fun wq_30 kq_30 => ?_)
    replace hd_18 := hd_18.pure kq_30
    replace hO3 := hO3.pure kq_30
    replace hb_4 := hb_4.pure kq_30
    refine WL.extract rfl rfl rfl (WL.nil (WX.one ⟨hd_18, ?_⟩))
    refine ⟨?_, trivial⟩
    refine DT.step [(38, _)] rfl ⟨rfl, trivial⟩ rfl (fun wq_31 kq_31 => ?_)
    replace hd_18 := hd_18.pure kq_31
    replace hO3 := hO3.pure kq_31
    replace hb_4 := hb_4.pure kq_31
    refine WL.assign rfl rfl (WL.nil (WX.one ⟨hd_18, ?_⟩))
    refine DT.done (fun we_32 ke_32 => ?_) _
    replace hd_18 := hd_18.pure ke_32
    replace hO3 := hO3.pure ke_32
    replace hb_4 := hb_4.pure ke_32
    exact WX.cut (l3, g_4) ⟨rfl, rfl, rfl, rfl, rfl, rfl, rfl, rfl, rfl, trivial⟩ ⟨ha3, ⟨hlt34, hb_4.lt⟩, hb_4, hO3.ls.mono (fun _ _ => trivial), ((hL2s.pure kd_17).pure hd_18).mono (fun _ _ => trivial), (hb1s.pure kd_17).pure hd_18, (hb2s.pure kd_17).pure hd_18, (hb3s.pure kd_17).pure hd_18, (hss.pure kd_17).pure hd_18, (hsw.pure kd_17).pure hd_18⟩
    refine DT.step [(31, _)] rfl ⟨rfl, trivial⟩ rfl (fun wq_25 kq_25 => ?_)
    replace hd_18 := hd_18.pure kq_25
    replace hO3 := hO3.pure kq_25
    refine WL.extract rfl rfl rfl (WL.nil (WX.one ⟨hd_18, ?_⟩))
    refine ⟨?_, ?_, trivial, trivial, trivial, trivial⟩
    refine DT.step [(31, _)] rfl ⟨rfl, trivial⟩ rfl (fun wq_26 kq_26 => ?_)
    replace hd_18 := hd_18.pure kq_26
    replace hO3 := hO3.pure kq_26
    refine WL.extract rfl rfl rfl (WL.nil (WX.one ⟨hd_18, ?_⟩))
    refine ⟨?_, trivial, trivial, trivial, trivial⟩
    refine DT.step [] rfl trivial rfl (fun wq_27 kq_27 => ?_)
    replace hd_18 := hd_18.pure kq_27
    replace hO3 := hO3.pure kq_27
    try replace hO3 := hO3.lt
    have hsz17 := hd_18.size
    have hlt33 := Nat.lt_of_lt_of_le lg3 (Nat.le_trans kd_17.size hd_18.size)
    refine WL.alloc Try.zeroValue33 rfl ?_
    intro g_4 ws4 hge4 hlt4 hb_4 ks4
    have hlt34 : g_3 < g_4 := Nat.lt_of_lt_of_le hlt33 hge4
    have hge17 : wd_17.heap.size ≤ g_4 := Nat.le_trans hsz17 hge4
    clear hlt33 hsz17
    replace hd_18 := hd_18.pure ks4
    replace hO3 := hO3.pure ks4
    refine WL.nil (WX.one ⟨hd_18, ?_⟩)
    refine ⟨?_, trivial, trivial, trivial⟩
    refine DT.step [(10, _), (36, _)] rfl ⟨rfl, rfl, trivial⟩ rfl (fun wq_28 kq_28 => ?_)
    replace hd_18 := hd_18.pure kq_28
    replace hO3 := hO3.pure kq_28
    replace hb_4 := hb_4.pure kq_28
    refine WL.stores Try.sizeOf33 hb_4 rfl rfl (by rfl) (by simp [Value.oneCell']) (by simp [Value.cells]) rfl ?_
    intro w_29 hs_29 hn_29 k_29
    replace hd_18 := hd_18.chg k_29 (by first | (intro x h1 h2; have h3 : _ = _ := h2; exfalso; omega) | (intro b h1 h2 h3; have h4 : _ = _ := h3; (try dsimp only at h2); exfalso; omega))
    replace hO3 := hO3.chg k_29 (by first | (intro x h1 h2; have h3 : _ = _ := h2; exfalso; omega) | (intro b h1 h2 h3; have h4 : _ = _ := h3; (try dsimp only at h2); exfalso; omega))
    replace hb_4 := hn_29
    refine WL.nil (WX.one0 (v := undef) ⟨hd_18, ?_⟩)
    refine ⟨?_, trivial, trivial⟩
    refine DT.step [(37, _)] rfl ⟨rfl, trivial⟩ rfl (fun wq_30 kq_30 => ?_)
    replace hd_18 := hd_18.pure kq_30
    replace hO3 := hO3.pure kq_30
    replace hb_4 := hb_4.pure kq_30
    refine WL.assign rfl rfl (WL.nil (WX.one ⟨hd_18, ?_⟩))
    refine ⟨?_, trivial⟩
    refine DT.step [(38, _)] rfl ⟨rfl, trivial⟩ rfl (fun wq_31 kq_31 => ?_)
    replace hd_18 := hd_18.pure kq_31
    replace hO3 := hO3.pure kq_31
    replace hb_4 := hb_4.pure kq_31
    refine WL.assign rfl rfl (WL.nil (WX.one ⟨hd_18, ?_⟩))
    refine DT.done (fun we_32 ke_32 => ?_) _
    replace hd_18 := hd_18.pure ke_32
    replace hO3 := hO3.pure ke_32
    replace hb_4 := hb_4.pure ke_32
    exact WX.cut (l3, g_4) ⟨rfl, rfl, rfl, rfl, rfl, rfl, rfl, rfl, rfl, trivial⟩ ⟨ha3, ⟨hlt34, hb_4.lt⟩, hb_4, hO3.ls.mono (fun _ _ => trivial), ((hL2s.pure kd_17).pure hd_18).mono (fun _ _ => trivial), (hb1s.pure kd_17).pure hd_18, (hb2s.pure kd_17).pure hd_18, (hb3s.pure kd_17).pure hd_18, (hss.pure kd_17).pure hd_18, (hsw.pure kd_17).pure hd_18⟩
    refine DT.step [] rfl trivial rfl (fun wq_26 kq_26 => ?_)
    replace hd_18 := hd_18.pure kq_26
    replace hO3 := hO3.pure kq_26
    try replace hO3 := hO3.lt
    have hsz17 := hd_18.size
    have hlt33 := Nat.lt_of_lt_of_le lg3 (Nat.le_trans kd_17.size hd_18.size)
    refine WL.alloc Try.zeroValue33 rfl ?_
    intro g_4 ws4 hge4 hlt4 hb_4 ks4
    have hlt34 : g_3 < g_4 := Nat.lt_of_lt_of_le hlt33 hge4
    have hge17 : wd_17.heap.size ≤ g_4 := Nat.le_trans hsz17 hge4
    clear hlt33 hsz17
    replace hd_18 := hd_18.pure ks4
    replace hO3 := hO3.pure ks4
    refine WL.nil (WX.one ⟨hd_18, ?_⟩)
    refine ⟨?_, trivial, trivial, trivial, trivial⟩
    refine DT.step [(31, _)] rfl ⟨rfl, trivial⟩ rfl (fun wq_27 kq_27 => ?_)
    replace hd_18 := hd_18.pure kq_27
    replace hO3 := hO3.pure kq_27
    replace hb_4 := hb_4.pure kq_27
    refine WL.extract rfl rfl rfl (WL.nil (WX.one ⟨hd_18, ?_⟩))
    refine ⟨?_, trivial, trivial, trivial⟩
    refine DT.step [(10, _), (36, _)] rfl ⟨rfl, rfl, trivial⟩ rfl (fun wq_28 kq_28 => ?_)
    replace hd_18 := hd_18.pure kq_28
    replace hO3 := hO3.pure kq_28
    replace hb_4 := hb_4.pure kq_28
    refine WL.stores Try.sizeOf33 hb_4 rfl rfl (by rfl) (by simp [Value.oneCell']) (by simp [Value.cells]) rfl ?_
    intro w_29 hs_29 hn_29 k_29
    replace hd_18 := hd_18.chg k_29 (by first | (intro x h1 h2; have h3 : _ = _ := h2; exfalso; omega) | (intro b h1 h2 h3; have h4 : _ = _ := h3; (try dsimp only at h2); exfalso; omega))
    replace hO3 := hO3.chg k_29 (by first | (intro x h1 h2; have h3 : _ = _ := h2; exfalso; omega) | (intro b h1 h2 h3; have h4 : _ = _ := h3; (try dsimp only at h2); exfalso; omega))
    replace hb_4 := hn_29
    refine WL.nil (WX.one0 (v := undef) ⟨hd_18, ?_⟩)
    refine ⟨?_, trivial, trivial⟩
    refine DT.step [(37, _)] rfl ⟨rfl, trivial⟩ rfl (fun wq_30 kq_30 => ?_)
    replace hd_18 := hd_18.pure kq_30
    replace hO3 := hO3.pure kq_30
    replace hb_4 := hb_4.pure kq_30
    refine WL.assign rfl rfl (WL.nil (WX.one ⟨hd_18, ?_⟩))
    refine ⟨?_, trivial⟩
    refine DT.step [(38, _)] rfl ⟨rfl, trivial⟩ rfl (fun wq_31 kq_31 => ?_)
    replace hd_18 := hd_18.pure kq_31
    replace hO3 := hO3.pure kq_31
    replace hb_4 := hb_4.pure kq_31
    refine WL.assign rfl rfl (WL.nil (WX.one ⟨hd_18, ?_⟩))
    refine DT.done (fun we_32 ke_32 => ?_) _
    replace hd_18 := hd_18.pure ke_32
    replace hO3 := hO3.pure ke_32
    replace hb_4 := hb_4.pure ke_32
    exact WX.cut (l3, g_4) ⟨rfl, rfl, rfl, rfl, rfl, rfl, rfl, rfl, rfl, trivial⟩ ⟨ha3, ⟨hlt34, hb_4.lt⟩, hb_4, hO3.ls.mono (fun _ _ => trivial), ((hL2s.pure kd_17).pure hd_18).mono (fun _ _ => trivial), (hb1s.pure kd_17).pure hd_18, (hb2s.pure kd_17).pure hd_18, (hb3s.pure kd_17).pure hd_18, (hss.pure kd_17).pure hd_18, (hsw.pure kd_17).pure hd_18⟩
    refine DT.step [] rfl trivial rfl (fun wq_25 kq_25 => ?_)
    replace hd_18 := hd_18.pure kq_25
    replace hO3 := hO3.pure kq_25
    try replace hO3 := hO3.lt
    have hsz17 := hd_18.size
    have hlt33 := Nat.lt_of_lt_of_le lg3 (Nat.le_trans kd_17.size hd_18.size)
    refine WL.alloc Try.zeroValue33 rfl ?_
    intro g_4 ws4 hge4 hlt4 hb_4 ks4
    have hlt34 : g_3 < g_4 := Nat.lt_of_lt_of_le hlt33 hge4
    have hge17 : wd_17.heap.size ≤ g_4 := Nat.le_trans hsz17 hge4
    clear hlt33 hsz17
    replace hd_18 := hd_18.pure ks4
    replace hO3 := hO3.pure ks4
    refine WL.nil (WX.one ⟨hd_18, ?_⟩)
    refine ⟨?_, ?_, trivial, trivial, trivial, trivial⟩
    refine DT.step [(31, _)] rfl ⟨rfl, trivial⟩ rfl (fun wq_26 kq_26 => ?_)
    replace hd_18 := hd_18.pure kq_26
    replace hO3 := hO3.pure kq_26
    replace hb_4 := hb_4.pure kq_26
    refine WL.extract rfl rfl rfl (WL.nil (WX.one ⟨hd_18, ?_⟩))
    refine ⟨?_, ?_, trivial, trivial, trivial⟩
    refine DT.step [(31, _)] rfl ⟨rfl, trivial⟩ rfl (fun wq_27 kq_27 => ?_)
    replace hd_18 := hd_18.pure kq_27
    replace hO3 := hO3.pure kq_27
    replace hb_4 := hb_4.pure kq_27
    refine WL.extract rfl rfl rfl (WL.nil (WX.one ⟨hd_18, ?_⟩))
    refine ⟨?_, trivial, trivial, trivial⟩
    refine DT.step [(10, _), (36, _)] rfl ⟨rfl, rfl, trivial⟩ rfl (fun wq_28 kq_28 => ?_)
    replace hd_18 := hd_18.pure kq_28
    replace hO3 := hO3.pure kq_28
    replace hb_4 := hb_4.pure kq_28
    refine WL.stores Try.sizeOf33 hb_4 rfl rfl (by rfl) (by simp [Value.oneCell']) (by simp [Value.cells]) rfl ?_
    intro w_29 hs_29 hn_29 k_29
    replace hd_18 := hd_18.chg k_29 (by first | (intro x h1 h2; have h3 : _ = _ := h2; exfalso; omega) | (intro b h1 h2 h3; have h4 : _ = _ := h3; (try dsimp only at h2); exfalso; omega))
    replace hO3 := hO3.chg k_29 (by first | (intro x h1 h2; have h3 : _ = _ := h2; exfalso; omega) | (intro b h1 h2 h3; have h4 : _ = _ := h3; (try dsimp only at h2); exfalso; omega))
    replace hb_4 := hn_29
    refine WL.nil (WX.one0 (v := undef) ⟨hd_18, ?_⟩)
    refine ⟨?_, trivial, trivial⟩
    refine DT.step [(37, _)] rfl ⟨rfl, trivial⟩ rfl (fun wq_30 kq_30 => ?_)
    replace hd_18 := hd_18.pure kq_30
    replace hO3 := hO3.pure kq_30
    replace hb_4 := hb_4.pure kq_30
    refine WL.assign rfl rfl (WL.nil (WX.one ⟨hd_18, ?_⟩))
    refine ⟨?_, trivial⟩
    refine DT.step [(38, _)] rfl ⟨rfl, trivial⟩ rfl (fun wq_31 kq_31 => ?_)
    replace hd_18 := hd_18.pure kq_31
    replace hO3 := hO3.pure kq_31
    replace hb_4 := hb_4.pure kq_31
    refine WL.assign rfl rfl (WL.nil (WX.one ⟨hd_18, ?_⟩))
    refine DT.done (fun we_32 ke_32 => ?_) _
    replace hd_18 := hd_18.pure ke_32
    replace hO3 := hO3.pure ke_32
    replace hb_4 := hb_4.pure ke_32
    exact WX.cut (l3, g_4) ⟨rfl, rfl, rfl, rfl, rfl, rfl, rfl, rfl, rfl, trivial⟩ ⟨ha3, ⟨hlt34, hb_4.lt⟩, hb_4, hO3.ls.mono (fun _ _ => trivial), ((hL2s.pure kd_17).pure hd_18).mono (fun _ _ => trivial), (hb1s.pure kd_17).pure hd_18, (hb2s.pure kd_17).pure hd_18, (hb3s.pure kd_17).pure hd_18, (hss.pure kd_17).pure hd_18, (hsw.pure kd_17).pure hd_18⟩
    refine DT.step [(10, _), (36, _)] rfl ⟨rfl, rfl, trivial⟩ rfl (fun wq_27 kq_27 => ?_)
    replace hd_18 := hd_18.pure kq_27
    replace hO3 := hO3.pure kq_27
    replace hb_4 := hb_4.pure kq_27
    refine WL.stores Try.sizeOf33 hb_4 rfl rfl (by rfl) (by simp [Value.oneCell']) (by simp [Value.cells]) rfl ?_
    intro w_28 hs_28 hn_28 k_28
    replace hd_18 := hd_18.chg k_28 (by first | (intro x h1 h2; have h3 : _ = _ := h2; exfalso; omega) | (intro b h1 h2 h3; have h4 : _ = _ := h3; (try dsimp only at h2); exfalso; omega))
    replace hO3 := hO3.chg k_28 (by first | (intro x h1 h2; have h3 : _ = _ := h2; exfalso; omega) | (intro b h1 h2 h3; have h4 : _ = _ := h3; (try dsimp only at h2); exfalso; omega))
    replace hb_4 := hn_28
    refine WL.nil (WX.one0 (v := undef) ⟨hd_18, ?_⟩)
    refine ⟨?_, ?_, trivial, trivial⟩
    refine DT.step [(31, _)] rfl ⟨rfl, trivial⟩ rfl (fun wq_29 kq_29 => ?_)
    replace hd_18 := hd_18.pure kq_29
    replace hO3 := hO3.pure kq_29
    replace hb_4 := hb_4.pure kq_29
    refine WL.extract rfl rfl rfl (WL.nil (WX.one ⟨hd_18, ?_⟩))
    refine ⟨?_, trivial, trivial⟩
    refine DT.step [(37, _)] rfl ⟨rfl, trivial⟩ rfl (fun wq_30 kq_30 => ?_)
    replace hd_18 := hd_18.pure kq_30
    replace hO3 := hO3.pure kq_30
    replace hb_4 := hb_4.pure kq_30
    refine WL.assign rfl rfl (WL.nil (WX.one ⟨hd_18, ?_⟩))
    refine ⟨?_, trivial⟩
    refine DT.step [(38, _)] rfl ⟨rfl, trivial⟩ rfl (fun wq_31 kq_31 => ?_)
    replace hd_18 := hd_18.pure kq_31
    replace hO3 := hO3.pure kq_31
    replace hb_4 := hb_4.pure kq_31
    refine WL.assign rfl rfl (WL.nil (WX.one ⟨hd_18, ?_⟩))
    refine DT.done (fun we_32 ke_32 => ?_) _
    replace hd_18 := hd_18.pure ke_32
    replace hO3 := hO3.pure ke_32
    replace hb_4 := hb_4.pure ke_32
    exact WX.cut (l3, g_4) ⟨rfl, rfl, rfl, rfl, rfl, rfl, rfl, rfl, rfl, trivial⟩ ⟨ha3, ⟨hlt34, hb_4.lt⟩, hb_4, hO3.ls.mono (fun _ _ => trivial), ((hL2s.pure kd_17).pure hd_18).mono (fun _ _ => trivial), (hb1s.pure kd_17).pure hd_18, (hb2s.pure kd_17).pure hd_18, (hb3s.pure kd_17).pure hd_18, (hss.pure kd_17).pure hd_18, (hsw.pure kd_17).pure hd_18⟩
    refine DT.step [(37, _)] rfl ⟨rfl, trivial⟩ rfl (fun wq_29 kq_29 => ?_)
    replace hd_18 := hd_18.pure kq_29
    replace hO3 := hO3.pure kq_29
    replace hb_4 := hb_4.pure kq_29
    refine WL.assign rfl rfl (WL.nil (WX.one ⟨hd_18, ?_⟩))
    refine ⟨?_, trivial, trivial⟩
    refine DT.step [(31, _)] rfl ⟨rfl, trivial⟩ rfl (fun wq_30 kq_30 => ?_)
    replace hd_18 := hd_18.pure kq_30
    replace hO3 := hO3.pure kq_30
    replace hb_4 := hb_4.pure kq_30
    refine WL.extract rfl rfl rfl (WL.nil (WX.one ⟨hd_18, ?_⟩))
    refine ⟨?_, trivial⟩
    refine DT.step [(38, _)] rfl ⟨rfl, trivial⟩ rfl (fun wq_31 kq_31 => ?_)
    replace hd_18 := hd_18.pure kq_31
    replace hO3 := hO3.pure kq_31
    replace hb_4 := hb_4.pure kq_31
    refine WL.assign rfl rfl (WL.nil (WX.one ⟨hd_18, ?_⟩))
    refine DT.done (fun we_32 ke_32 => ?_) _
    replace hd_18 := hd_18.pure ke_32
    replace hO3 := hO3.pure ke_32
    replace hb_4 := hb_4.pure ke_32
    exact WX.cut (l3, g_4) ⟨rfl, rfl, rfl, rfl, rfl, rfl, rfl, rfl, rfl, trivial⟩ ⟨ha3, ⟨hlt34, hb_4.lt⟩, hb_4, hO3.ls.mono (fun _ _ => trivial), ((hL2s.pure kd_17).pure hd_18).mono (fun _ _ => trivial), (hb1s.pure kd_17).pure hd_18, (hb2s.pure kd_17).pure hd_18, (hb3s.pure kd_17).pure hd_18, (hss.pure kd_17).pure hd_18, (hsw.pure kd_17).pure hd_18⟩
    refine DT.step [(31, _)] rfl ⟨rfl, trivial⟩ rfl (fun wq_26 kq_26 => ?_)
    replace hd_18 := hd_18.pure kq_26
    replace hO3 := hO3.pure kq_26
    replace hb_4 := hb_4.pure kq_26
    refine WL.extract rfl rfl rfl (WL.nil (WX.one ⟨hd_18, ?_⟩))
    refine ⟨?_, trivial, trivial, trivial, trivial⟩
    refine DT.step [(31, _)] rfl ⟨rfl, trivial⟩ rfl (fun wq_27 kq_27 => ?_)
    replace hd_18 := hd_18.pure kq_27
    replace hO3 := hO3.pure kq_27
    replace hb_4 := hb_4.pure kq_27
    refine WL.extract rfl rfl rfl (WL.nil (WX.one ⟨hd_18, ?_⟩))
    refine ⟨?_, trivial, trivial, trivial⟩
    refine DT.step [(10, _), (36, _)] rfl ⟨rfl, rfl, trivial⟩ rfl (fun wq_28 kq_28 => ?_)
    replace hd_18 := hd_18.pure kq_28
    replace hO3 := hO3.pure kq_28
    replace hb_4 := hb_4.pure kq_28
    refine WL.stores Try.sizeOf33 hb_4 rfl rfl (by rfl) (by simp [Value.oneCell']) (by simp [Value.cells]) rfl ?_
    intro w_29 hs_29 hn_29 k_29
    replace hd_18 := hd_18.chg k_29 (by first | (intro x h1 h2; have h3 : _ = _ := h2; exfalso; omega) | (intro b h1 h2 h3; have h4 : _ = _ := h3; (try dsimp only at h2); exfalso; omega))
    replace hO3 := hO3.chg k_29 (by first | (intro x h1 h2; have h3 : _ = _ := h2; exfalso; omega) | (intro b h1 h2 h3; have h4 : _ = _ := h3; (try dsimp only at h2); exfalso; omega))
    replace hb_4 := hn_29
    refine WL.nil (WX.one0 (v := undef) ⟨hd_18, ?_⟩)
    refine ⟨?_, trivial, trivial⟩
    refine DT.step [(37, _)] rfl ⟨rfl, trivial⟩ rfl (fun wq_30 kq_30 => ?_)
    replace hd_18 := hd_18.pure kq_30
    replace hO3 := hO3.pure kq_30
    replace hb_4 := hb_4.pure kq_30
    refine WL.assign rfl rfl (WL.nil (WX.one ⟨hd_18, ?_⟩))
    refine ⟨?_, trivial⟩
    refine DT.step [(38, _)] rfl ⟨rfl, trivial⟩ rfl (fun wq_31 kq_31 => ?_)
    replace hd_18 := hd_18.pure kq_31
    replace hO3 := hO3.pure kq_31
    replace hb_4 := hb_4.pure kq_31
    refine WL.assign rfl rfl (WL.nil (WX.one ⟨hd_18, ?_⟩))
    refine DT.done (fun we_32 ke_32 => ?_) _
    replace hd_18 := hd_18.pure ke_32
    replace hO3 := hO3.pure ke_32
    replace hb_4 := hb_4.pure ke_32
    exact WX.cut (l3, g_4) ⟨rfl, rfl, rfl, rfl, rfl, rfl, rfl, rfl, rfl, trivial⟩ ⟨ha3, ⟨hlt34, hb_4.lt⟩, hb_4, hO3.ls.mono (fun _ _ => trivial), ((hL2s.pure kd_17).pure hd_18).mono (fun _ _ => trivial), (hb1s.pure kd_17).pure hd_18, (hb2s.pure kd_17).pure hd_18, (hb3s.pure kd_17).pure hd_18, (hss.pure kd_17).pure hd_18, (hsw.pure kd_17).pure hd_18⟩
    refine DT.step [(31, _)] rfl ⟨rfl, trivial⟩ rfl (fun wq_24 kq_24 => ?_)
    replace hd_18 := hd_18.pure kq_24
    replace hO3 := hO3.pure kq_24
    refine WL.extract rfl rfl rfl (WL.nil (WX.one ⟨hd_18, ?_⟩))
    refine ⟨?_, ?_, ?_, trivial, trivial, trivial, trivial⟩
    refine DT.step [(31, _)] rfl ⟨rfl, trivial⟩ rfl (fun wq_25 kq_25 => ?_)
    replace hd_18 := hd_18.pure kq_25
    replace hO3 := hO3.pure kq_25
    refine WL.extract rfl rfl rfl (WL.nil (WX.one ⟨hd_18, ?_⟩))
    refine ⟨?_, ?_, trivial, trivial, trivial, trivial⟩
    refine DT.step [(31, _)] rfl ⟨rfl, trivial⟩ rfl (fun wq_26 kq_26 => ?_)
    replace hd_18 := hd_18.pure kq_26
    replace hO3 := hO3.pure kq_26
    refine WL.extract rfl rfl rfl (WL.nil (WX.one ⟨hd_18, ?_⟩))
    refine ⟨?_, trivial, trivial, trivial, trivial⟩
    refine DT.step [] rfl trivial rfl (fun wq_27 kq_27 => ?_)
    replace hd_18 := hd_18.pure kq_27
    replace hO3 := hO3.pure kq_27
    try replace hO3 := hO3.lt
    have hsz17 := hd_18.size
    have hlt33 := Nat.lt_of_lt_of_le lg3 (Nat.le_trans kd_17.size hd_18.size)
    refine WL.alloc Try.zeroValue33 rfl ?_
    intro g_4 ws4 hge4 hlt4 hb_4 ks4
    have hlt34 : g_3 < g_4 := Nat.lt_of_lt_of_le hlt33 hge4
    have hge17 : wd_17.heap.size ≤ g_4 := Nat.le_trans hsz17 hge4
    clear hlt33 hsz17
    replace hd_18 := hd_18.pure ks4
    replace hO3 := hO3.pure ks4
    refine WL.nil (WX.one ⟨hd_18, ?_⟩)
    refine ⟨?_, trivial, trivial, trivial⟩
    refine DT.step [(10, _), (36, _)] rfl ⟨rfl, rfl, trivial⟩ rfl (fun wq_28 kq_28 => ?_)
    replace hd_18 := hd_18.pure kq_28
    replace hO3 := hO3.pure kq_28
    replace hb_4 := hb_4.pure kq_28
    refine WL.stores Try.sizeOf33 hb_4 rfl rfl (by rfl) (by simp [Value.oneCell']) (by simp [Value.cells]) rfl ?_
    intro w_29 hs_29 hn_29 k_29
    replace hd_18 := hd_18.chg k_29 (by first | (intro x h1 h2; have h3 : _ = _ := h2; exfalso; omega) | (intro b h1 h2 h3; have h4 : _ = _ := h3; (try dsimp only at h2); exfalso; omega))
    replace hO3 := hO3.chg k_29 (by first | (intro x h1 h2; have h3 : _ = _ := h2; exfalso; omega) | (intro b h1 h2 h3; have h4 : _ = _ := h3; (try dsimp only at h2); exfalso; omega))
    replace hb_4 := hn_29
    refine WL.nil (WX.one0 (v := undef) ⟨hd_18, ?_⟩)
    refine ⟨?_, trivial, trivial⟩
    refine DT.step [(37, _)] rfl ⟨rfl, trivial⟩ rfl (fun wq_30 kq_30 => ?_)
    replace hd_18 := hd_18.pure kq_30
    replace hO3 := hO3.pure kq_30
    replace hb_4 := hb_4.pure kq_30
    refine WL.assign rfl rfl (WL.nil (WX.one ⟨hd_18, ?_⟩))
    refine ⟨?_, trivial⟩
    refine DT.step [(38, _)] rfl ⟨rfl, trivial⟩ rfl (fun wq_31 kq_31 => ?_)
    replace hd_18 := hd_18.pure kq_31
    replace hO3 := hO3.pure kq_31
    replace hb_4 := hb_4.pure kq_31
    refine WL.assign rfl rfl (WL.nil (WX.one ⟨hd_18, ?_⟩))
    refine DT.done (fun we_32 ke_32 => ?_) _
    replace hd_18 := hd_18.pure ke_32
    replace hO3 := hO3.pure ke_32
    replace hb_4 := hb_4.pure ke_32
    exact WX.cut (l3, g_4) ⟨rfl, rfl, rfl, rfl, rfl, rfl, rfl, rfl, rfl, trivial⟩ ⟨ha3, ⟨hlt34, hb_4.lt⟩, hb_4, hO3.ls.mono (fun _ _ => trivial), ((hL2s.pure kd_17).pure hd_18).mono (fun _ _ => trivial), (hb1s.pure kd_17).pure hd_18, (hb2s.pure kd_17).pure hd_18, (hb3s.pure kd_17).pure hd_18, (hss.pure kd_17).pure hd_18, (hsw.pure kd_17).pure hd_18⟩
    refine DT.step [] rfl trivial rfl (fun wq_26 kq_26 => ?_)
    replace hd_18 := hd_18.pure kq_26
    replace hO3 := hO3.pure kq_26
    try replace hO3 := hO3.lt
    have hsz17 := hd_18.size
    have hlt33 := Nat.lt_of_lt_of_le lg3 (Nat.le_trans kd_17.size hd_18.size)
    refine WL.alloc Try.zeroValue33 rfl ?_
    intro g_4 ws4 hge4 hlt4 hb_4 ks4
    have hlt34 : g_3 < g_4 := Nat.lt_of_lt_of_le hlt33 hge4
    have hge17 : wd_17.heap.size ≤ g_4 := Nat.le_trans hsz17 hge4
    clear hlt33 hsz17
    replace hd_18 := hd_18.pure ks4
    replace hO3 := hO3.pure ks4
    refine WL.nil (WX.one ⟨hd_18, ?_⟩)
    refine ⟨?_, ?_, trivial, trivial, trivial⟩
    refine DT.step [(31, _)] rfl ⟨rfl, trivial⟩ rfl (fun wq_27 kq_27 => ?_)
    replace hd_18 := hd_18.pure kq_27
    replace hO3 := hO3.pure kq_27
    replace hb_4 := hb_4.pure kq_27
    refine WL.extract rfl rfl rfl (WL.nil (WX.one ⟨hd_18, ?_⟩))
    refine ⟨?_, trivial, trivial, trivial⟩
    refine DT.step [(10, _), (36, _)] rfl ⟨rfl, rfl, trivial⟩ rfl (fun wq_28 kq_28 => ?_)
    replace hd_18 := hd_18.pure kq_28
    replace hO3 := hO3.pure kq_28
    replace hb_4 := hb_4.pure kq_28
    refine WL.stores Try.sizeOf33 hb_4 rfl rfl (by rfl) (by simp [Value.oneCell']) (by simp [Value.cells]) rfl ?_
    intro w_29 hs_29 hn_29 k_29
    replace hd_18 := hd_18.chg k_29 (by first | (intro x h1 h2; have h3 : _ = _ := h2; exfalso; omega) | (intro b h1 h2 h3; have h4 : _ = _ := h3; (try dsimp only at h2); exfalso; omega))
    replace hO3 := hO3.chg k_29 (by first | (intro x h1 h2; have h3 : _ = _ := h2; exfalso; omega) | (intro b h1 h2 h3; have h4 : _ = _ := h3; (try dsimp only at h2); exfalso; omega))
    replace hb_4 := hn_29
    refine WL.nil (WX.one0 (v := undef) ⟨hd_18, ?_⟩)
    refine ⟨?_, trivial, trivial⟩
    refine DT.step [(37, _)] rfl ⟨rfl, trivial⟩ rfl (fun wq_30 kq_30 => ?_)
    replace hd_18 := hd_18.pure kq_30
    replace hO3 := hO3.pure kq_30
    replace hb_4 := hb_4.pure kq_30
    refine WL.assign rfl rfl (WL.nil (WX.one ⟨hd_18, ?_⟩))
    refine ⟨?_, trivial⟩
    refine DT.step [(38, _)] rfl ⟨rfl, trivial⟩ rfl (fun wq_31 kq_31 => ?_)
    replace hd_18 := hd_18.pure kq_31
    replace hO3 := hO3.pure kq_31
    replace hb_4 := hb_4.pure kq_31
    refine WL.assign rfl rfl (WL.nil (WX.one ⟨hd_18, ?_⟩))
    refine DT.done (fun we_32 ke_32 => ?_) _
    replace hd_18 := hd_18.pure ke_32
    replace hO3 := hO3.pure ke_32
    replace hb_4 := hb_4.pure ke_32
    exact WX.cut (l3, g_4) ⟨rfl, rfl, rfl, rfl, rfl, rfl, rfl, rfl, rfl, trivial⟩ ⟨ha3, ⟨hlt34, hb_4.lt⟩, hb_4, hO3.ls.mono (fun _ _ => trivial), ((hL2s.pure kd_17).pure hd_18).mono (fun _ _ => trivial), (hb1s.pure kd_17).pure hd_18, (hb2s.pure kd_17).pure hd_18, (hb3s.pure kd_17).pure hd_18, (hss.pure kd_17).pure hd_18, (hsw.pure kd_17).pure hd_18⟩
    refine DT.step [(10, _), (36, _)] rfl ⟨rfl, rfl, trivial⟩ rfl (fun wq_27 kq_27 => ?_)
    replace hd_18 := hd_18.pure kq_27
    replace hO3 := hO3.pure kq_27
    replace hb_4 := hb_4.pure kq_27
    refine WL.stores Try.sizeOf33 hb_4 rfl rfl (by rfl) (by simp [Value.oneCell']) (by simp [Value.cells]) rfl ?_
    intro w_28 hs_28 hn_28 k_28
    replace hd_18 := hd_18.chg k_28 (by first | (intro x h1 h2; have h3 : _ = _ := h2; exfalso; omega) | (intro b h1 h2 h3; have h4 : _ = _ := h3; (try dsimp only at h2); exfalso; omega))
    replace hO3 := hO3.chg k_28 (by first | (intro x h1 h2; have h3 : _ = _ := h2; exfalso; omega) | (intro b h1 h2 h3; have h4 : _ = _ := h3; (try dsimp only at h2); exfalso; omega))
    replace hb_4 := hn_28
    refine WL.nil (WX.one0 (v := undef) ⟨hd_18, ?_⟩)
    refine ⟨?_, trivial, trivial, trivial⟩
    refine DT.step [(31, _)] rfl ⟨rfl, trivial⟩ rfl (fun wq_29 kq_29 => ?_)
    replace hd_18 := hd_18.pure kq_29
    replace hO3 := hO3.pure kq_29
    replace hb_4 := hb_4.pure kq_29
    refine WL.extract rfl rfl rfl (WL.nil (WX.one ⟨hd_18, ?_⟩))
    refine ⟨?_, trivial, trivial⟩
    refine DT.step [(37, _)] rfl ⟨rfl, trivial⟩ rfl (fun wq_30 kq_30 => ?_)
    replace hd_18 := hd_18.pure kq_30
    replace hO3 := hO3.pure kq_30
    replace hb_4 := hb_4.pure kq_30
    refine WL.assign rfl rfl (WL.nil (WX.one ⟨hd_18, ?_⟩))
    refine ⟨?_, trivial⟩
    refine DT.step [(38, _)] rfl ⟨rfl, trivial⟩ rfl (fun wq_31 kq_31 => ?_)
    replace hd_18 := hd_18.pure kq_31
    replace hO3 := hO3.pure kq_31
    replace hb_4 := hb_4.pure kq_31
    refine WL.assign rfl rfl (WL.nil (WX.one ⟨hd_18, ?_⟩))
    refine DT.done (fun we_32 ke_32 => ?_) _
    replace hd_18 := hd_18.pure ke_32
    replace hO3 := hO3.pure ke_32
    replace hb_4 := hb_4.pure ke_32
    exact WX.cut (l3, g_4) ⟨rfl, rfl, rfl, rfl, rfl, rfl, rfl, rfl, rfl, trivial⟩ ⟨ha3, ⟨hlt34, hb_4.lt⟩, hb_4, hO3.ls.mono (fun _ _ => trivial), ((hL2s.pure kd_17).pure hd_18).mono (fun _ _ => trivial), (hb1s.pure kd_17).pure hd_18, (hb2s.pure kd_17).pure hd_18, (hb3s.pure kd_17).pure hd_18, (hss.pure kd_17).pure hd_18, (hsw.pure kd_17).pure hd_18⟩
    refine DT.step [(31, _)] rfl ⟨rfl, trivial⟩ rfl (fun wq_25 kq_25 => ?_)
    replace hd_18 := hd_18.pure kq_25
    replace hO3 := hO3.pure kq_25
    refine WL.extract rfl rfl rfl (WL.nil (WX.one ⟨hd_18, ?_⟩))
    refine ⟨?_, ?_, trivial, trivial, trivial, trivial⟩
    refine DT.step [(31, _)] rfl ⟨rfl, trivial⟩ rfl (fun wq_26 kq_26 => ?_)
    replace hd_18 := hd_18.pure kq_26
    replace hO3 := hO3.pure kq_26
    refine WL.extract rfl rfl rfl (WL.nil (WX.one ⟨hd_18, ?_⟩))
    refine ⟨?_, trivial, trivial, trivial, trivial⟩
    refine DT.step [] rfl trivial rfl (fun wq_27 kq_27 => ?_)
    replace hd_18 := hd_18.pure kq_27
    replace hO3 := hO3.pure kq_27
    try replace hO3 := hO3.lt
    have hsz17 := hd_18.size
    have hlt33 := Nat.lt_of_lt_of_le lg3 (Nat.le_trans kd_17.size hd_18.size)
    refine WL.alloc Try.zeroValue33 rfl ?_
    intro g_4 ws4 hge4 hlt4 hb_4 ks4
    have hlt34 : g_3 < g_4 := Nat.lt_of_lt_of_le hlt33 hge4
    have hge17 : wd_17.heap.size ≤ g_4 := Nat.le_trans hsz17 hge4
    clear hlt33 hsz17
    replace hd_18 := hd_18.pure ks4
    replace hO3 := hO3.pure ks4
    refine WL.nil (WX.one ⟨hd_18, ?_⟩)
    refine ⟨?_, trivial, trivial, trivial⟩
    refine DT.step [(10, _), (36, _)] rfl ⟨rfl, rfl, trivial⟩ rfl (fun wq_28 kq_28 => ?_)
    replace hd_18 := hd_18.pure kq_28
    replace hO3 := hO3.pure kq_28
    replace hb_4 := hb_4.pure kq_28
    refine WL.stores Try.sizeOf33 hb_4 rfl rfl (by rfl) (by simp [Value.oneCell']) (by simp [Value.cells]) rfl ?_
    intro w_29 hs_29 hn_29 k_29
    replace hd_18 := hd_18.chg k_29 (by first | (intro x h1 h2; have h3 : _ = _ := h2; exfalso; omega) | (intro b h1 h2 h3; have h4 : _ = _ := h3; (try dsimp only at h2); exfalso; omega))
    replace hO3 := hO3.chg k_29 (by first | (intro x h1 h2; have h3 : _ = _ := h2; exfalso; omega) | (intro b h1 h2 h3; have h4 : _ = _ := h3; (try dsimp only at h2); exfalso; omega))
    replace hb_4 := hn_29
    refine WL.nil (WX.one0 (v := undef) ⟨hd_18, ?_⟩)
    refine ⟨?_, trivial, trivial⟩
    refine DT.step [(37, _)] rfl ⟨rfl, trivial⟩ rfl (fun wq_30 kq_30 => ?_)
    replace hd_18 := hd_18.pure kq_30
    replace hO3 := hO3.pure kq_30
    replace hb_4 := hb_4.pure kq_30
    refine WL.assign rfl rfl (WL.nil (WX.one ⟨hd_18, ?_⟩))
    refine ⟨?_, trivial⟩
    refine DT.step [(38, _)] rfl ⟨rfl, trivial⟩ rfl (fun wq_31 kq_31 => ?_)
    replace hd_18 := hd_18.pure kq_31
    replace hO3 := hO3.pure kq_31
    replace hb_4 := hb_4.pure kq_31
    refine WL.assign rfl rfl (WL.nil (WX.one ⟨hd_18, ?_⟩))
    refine DT.done (fun we_32 ke_32 => ?_) _
    replace hd_18 := hd_18.pure ke_32
    replace hO3 := hO3.pure ke_32
    replace hb_4 := hb_4.pure ke_32
    exact WX.cut (l3, g_4) ⟨rfl, rfl, rfl, rfl, rfl, rfl, rfl, rfl, rfl, trivial⟩ ⟨ha3, ⟨hlt34, hb_4.lt⟩, hb_4, hO3.ls.mono (fun _ _ => trivial), ((hL2s.pure kd_17).pure hd_18).mono (fun _ _ => trivial), (hb1s.pure kd_17).pure hd_18, (hb2s.pure kd_17).pure hd_18, (hb3s.pure kd_17).pure hd_18, (hss.pure kd_17).pure hd_18, (hsw.pure kd_17).pure hd_18⟩
    refine DT.step [] rfl trivial rfl (fun wq_26 kq_26 => ?_)
    replace hd_18 := hd_18.pure kq_26
    replace hO3 := hO3.pure kq_26
    try replace hO3 := hO3.lt
    have hsz17 := hd_18.size
    have hlt33 := Nat.lt_of_lt_of_le lg3 (Nat.le_trans kd_17.size hd_18.size)
    refine WL.alloc Try.zeroValue33 rfl ?_
    intro g_4 ws4 hge4 hlt4 hb_4 ks4
    have hlt34 : g_3 < g_4 := Nat.lt_of_lt_of_le hlt33 hge4
    have hge17 : wd_17.heap.size ≤ g_4 := Nat.le_trans hsz17 hge4
    clear hlt33 hsz17
    replace hd_18 := hd_18.pure ks4
    replace hO3 := hO3.pure ks4
    refine WL.nil (WX.one ⟨hd_18, ?_⟩)
    refine ⟨?_, trivial, trivial, trivial, trivial⟩
    refine DT.step [(31, _)] rfl ⟨rfl, trivial⟩ rfl (fun wq_27 kq_27 => ?_)
    replace hd_18 := hd_18.pure kq_27
    replace hO3 := hO3.pure kq_27
    replace hb_4 := hb_4.pure kq_27
    refine WL.extract rfl rfl rfl (WL.nil (WX.one ⟨hd_18, ?_⟩))
    refine ⟨?_, trivial, trivial, trivial⟩
    refine DT.step [(10, _), (36, _)] rfl ⟨rfl, rfl, trivial⟩ rfl (fun wq_28 kq_28 => ?_)
    replace hd_18 := hd_18.pure kq_28
    replace hO3 := hO3.pure kq_28
    replace hb_4 := hb_4.pure kq_28
    refine WL.stores Try.sizeOf33 hb_4 rfl rfl (by rfl) (by simp [Value.oneCell']) (by simp [Value.cells]) rfl ?_
    intro w_29 hs_29 hn_29 k_29
    replace hd_18 := hd_18.chg k_29 (by first | (intro x h1 h2; have h3 : _ = _ := h2; exfalso; omega) | (intro b h1 h2 h3; have h4 : _ = _ := h3; (try dsimp only at h2); exfalso; omega))
    replace hO3 := hO3.chg k_29 (by first | (intro x h1 h2; have h3 : _ = _ := h2; exfalso; omega) | (intro b h1 h2 h3; have h4 : _ = _ := h3; (try dsimp only at h2); exfalso; omega))
    replace hb_4 := hn_29
    refine WL.nil (WX.one0 (v := undef) ⟨hd_18, ?_⟩)
    refine ⟨?_, trivial, trivial⟩
    refine DT.step [(37, _)] rfl ⟨rfl, trivial⟩ rfl (fun wq_30 kq_30 => ?_)
    replace hd_18 := hd_18.pure kq_30
    replace hO3 := hO3.pure kq_30
    replace hb_4 := hb_4.pure kq_30
    refine WL.assign rfl rfl (WL.nil (WX.one ⟨hd_18, ?_⟩))
    refine ⟨?_, trivial⟩
    refine DT.step [(38, _)] rfl ⟨rfl, trivial⟩ rfl (fun wq_31 kq_31 => ?_)
    replace hd_18 := hd_18.pure kq_31
    replace hO3 := hO3.pure kq_31
    replace hb_4 := hb_4.pure kq_31
    refine WL.assign rfl rfl (WL.nil (WX.one ⟨hd_18, ?_⟩))
    refine DT.done (fun we_32 ke_32 => ?_) _
    replace hd_18 := hd_18.pure ke_32
    replace hO3 := hO3.pure ke_32
    replace hb_4 := hb_4.pure ke_32
    exact WX.cut (l3, g_4) ⟨rfl, rfl, rfl, rfl, rfl, rfl, rfl, rfl, rfl, trivial⟩ ⟨ha3, ⟨hlt34, hb_4.lt⟩, hb_4, hO3.ls.mono (fun _ _ => trivial), ((hL2s.pure kd_17).pure hd_18).mono (fun _ _ => trivial), (hb1s.pure kd_17).pure hd_18, (hb2s.pure kd_17).pure hd_18, (hb3s.pure kd_17).pure hd_18, (hss.pure kd_17).pure hd_18, (hsw.pure kd_17).pure hd_18⟩
    refine DT.step [] rfl trivial rfl (fun wq_25 kq_25 => ?_)
    replace hd_18 := hd_18.pure kq_25
    replace hO3 := hO3.pure kq_25
    try replace hO3 := hO3.lt
    have hsz17 := hd_18.size
    have hlt33 := Nat.lt_of_lt_of_le lg3 (Nat.le_trans kd_17.size hd_18.size)
    refine WL.alloc Try.zeroValue33 rfl ?_
    intro g_4 ws4 hge4 hlt4 hb_4 ks4
    have hlt34 : g_3 < g_4 := Nat.lt_of_lt_of_le hlt33 hge4
    have hge17 : wd_17.heap.size ≤ g_4 := Nat.le_trans hsz17 hge4
    clear hlt33 hsz17
    replace hd_18 := hd_18.pure ks4
    replace hO3 := hO3.pure ks4
    refine WL.nil (WX.one ⟨hd_18, ?_⟩)
    refine ⟨?_, ?_, trivial, trivial, trivial, trivial⟩
    refine DT.step [(31, _)] rfl ⟨rfl, trivial⟩ rfl (fun wq_26 kq_26 => ?_)
    replace hd_18 := hd_18.pure kq_26
    replace hO3 := hO3.pure kq_26
    replace hb_4 := hb_4.pure kq_26
    refine WL.extract rfl rfl rfl (WL.nil (WX.one ⟨hd_18, ?_⟩))
    refine ⟨?_, ?_, trivial, trivial, trivial⟩
    refine DT.step [(31, _)] rfl ⟨rfl, trivial⟩ rfl (fun wq_27 kq_27 => ?_)
    replace hd_18 := hd_18.pure kq_27
    replace hO3 := hO3.pure kq_27
    replace hb_4 := hb_4.pure kq_27
    refine WL.extract rfl rfl rfl (WL.nil (WX.one ⟨hd_18, ?_⟩))
    refine ⟨?_, trivial, trivial, trivial⟩
    refine DT.step [(10, _), (36, _)] rfl ⟨rfl, rfl, trivial⟩ rfl (fun wq_28 kq_28 => ?_)
    replace hd_18 := hd_18.pure kq_28
    replace hO3 := hO3.pure kq_28
    replace hb_4 := hb_4.pure kq_28
    refine WL.stores Try.sizeOf33 hb_4 rfl rfl (by rfl) (by simp [Value.oneCell']) (by simp [Value.cells]) rfl ?_
    intro w_29 hs_29 hn_29 k_29
    replace hd_18 := hd_18.chg k_29 (by first | (intro x h1 h2; have h3 : _ = _ := h2; exfalso; omega) | (intro b h1 h2 h3; have h4 : _ = _ := h3; (try dsimp only at h2); exfalso; omega))
    replace hO3 := hO3.chg k_29 (by first | (intro x h1 h2; have h3 : _ = _ := h2; exfalso; omega) | (intro b h1 h2 h3; have h4 : _ = _ := h3; (try dsimp only at h2); exfalso; omega))
    replace hb_4 := hn_29
    refine WL.nil (WX.one0 (v := undef) ⟨hd_18, ?_⟩)
    refine ⟨?_, trivial, trivial⟩
    refine DT.step [(37, _)] rfl ⟨rfl, trivial⟩ rfl (fun wq_30 kq_30 => ?_)
    replace hd_18 := hd_18.pure kq_30
    replace hO3 := hO3.pure kq_30
    replace hb_4 := hb_4.pure kq_30
    refine WL.assign rfl rfl (WL.nil (WX.one ⟨hd_18, ?_⟩))
    refine ⟨?_, trivial⟩
    refine DT.step [(38, _)] rfl ⟨rfl, trivial⟩ rfl (fun wq_31 kq_31 => ?_)
    replace hd_18 := hd_18.pure kq_31
    replace hO3 := hO3.pure kq_31
    replace hb_4 := hb_4.pure kq_31
    refine WL.assign rfl rfl (WL.nil (WX.one ⟨hd_18, ?_⟩))
    refine DT.done (fun we_32 ke_32 => ?_) _
    replace hd_18 := hd_18.pure ke_32
    replace hO3 := hO3.pure ke_32
    replace hb_4 := hb_4.pure ke_32
    exact WX.cut (l3, g_4) ⟨rfl, rfl, rfl, rfl, rfl, rfl, rfl, rfl, rfl, trivial⟩ ⟨ha3, ⟨hlt34, hb_4.lt⟩, hb_4, hO3.ls.mono (fun _ _ => trivial), ((hL2s.pure kd_17).pure hd_18).mono (fun _ _ => trivial), (hb1s.pure kd_17).pure hd_18, (hb2s.pure kd_17).pure hd_18, (hb3s.pure kd_17).pure hd_18, (hss.pure kd_17).pure hd_18, (hsw.pure kd_17).pure hd_18⟩
    refine DT.step [(10, _), (36, _)] rfl ⟨rfl, rfl, trivial⟩ rfl (fun wq_27 kq_27 => ?_)
    replace hd_18 := hd_18.pure kq_27
    replace hO3 := hO3.pure kq_27
    replace hb_4 := hb_4.pure kq_27
    refine WL.stores Try.sizeOf33 hb_4 rfl rfl (by rfl) (by simp [Value.oneCell']) (by simp [Value.cells]) rfl ?_
    intro w_28 hs_28 hn_28 k_28
    replace hd_18 := hd_18.chg k_28 (by first | (intro x h1 h2; have h3 : _ = _ := h2; exfalso; omega) | (intro b h1 h2 h3; have h4 : _ = _ := h3; (try dsimp only at h2); exfalso; omega))
    replace hO3 := hO3.chg k_28 (by first | (intro x h1 h2; have h3 : _ = _ := h2; exfalso; omega) | (intro b h1 h2 h3; have h4 : _ = _ := h3; (try dsimp only at h2); exfalso; omega))
    replace hb_4 := hn_28
    refine WL.nil (WX.one0 (v := undef) ⟨hd_18, ?_⟩)
    refine ⟨?_, trivial, trivial, trivial⟩
    refine DT.step [(31, _)] rfl ⟨rfl, trivial⟩ rfl (fun wq_29 kq_29 => ?_)
    replace hd_18 := hd_18.pure kq_29
    replace hO3 := hO3.pure kq_29
    replace hb_4 := hb_4.pure kq_29
    refine WL.extract rfl rfl rfl (WL.nil (WX.one ⟨hd_18, ?_⟩))
    refine ⟨?_, trivial, trivial⟩
    refine DT.step [(37, _)] rfl ⟨rfl, trivial⟩ rfl (fun wq_30 kq_30 => ?_)
    replace hd_18 := hd_18.pure kq_30
    replace hO3 := hO3.pure kq_30
    replace hb_4 := hb_4.pure kq_30
    refine WL.assign rfl rfl (WL.nil (WX.one ⟨hd_18, ?_⟩))
    refine ⟨?_, trivial⟩
    refine DT.step [(38, _)] rfl ⟨rfl, trivial⟩ rfl (fun wq_31 kq_31 => ?_)
    replace hd_18 := hd_18.pure kq_31
    replace hO3 := hO3.pure kq_31
    replace hb_4 := hb_4.pure kq_31
    refine WL.assign rfl rfl (WL.nil (WX.one ⟨hd_18, ?_⟩))
    refine DT.done (fun we_32 ke_32 => ?_) _
    replace hd_18 := hd_18.pure ke_32
    replace hO3 := hO3.pure ke_32
    replace hb_4 := hb_4.pure ke_32
    exact WX.cut (l3, g_4) ⟨rfl, rfl, rfl, rfl, rfl, rfl, rfl, rfl, rfl, trivial⟩ ⟨ha3, ⟨hlt34, hb_4.lt⟩, hb_4, hO3.ls.mono (fun _ _ => trivial), ((hL2s.pure kd_17).pure hd_18).mono (fun _ _ => trivial), (hb1s.pure kd_17).pure hd_18, (hb2s.pure kd_17).pure hd_18, (hb3s.pure kd_17).pure hd_18, (hss.pure kd_17).pure hd_18, (hsw.pure kd_17).pure hd_18⟩
    refine DT.step [(31, _)] rfl ⟨rfl, trivial⟩ rfl (fun wq_26 kq_26 => ?_)
    replace hd_18 := hd_18.pure kq_26
    replace hO3 := hO3.pure kq_26
    replace hb_4 := hb_4.pure kq_26
    refine WL.extract rfl rfl rfl (WL.nil (WX.one ⟨hd_18, ?_⟩))
    refine ⟨?_, trivial, trivial, trivial, trivial⟩
    refine DT.step [(31, _)] rfl ⟨rfl, trivial⟩ rfl (fun wq_27 kq_27 => ?_)
    replace hd_18 := hd_18.pure kq_27
    replace hO3 := hO3.pure kq_27
    replace hb_4 := hb_4.pure kq_27
    refine WL.extract rfl rfl rfl (WL.nil (WX.one ⟨hd_18, ?_⟩))
    refine ⟨?_, trivial, trivial, trivial⟩
    refine DT.step [(10, _), (36, _)] rfl ⟨rfl, rfl, trivial⟩ rfl (fun wq_28 kq_28 => ?_)
    replace hd_18 := hd_18.pure kq_28
    replace hO3 := hO3.pure kq_28
    replace hb_4 := hb_4.pure kq_28
    refine WL.stores Try.sizeOf33 hb_4 rfl rfl (by rfl) (by simp [Value.oneCell']) (by simp [Value.cells]) rfl ?_
    intro w_29 hs_29 hn_29 k_29
    replace hd_18 := hd_18.chg k_29 (by first | (intro x h1 h2; have h3 : _ = _ := h2; exfalso; omega) | (intro b h1 h2 h3; have h4 : _ = _ := h3; (try dsimp only at h2); exfalso; omega))
    replace hO3 := hO3.chg k_29 (by first | (intro x h1 h2; have h3 : _ = _ := h2; exfalso; omega) | (intro b h1 h2 h3; have h4 : _ = _ := h3; (try dsimp only at h2); exfalso; omega))
    replace hb_4 := hn_29
    refine WL.nil (WX.one0 (v := undef) ⟨hd_18, ?_⟩)
    refine ⟨?_, trivial, trivial⟩
    refine DT.step [(37, _)] rfl ⟨rfl, trivial⟩ rfl (fun wq_30 kq_30 => ?_)
    replace hd_18 := hd_18.pure kq_30
    replace hO3 := hO3.pure kq_30
    replace hb_4 := hb_4.pure kq_30
    refine WL.assign rfl rfl (WL.nil (WX.one ⟨hd_18, ?_⟩))
    refine ⟨?_, trivial⟩
    refine DT.step [(38, _)] rfl ⟨rfl, trivial⟩ rfl (fun wq_31 kq_31 => ?_)
    replace hd_18 := hd_18.pure kq_31
    replace hO3 := hO3.pure kq_31
    replace hb_4 := hb_4.pure kq_31
    refine WL.assign rfl rfl (WL.nil (WX.one ⟨hd_18, ?_⟩))
    refine DT.done (fun we_32 ke_32 => ?_) _
    replace hd_18 := hd_18.pure ke_32
    replace hO3 := hO3.pure ke_32
    replace hb_4 := hb_4.pure ke_32
    exact WX.cut (l3, g_4) ⟨rfl, rfl, rfl, rfl, rfl, rfl, rfl, rfl, rfl, trivial⟩ ⟨ha3, ⟨hlt34, hb_4.lt⟩, hb_4, hO3.ls.mono (fun _ _ => trivial), ((hL2s.pure kd_17).pure hd_18).mono (fun _ _ => trivial), (hb1s.pure kd_17).pure hd_18, (hb2s.pure kd_17).pure hd_18, (hb3s.pure kd_17).pure hd_18, (hss.pure kd_17).pure hd_18, (hsw.pure kd_17).pure hd_18⟩
    refine DT.step [] rfl trivial rfl (fun wq_24 kq_24 => ?_)
    replace hd_18 := hd_18.pure kq_24
    replace hO3 := hO3.pure kq_24
    try replace hO3 := hO3.lt
    have hsz17 := hd_18.size
    have hlt33 := Nat.lt_of_lt_of_le lg3 (Nat.le_trans kd_17.size hd_18.size)
    refine WL.alloc Try.zeroValue33 rfl ?_
    intro g_4 ws4 hge4 hlt4 hb_4 ks4
    have hlt34 : g_3 < g_4 := Nat.lt_of_lt_of_le hlt33 hge4
    have hge17 : wd_17.heap.size ≤ g_4 := Nat.le_trans hsz17 hge4
    clear hlt33 hsz17
    replace hd_18 := hd_18.pure ks4
    replace hO3 := hO3.pure ks4
    refine WL.nil (WX.one ⟨hd_18, ?_⟩)
    refine ⟨?_, ?_, ?_, trivial, trivial, trivial, trivial⟩
    refine DT.step [(31, _)] rfl ⟨rfl, trivial⟩ rfl (fun wq_25 kq_25 => ?_)
    replace hd_18 := hd_18.pure kq_25
    replace hO3 := hO3.pure kq_25
    replace hb_4 := hb_4.pure kq_25
    refine WL.extract rfl rfl rfl (WL.nil (WX.one ⟨hd_18, ?_⟩))
    refine ⟨?_, ?_, ?_, trivial, trivial, trivial⟩
    refine DT.step [(31, _)] rfl ⟨rfl, trivial⟩ rfl (fun wq_26 kq_26 => ?_)
    replace hd_18 := hd_18.pure kq_26
    replace hO3 := hO3.pure kq_26
    replace hb_4 := hb_4.pure kq_26
    refine WL.extract rfl rfl rfl (WL.nil (WX.one ⟨hd_18, ?_⟩))
    refine ⟨?_, ?_, trivial, trivial, trivial⟩
    refine DT.step [(31, _)] rfl ⟨rfl, trivial⟩ rfl (fun wq_27 kq_27 => ?_)
    replace hd_18 := hd_18.pure kq_27
    replace hO3 := hO3.pure kq_27
    replace hb_4 := hb_4.pure kq_27
    refine WL.extract rfl rfl rfl (WL.nil (WX.one ⟨hd_18, ?_⟩))
    refine ⟨?_, trivial, trivial, trivial⟩
    refine DT.step [(10, _), (36, _)] rfl ⟨rfl, rfl, trivial⟩ rfl (fun wq_28 kq_28 => ?_)
    replace hd_18 := hd_18.pure kq_28
    replace hO3 := hO3.pure kq_28
    replace hb_4 := hb_4.pure kq_28
    refine WL.stores Try.sizeOf33 hb_4 rfl rfl (by rfl) (by simp [Value.oneCell']) (by simp [Value.cells]) rfl ?_
    intro w_29 hs_29 hn_29 k_29
    replace hd_18 := hd_18.chg k_29 (by first | (intro x h1 h2; have h3 : _ = _ := h2; exfalso; omega) | (intro b h1 h2 h3; have h4 : _ = _ := h3; (try dsimp only at h2); exfalso; omega))
    replace hO3 := hO3.chg k_29 (by first | (intro x h1 h2; have h3 : _ = _ := h2; exfalso; omega) | (intro b h1 h2 h3; have h4 : _ = _ := h3; (try dsimp only at h2); exfalso; omega))
    replace hb_4 := hn_29
    refine WL.nil (WX.one0 (v := undef) ⟨hd_18, ?_⟩)
    refine ⟨?_, trivial, trivial⟩
    refine DT.step [(37, _)] rfl ⟨rfl, trivial⟩ rfl (fun wq_30 kq_30 => ?_)
    replace hd_18 := hd_18.pure kq_30
    replace hO3 := hO3.pure kq_30
    replace hb_4 := hb_4.pure kq_30
    refine WL.assign rfl rfl (WL.nil (WX.one ⟨hd_18, ?_⟩))
    refine ⟨?_, trivial⟩
    refine DT.step [(38, _)] rfl ⟨rfl, trivial⟩ rfl (fun wq_31 kq_31 => ?_)
    replace hd_18 := hd_18.pure kq_31
    replace hO3 := hO3.pure kq_31
    replace hb_4 := hb_4.pure kq_31
    refine WL.assign rfl rfl (WL.nil (WX.one ⟨hd_18, ?_⟩))
    refine DT.done (fun we_32 ke_32 => ?_) _
    replace hd_18 := hd_18.pure ke_32
    replace hO3 := hO3.pure ke_32
    replace hb_4 := hb_4.pure ke_32
    exact WX.cut (l3, g_4) ⟨rfl, rfl, rfl, rfl, rfl, rfl, rfl, rfl, rfl, trivial⟩ ⟨ha3, ⟨hlt34, hb_4.lt⟩, hb_4, hO3.ls.mono (fun _ _ => trivial), ((hL2s.pure kd_17).pure hd_18).mono (fun _ _ => trivial), (hb1s.pure kd_17).pure hd_18, (hb2s.pure kd_17).pure hd_18, (hb3s.pure kd_17).pure hd_18, (hss.pure kd_17).pure hd_18, (hsw.pure kd_17).pure hd_18⟩
    refine DT.step [(10, _), (36, _)] rfl ⟨rfl, rfl, trivial⟩ rfl (fun wq_27 kq_27 => ?_)
    replace hd_18 := hd_18.pure kq_27
    replace hO3 := hO3.pure kq_27
    replace hb_4 := hb_4.pure kq_27
    refine WL.stores Try.sizeOf33 hb_4 rfl rfl (by rfl) (by simp [Value.oneCell']) (by simp [Value.cells]) rfl ?_
    intro w_28 hs_28 hn_28 k_28
    replace hd_18 := hd_18.chg k_28 (by first | (intro x h1 h2; have h3 : _ = _ := h2; exfalso; omega) | (intro b h1 h2 h3; have h4 : _ = _ := h3; (try dsimp only at h2); exfalso; omega))
    replace hO3 := hO3.chg k_28 (by first | (intro x h1 h2; have h3 : _ = _ := h2; exfalso; omega) | (intro b h1 h2 h3; have h4 : _ = _ := h3; (try dsimp only at h2); exfalso; omega))
    replace hb_4 := hn_28
    refine WL.nil (WX.one0 (v := undef) ⟨hd_18, ?_⟩)
    refine ⟨?_, ?_, trivial, trivial⟩
    refine DT.step [(31, _)] rfl ⟨rfl, trivial⟩ rfl (fun wq_29 kq_29 => ?_)
    replace hd_18 := hd_18.pure kq_29
    replace hO3 := hO3.pure kq_29
    replace hb_4 := hb_4.pure kq_29
    refine WL.extract rfl rfl rfl (WL.nil (WX.one ⟨hd_18, ?_⟩))
    refine ⟨?_, trivial, trivial⟩
    refine DT.step [(37, _)] rfl ⟨rfl, trivial⟩ rfl (fun wq_30 kq_30 => ?_)
    replace hd_18 := hd_18.pure kq_30
    replace hO3 := hO3.pure kq_30
    replace hb_4 := hb_4.pure kq_30
    refine WL.assign rfl rfl (WL.nil (WX.one ⟨hd_18, ?_⟩))
    refine ⟨?_, trivial⟩
    refine DT.step [(38, _)] rfl ⟨rfl, trivial⟩ rfl (fun wq_31 kq_31 => ?_)
    replace hd_18 := hd_18.pure kq_31
    replace hO3 := hO3.pure kq_31
    replace hb_4 := hb_4.pure kq_31
    refine WL.assign rfl rfl (WL.nil (WX.one ⟨hd_18, ?_⟩))
    refine DT.done (fun we_32 ke_32 => ?_) _
    replace hd_18 := hd_18.pure ke_32
    replace hO3 := hO3.pure ke_32
    replace hb_4 := hb_4.pure ke_32
    exact WX.cut (l3, g_4) ⟨rfl, rfl, rfl, rfl, rfl, rfl, rfl, rfl, rfl, trivial⟩ ⟨ha3, ⟨hlt34, hb_4.lt⟩, hb_4, hO3.ls.mono (fun _ _ => trivial), ((hL2s.pure kd_17).pure hd_18).mono (fun _ _ => trivial), (hb1s.pure kd_17).pure hd_18, (hb2s.pure kd_17).pure hd_18, (hb3s.pure kd_17).pure hd_18, (hss.pure kd_17).pure hd_18, (hsw.pure kd_17).pure hd_18⟩
    refine DT.step [(37, _)] rfl ⟨rfl, trivial⟩ rfl (fun wq_29 kq_29 => ?_)
    replace hd_18 := hd_18.pure kq_29
    replace hO3 := hO3.pure kq_29
    replace hb_4 := hb_4.pure kq_29
    refine WL.assign rfl rfl (WL.nil (WX.one ⟨hd_18, ?_⟩))
    refine ⟨?_, trivial, trivial⟩
    refine DT.step [(31, _)] rfl ⟨rfl, trivial⟩ rfl (fun wq_30 kq_30 => ?_)
    replace hd_18 := hd_18.pure kq_30
    replace hO3 := hO3.pure kq_30
    replace hb_4 := hb_4.pure kq_30
    refine WL.extract rfl rfl rfl (WL.nil (WX.one ⟨hd_18, ?_⟩))
    refine ⟨?_, trivial⟩
    refine DT.step [(38, _)] rfl ⟨rfl, trivial⟩ rfl (fun wq_31 kq_31 => ?_)
    replace hd_18 := hd_18.pure kq_31
    replace hO3 := hO3.pure kq_31
    replace hb_4 := hb_4.pure kq_31
    refine WL.assign rfl rfl (WL.nil (WX.one ⟨hd_18, ?_⟩))
    refine DT.done (fun we_32 ke_32 => ?_) _
    replace hd_18 := hd_18.pure ke_32
    replace hO3 := hO3.pure ke_32
    replace hb_4 := hb_4.pure ke_32
    exact WX.cut (l3, g_4) ⟨rfl, rfl, rfl, rfl, rfl, rfl, rfl, rfl, rfl, trivial⟩ ⟨ha3, ⟨hlt34, hb_4.lt⟩, hb_4, hO3.ls.mono (fun _ _ => trivial), ((hL2s.pure kd_17).pure hd_18).mono (fun _ _ => trivial), (hb1s.pure kd_17).pure hd_18, (hb2s.pure kd_17).pure hd_18, (hb3s.pure kd_17).pure hd_18, (hss.pure kd_17).pure hd_18, (hsw.pure kd_17).pure hd_18⟩
    refine DT.step [(31, _)] rfl ⟨rfl, trivial⟩ rfl (fun wq_26 kq_26 => ?_)
    replace hd_18 := hd_18.pure kq_26
    replace hO3 := hO3.pure kq_26
    replace hb_4 := hb_4.pure kq_26
    refine WL.extract rfl rfl rfl (WL.nil (WX.one ⟨hd_18, ?_⟩))
    refine ⟨?_, ?_, trivial, trivial, trivial⟩
    refine DT.step [(31, _)] rfl ⟨rfl, trivial⟩ rfl (fun wq_27 kq_27 => ?_)
    replace hd_18 := hd_18.pure kq_27
    replace hO3 := hO3.pure kq_27
    replace hb_4 := hb_4.pure kq_27
    refine WL.extract rfl rfl rfl (WL.nil (WX.one ⟨hd_18, ?_⟩))
    refine ⟨?_, trivial, trivial, trivial⟩
    refine DT.step [(10, _), (36, _)] rfl ⟨rfl, rfl, trivial⟩ rfl (fun wq_28 kq_28 => ?_)
    replace hd_18 := hd_18.pure kq_28
    replace hO3 := hO3.pure kq_28
    replace hb_4 := hb_4.pure kq_28
    refine WL.stores Try.sizeOf33 hb_4 rfl rfl (by rfl) (by simp [Value.oneCell']) (by simp [Value.cells]) rfl ?_
    intro w_29 hs_29 hn_29 k_29
    replace hd_18 := hd_18.chg k_29 (by first | (intro x h1 h2; have h3 : _ = _ := h2; exfalso; omega) | (intro b h1 h2 h3; have h4 : _ = _ := h3; (try dsimp only at h2); exfalso; omega))
    replace hO3 := hO3.chg k_29 (by first | (intro x h1 h2; have h3 : _ = _ := h2; exfalso; omega) | (intro b h1 h2 h3; have h4 : _ = _ := h3; (try dsimp only at h2); exfalso; omega))
    replace hb_4 := hn_29
    refine WL.nil (WX.one0 (v := undef) ⟨hd_18, ?_⟩)
    refine ⟨?_, trivial, trivial⟩
    refine DT.step [(37, _)] rfl ⟨rfl, trivial⟩ rfl (fun wq_30 kq_30 => ?_)
    replace hd_18 := hd_18.pure kq_30
    replace hO3 := hO3.pure kq_30
    replace hb_4 := hb_4.pure kq_30
    refine WL.assign rfl rfl (WL.nil (WX.one ⟨hd_18, ?_⟩))
    refine ⟨?_, trivial⟩
    refine DT.step [(38, _)] rfl ⟨rfl, trivial⟩ rfl (fun wq_31 kq_31 => ?_)
    replace hd_18 := hd_18.pure kq_31
    replace hO3 := hO3.pure kq_31
    replace hb_4 := hb_4.pure kq_31
    refine WL.assign rfl rfl (WL.nil (WX.one ⟨hd_18, ?_⟩))
    refine DT.done (fun we_32 ke_32 => ?_) _
    replace hd_18 := hd_18.pure ke_32
    replace hO3 := hO3.pure ke_32
    replace hb_4 := hb_4.pure ke_32
    exact WX.cut (l3, g_4) ⟨rfl, rfl, rfl, rfl, rfl, rfl, rfl, rfl, rfl, trivial⟩ ⟨ha3, ⟨hlt34, hb_4.lt⟩, hb_4, hO3.ls.mono (fun _ _ => trivial), ((hL2s.pure kd_17).pure hd_18).mono (fun _ _ => trivial), (hb1s.pure kd_17).pure hd_18, (hb2s.pure kd_17).pure hd_18, (hb3s.pure kd_17).pure hd_18, (hss.pure kd_17).pure hd_18, (hsw.pure kd_17).pure hd_18⟩
    refine DT.step [(10, _), (36, _)] rfl ⟨rfl, rfl, trivial⟩ rfl (fun wq_27 kq_27 => ?_)
    replace hd_18 := hd_18.pure kq_27
    replace hO3 := hO3.pure kq_27
    replace hb_4 := hb_4.pure kq_27
    refine WL.stores Try.sizeOf33 hb_4 rfl rfl (by rfl) (by simp [Value.oneCell']) (by simp [Value.cells]) rfl ?_
    intro w_28 hs_28 hn_28 k_28
    replace hd_18 := hd_18.chg k_28 (by first | (intro x h1 h2; have h3 : _ = _ := h2; exfalso; omega) | (intro b h1 h2 h3; have h4 : _ = _ := h3; (try dsimp only at h2); exfalso; omega))
    replace hO3 := hO3.chg k_28 (by first | (intro x h1 h2; have h3 : _ = _ := h2; exfalso; omega) | (intro b h1 h2 h3; have h4 : _ = _ := h3; (try dsimp only at h2); exfalso; omega))
    replace hb_4 := hn_28
    refine WL.nil (WX.one0 (v := undef) ⟨hd_18, ?_⟩)
    refine ⟨?_, trivial, trivial, trivial⟩
    refine DT.step [(31, _)] rfl ⟨rfl, trivial⟩ rfl (fun wq_29 kq_29 => ?_)
    replace hd_18 := hd_18.pure kq_29
    replace hO3 := hO3.pure kq_29
    replace hb_4 := hb_4.pure kq_29
    refine WL.extract rfl rfl rfl (WL.nil (WX.one ⟨hd_18, ?_⟩))
    refine ⟨?_, trivial, trivial⟩
    refine DT.step [(37, _)] rfl ⟨rfl, trivial⟩ rfl (fun wq_30 kq_30 => ?_)
    replace hd_18 := hd_18.pure kq_30
    replace hO3 := hO3.pure kq_30
    replace hb_4 := hb_4.pure kq_30
    refine WL.assign rfl rfl (WL.nil (WX.one ⟨hd_18, ?_⟩))
    refine ⟨?_, trivial⟩
    refine DT.step [(38, _)] rfl ⟨rfl, trivial⟩ rfl (fun wq_31 kq_31 => ?_)
    replace hd_18 := hd_18.pure kq_31
    replace hO3 := hO3.pure kq_31
    replace hb_4 := hb_4.pure kq_31
    refine WL.assign rfl rfl (WL.nil (WX.one ⟨hd_18, ?_⟩))
    refine DT.done (fun we_32 ke_32 => ?_) _
    replace hd_18 := hd_18.pure ke_32
    replace hO3 := hO3.pure ke_32
    replace hb_4 := hb_4.pure ke_32
    exact WX.cut (l3, g_4) ⟨rfl, rfl, rfl, rfl, rfl, rfl, rfl, rfl, rfl, trivial⟩ ⟨ha3, ⟨hlt34, hb_4.lt⟩, hb_4, hO3.ls.mono (fun _ _ => trivial), ((hL2s.pure kd_17).pure hd_18).mono (fun _ _ => trivial), (hb1s.pure kd_17).pure hd_18, (hb2s.pure kd_17).pure hd_18, (hb3s.pure kd_17).pure hd_18, (hss.pure kd_17).pure hd_18, (hsw.pure kd_17).pure hd_18⟩
    refine DT.step [(10, _), (36, _)] rfl ⟨rfl, rfl, trivial⟩ rfl (fun wq_26 kq_26 => ?_)
    replace hd_18 := hd_18.pure kq_26
    replace hO3 := hO3.pure kq_26
    replace hb_4 := hb_4.pure kq_26
    refine WL.stores Try.sizeOf33 hb_4 rfl rfl (by rfl) (by simp [Value.oneCell']) (by simp [Value.cells]) rfl ?_
    intro w_27 hs_27 hn_27 k_27
    replace hd_18 := hd_18.chg k_27 (by first | (intro x h1 h2; have h3 : _ = _ := h2; exfalso; omega) | (intro b h1 h2 h3; have h4 : _ = _ := h3; (try dsimp only at h2); exfalso; omega))
    replace hO3 := hO3.chg k_27 (by first | (intro x h1 h2; have h3 : _ = _ := h2; exfalso; omega) | (intro b h1 h2 h3; have h4 : _ = _ := h3; (try dsimp only at h2); exfalso; omega))
    replace hb_4 := hn_27
    refine WL.nil (WX.one0 (v := undef) ⟨hd_18, ?_⟩)
    refine ⟨?_, ?_, trivial, trivial, trivial⟩
    refine DT.step [(31, _)] rfl ⟨rfl, trivial⟩ rfl (fun wq_28 kq_28 => ?_)
    replace hd_18 := hd_18.pure kq_28
    replace hO3 := hO3.pure kq_28
    replace hb_4 := hb_4.pure kq_28
    refine WL.extract rfl rfl rfl (WL.nil (WX.one ⟨hd_18, ?_⟩))
    refine ⟨?_, ?_, trivial, trivial⟩
    refine DT.step [(31, _)] rfl ⟨rfl, trivial⟩ rfl (fun wq_29 kq_29 => ?_)
    replace hd_18 := hd_18.pure kq_29
    replace hO3 := hO3.pure kq_29
    replace hb_4 := hb_4.pure kq_29
    refine WL.extract rfl rfl rfl (WL.nil (WX.one ⟨hd_18, ?_⟩))
    refine ⟨?_, trivial, trivial⟩
    refine DT.step [(37, _)] rfl ⟨rfl, trivial⟩ rfl (fun wq_30 kq_30 => ?_)
    replace hd_18 := hd_18.pure kq_30
    replace hO3 := hO3.pure kq_30
    replace hb_4 := hb_4.pure kq_30
    refine WL.assign rfl rfl (WL.nil (WX.one ⟨hd_18, ?_⟩))
    refine ⟨?_, trivial⟩
    refine DT.step [(38, _)] rfl ⟨rfl, trivial⟩ rfl (fun wq_31 kq_31 => ?_)
    replace hd_18 := hd_18.pure kq_31
    replace hO3 := hO3.pure kq_31
    replace hb_4 := hb_4.pure kq_31
    refine WL.assign rfl rfl (WL.nil (WX.one ⟨hd_18, ?_⟩))
    refine DT.done (fun we_32 ke_32 => ?_) _
    replace hd_18 := hd_18.pure ke_32
    replace hO3 := hO3.pure ke_32
    replace hb_4 := hb_4.pure ke_32
    exact WX.cut (l3, g_4) ⟨rfl, rfl, rfl, rfl, rfl, rfl, rfl, rfl, rfl, trivial⟩ ⟨ha3, ⟨hlt34, hb_4.lt⟩, hb_4, hO3.ls.mono (fun _ _ => trivial), ((hL2s.pure kd_17).pure hd_18).mono (fun _ _ => trivial), (hb1s.pure kd_17).pure hd_18, (hb2s.pure kd_17).pure hd_18, (hb3s.pure kd_17).pure hd_18, (hss.pure kd_17).pure hd_18, (hsw.pure kd_17).pure hd_18⟩
    refine DT.step [(37, _)] rfl ⟨rfl, trivial⟩ rfl (fun wq_29 kq_29 => ?_)
    replace hd_18 := hd_18.pure kq_29
    replace hO3 := hO3.pure kq_29
    replace hb_4 := hb_4.pure kq_29
    refine WL.assign rfl rfl (WL.nil (WX.one ⟨hd_18, ?_⟩))
    refine ⟨?_, trivial, trivial⟩
    refine DT.step [(31, _)] rfl ⟨rfl, trivial⟩ rfl (fun wq_30 kq_30 => ?_)
    replace hd_18 := hd_18.pure kq_30
    replace hO3 := hO3.pure kq_30
    replace hb_4 := hb_4.pure kq_30
    refine WL.extract rfl rfl rfl (WL.nil (WX.one ⟨hd_18, ?_⟩))
    refine ⟨?_, trivial⟩
    refine DT.step [(38, _)] rfl ⟨rfl, trivial⟩ rfl (fun wq_31 kq_31 => ?_)
    replace hd_18 := hd_18.pure kq_31
    replace hO3 := hO3.pure kq_31
    replace hb_4 := hb_4.pure kq_31
    refine WL.assign rfl rfl (WL.nil (WX.one ⟨hd_18, ?_⟩))
    refine DT.done (fun we_32 ke_32 => ?_) _
    replace hd_18 := hd_18.pure ke_32
    replace hO3 := hO3.pure ke_32
    replace hb_4 := hb_4.pure ke_32
    exact WX.cut (l3, g_4) ⟨rfl, rfl, rfl, rfl, rfl, rfl, rfl, rfl, rfl, trivial⟩ ⟨ha3, ⟨hlt34, hb_4.lt⟩, hb_4, hO3.ls.mono (fun _ _ => trivial), ((hL2s.pure kd_17).pure hd_18).mono (fun _ _ => trivial), (hb1s.pure kd_17).pure hd_18, (hb2s.pure kd_17).pure hd_18, (hb3s.pure kd_17).pure hd_18, (hss.pure kd_17).pure hd_18, (hsw.pure kd_17).pure hd_18⟩
    refine DT.step [(31, _)] rfl ⟨rfl, trivial⟩ rfl (fun wq_28 kq_28 => ?_)
    replace hd_18 := hd_18.pure kq_28
    replace hO3 := hO3.pure kq_28
    replace hb_4 := hb_4.pure kq_28
    refine WL.extract rfl rfl rfl (WL.nil (WX.one ⟨hd_18, ?_⟩))
    refine ⟨?_, trivial, trivial, trivial⟩
    refine DT.step [(31, _)] rfl ⟨rfl, trivial⟩ rfl (fun wq_29 kq_29 => ?_)
    replace hd_18 := hd_18.pure kq_29
    replace hO3 := hO3.pure kq_29
    replace hb_4 := hb_4.pure kq_29
    refine WL.extract rfl rfl rfl (WL.nil (WX.one ⟨hd_18, ?_⟩))
    refine ⟨?_, trivial, trivial⟩
    refine DT.step [(37, _)] rfl ⟨rfl, trivial⟩ rfl (fun wq_30 kq_30 => ?_)
    replace hd_18 := hd_18.pure kq_30
    replace hO3 := hO3.pure kq_30
    replace hb_4 := hb_4.pure kq_30
    refine WL.assign rfl rfl (WL.nil (WX.one ⟨hd_18, ?_⟩))
    refine ⟨?_, trivial⟩
    refine DT.step [(38, _)] rfl ⟨rfl, trivial⟩ rfl (fun wq_31 kq_31 => ?_)
    replace hd_18 := hd_18.pure kq_31
    replace hO3 := hO3.pure kq_31
    replace hb_4 := hb_4.pure kq_31
    refine WL.assign rfl rfl (WL.nil (WX.one ⟨hd_18, ?_⟩))
    refine DT.done (fun we_32 ke_32 => ?_) _
    replace hd_18 := hd_18.pure ke_32
    replace hO3 := hO3.pure ke_32
    replace hb_4 := hb_4.pure ke_32
    exact WX.cut (l3, g_4) ⟨rfl, rfl, rfl, rfl, rfl, rfl, rfl, rfl, rfl, trivial⟩ ⟨ha3, ⟨hlt34, hb_4.lt⟩, hb_4, hO3.ls.mono (fun _ _ => trivial), ((hL2s.pure kd_17).pure hd_18).mono (fun _ _ => trivial), (hb1s.pure kd_17).pure hd_18, (hb2s.pure kd_17).pure hd_18, (hb3s.pure kd_17).pure hd_18, (hss.pure kd_17).pure hd_18, (hsw.pure kd_17).pure hd_18⟩
    refine DT.step [(31, _)] rfl ⟨rfl, trivial⟩ rfl (fun wq_25 kq_25 => ?_)
    replace hd_18 := hd_18.pure kq_25
    replace hO3 := hO3.pure kq_25
    replace hb_4 := hb_4.pure kq_25
    refine WL.extract rfl rfl rfl (WL.nil (WX.one ⟨hd_18, ?_⟩))
    refine ⟨?_, ?_, trivial, trivial, trivial, trivial⟩
    refine DT.step [(31, _)] rfl ⟨rfl, trivial⟩ rfl (fun wq_26 kq_26 => ?_)
    replace hd_18 := hd_18.pure kq_26
    replace hO3 := hO3.pure kq_26
    replace hb_4 := hb_4.pure kq_26
    refine WL.extract rfl rfl rfl (WL.nil (WX.one ⟨hd_18, ?_⟩))
    refine ⟨?_, ?_, trivial, trivial, trivial⟩
    refine DT.step [(31, _)] rfl ⟨rfl, trivial⟩ rfl (fun wq_27 kq_27 => ?_)
    replace hd_18 := hd_18.pure kq_27
    replace hO3 := hO3.pure kq_27
    replace hb_4 := hb_4.pure kq_27
    refine WL.extract rfl rfl rfl (WL.nil (WX.one ⟨hd_18, ?_⟩))
    refine ⟨?_, trivial, trivial, trivial⟩
    refine DT.step [(10, _), (36, _)] rfl ⟨rfl, rfl, trivial⟩ rfl (fun wq_28 kq_28 => ?_)
    replace hd_18 := hd_18.pure kq_28
    replace hO3 := hO3.pure kq_28
    replace hb_4 := hb_4.pure kq_28
    refine WL.stores Try.sizeOf33 hb_4 rfl rfl (by rfl) (by simp [Value.oneCell']) (by simp [Value.cells]) rfl ?_
    intro w_29 hs_29 hn_29 k_29
    replace hd_18 := hd_18.chg k_29 (by first | (intro x h1 h2; have h3 : _ = _ := h2; exfalso; omega) | (intro b h1 h2 h3; have h4 : _ = _ := h3; (try dsimp only at h2); exfalso; omega))
    replace hO3 := hO3.chg k_29 (by first | (intro x h1 h2; have h3 : _ = _ := h2; exfalso; omega) | (intro b h1 h2 h3; have h4 : _ = _ := h3; (try dsimp only at h2); exfalso; omega))
    replace hb_4 := hn_29
    refine WL.nil (WX.one0 (v := undef) ⟨hd_18, ?_⟩)
    refine ⟨?_, trivial, trivial⟩
    refine DT.step [(37, _)] rfl ⟨rfl, trivial⟩ rfl (fun wq_30 kq_30 => ?_)
    replace hd_18 := hd_18.pure kq_30
    replace hO3 := hO3.pure kq_30
    replace hb_4 := hb_4.pure kq_30
    refine WL.assign rfl rfl (WL.nil (WX.one ⟨hd_18, ?_⟩))
    refine ⟨?_, trivial⟩
    refine DT.step [(38, _)] rfl ⟨rfl, trivial⟩ rfl (fun wq_31 kq_31 => ?_)
    replace hd_18 := hd_18.pure kq_31
    replace hO3 := hO3.pure kq_31
    replace hb_4 := hb_4.pure kq_31
    refine WL.assign rfl rfl (WL.nil (WX.one ⟨hd_18, ?_⟩))
    refine DT.done (fun we_32 ke_32 => ?_) _
    replace hd_18 := hd_18.pure ke_32
    replace hO3 := hO3.pure ke_32
    replace hb_4 := hb_4.pure ke_32
    exact WX.cut (l3, g_4) ⟨rfl, rfl, rfl, rfl, rfl, rfl, rfl, rfl, rfl, trivial⟩ ⟨ha3, ⟨hlt34, hb_4.lt⟩, hb_4, hO3.ls.mono (fun _ _ => trivial), ((hL2s.pure kd_17).pure hd_18).mono (fun _ _ => trivial), (hb1s.pure kd_17).pure hd_18, (hb2s.pure kd_17).pure hd_18, (hb3s.pure kd_17).pure hd_18, (hss.pure kd_17).pure hd_18, (hsw.pure kd_17).pure hd_18⟩
    refine DT.step [(10, _), (36, _)] rfl ⟨rfl, rfl, trivial⟩ rfl (fun wq_27 kq_27 => ?_)
    replace hd_18 := hd_18.pure kq_27
    replace hO3 := hO3.pure kq_27
    replace hb_4 := hb_4.pure kq_27
    refine WL.stores Try.sizeOf33 hb_4 rfl rfl (by rfl) (by simp [Value.oneCell']) (by simp [Value.cells]) rfl ?_
    intro w_28 hs_28 hn_28 k_28
    replace hd_18 := hd_18.chg k_28 (by first | (intro x h1 h2; have h3 : _ = _ := h2; exfalso; omega) | (intro b h1 h2 h3; have h4 : _ = _ := h3; (try dsimp only at h2); exfalso; omega))
    replace hO3 := hO3.chg k_28 (by first | (intro x h1 h2; have h3 : _ = _ := h2; exfalso; omega) | (intro b h1 h2 h3; have h4 : _ = _ := h3; (try dsimp only at h2); exfalso; omega))
    replace hb_4 := hn_28
    refine WL.nil (WX.one0 (v := undef) ⟨hd_18, ?_⟩)
    refine ⟨?_, ?_, trivial, trivial⟩
    refine DT.step [(31, _)] rfl ⟨rfl, trivial⟩ rfl (fun wq_29 kq_29 => ?_)
    replace hd_18 := hd_18.pure kq_29
    replace hO3 := hO3.pure kq_29
    replace hb_4 := hb_4.pure kq_29
    refine WL.extract rfl rfl rfl (WL.nil (WX.one ⟨hd_18, ?_⟩))
    refine ⟨?_, trivial, trivial⟩
    refine DT.step [(37, _)] rfl ⟨rfl, trivial⟩ rfl (fun wq_30 kq_30 => ?_)
    replace hd_18 := hd_18.pure kq_30
    replace hO3 := hO3.pure kq_30
    replace hb_4 := hb_4.pure kq_30
    refine WL.assign rfl rfl (WL.nil (WX.one ⟨hd_18, ?_⟩))
    refine ⟨?_, trivial⟩
    refine DT.step [(38, _)] rfl ⟨rfl, trivial⟩ rfl (fun wq_31 kq_31 => ?_)
    replace hd_18 := hd_18.pure kq_31
    replace hO3 := hO3.pure kq_31
    replace hb_4 := hb_4.pure kq_31
    refine WL.assign rfl rfl (WL.nil (WX.one ⟨hd_18, ?_⟩))
    refine DT.done (fun we_32 ke_32 => ?_) _
    replace hd_18 := hd_18.pure ke_32
    replace hO3 := hO3.pure ke_32
    replace hb_4 := hb_4.pure ke_32
    exact WX.cut (l3, g_4) ⟨rfl, rfl, rfl, rfl, rfl, rfl, rfl, rfl, rfl, trivial⟩ ⟨ha3, ⟨hlt34, hb_4.lt⟩, hb_4, hO3.ls.mono (fun _ _ => trivial), ((hL2s.pure kd_17).pure hd_18).mono (fun _ _ => trivial), (hb1s.pure kd_17).pure hd_18, (hb2s.pure kd_17).pure hd_18, (hb3s.pure kd_17).pure hd_18, (hss.pure kd_17).pure hd_18, (hsw.pure kd_17).pure hd_18⟩
    refine DT.step [(37, _)] rfl ⟨rfl, trivial⟩ rfl (fun wq_29 kq_29 => ?_)
    replace hd_18 := hd_18.pure kq_29
    replace hO3 := hO3.pure kq_29
    replace hb_4 := hb_4.pure kq_29
    refine WL.assign rfl rfl (WL.nil (WX.one ⟨hd_18, ?_⟩))
    refine ⟨?_, trivial, trivial⟩
    refine DT.step [(31, _)] rfl ⟨rfl, trivial⟩ rfl (fun wq_30 kq_30 => ?_)
    replace hd_18 := hd_18.pure kq_30
    replace hO3 := hO3.pure kq_30
    replace hb_4 := hb_4.pure kq_30
    refine WL.extract rfl rfl rfl (WL.nil (WX.one ⟨hd_18, ?_⟩))
    refine ⟨?_, trivial⟩
    refine DT.step [(38, _)] rfl ⟨rfl, trivial⟩ rfl (fun wq_31 kq_31 => ?_)
    replace hd_18 := hd_18.pure kq_31
    replace hO3 := hO3.pure kq_31
    replace hb_4 := hb_4.pure kq_31
    refine WL.assign rfl rfl (WL.nil (WX.one ⟨hd_18, ?_⟩))
    refine DT.done (fun we_32 ke_32 => ?_) _
    replace hd_18 := hd_18.pure ke_32
    replace hO3 := hO3.pure ke_32
    replace hb_4 := hb_4.pure ke_32
    exact WX.cut (l3, g_4) ⟨rfl, rfl, rfl, rfl, rfl, rfl, rfl, rfl, rfl, trivial⟩ ⟨ha3, ⟨hlt34, hb_4.lt⟩, hb_4, hO3.ls.mono (fun _ _ => trivial), ((hL2s.pure kd_17).pure hd_18).mono (fun _ _ => trivial), (hb1s.pure kd_17).pure hd_18, (hb2s.pure kd_17).pure hd_18, (hb3s.pure kd_17).pure hd_18, (hss.pure kd_17).pure hd_18, (hsw.pure kd_17).pure hd_18⟩
    refine DT.step [(31, _)] rfl ⟨rfl, trivial⟩ rfl (fun wq_26 kq_26 => ?_)
    replace hd_18 := hd_18.pure kq_26
    replace hO3 := hO3.pure kq_26
    replace hb_4 := hb_4.pure kq_26
    refine WL.extract rfl rfl rfl (WL.nil (WX.one ⟨hd_18, ?_⟩))
    refine ⟨?_, trivial, trivial, trivial, trivial⟩
    refine DT.step [(31, _)] rfl ⟨rfl, trivial⟩ rfl (fun wq_27 kq_27 => ?_)
    replace hd_18 := hd_18.pure kq_27
    replace hO3 := hO3.pure kq_27
    replace hb_4 := hb_4.pure kq_27
    refine WL.extract rfl rfl rfl (WL.nil (WX.one ⟨hd_18, ?_⟩))
    refine ⟨?_, trivial, trivial, trivial⟩
    refine DT.step [(10, _), (36, _)] rfl ⟨rfl, rfl, trivial⟩ rfl (fun wq_28 kq_28 => ?_)
    replace hd_18 := hd_18.pure kq_28
    replace hO3 := hO3.pure kq_28
    replace hb_4 := hb_4.pure kq_28
    refine WL.stores Try.sizeOf33 hb_4 rfl rfl (by rfl) (by simp [Value.oneCell']) (by simp [Value.cells]) rfl ?_
    intro w_29 hs_29 hn_29 k_29
    replace hd_18 := hd_18.chg k_29 (by first | (intro x h1 h2; have h3 : _ = _ := h2; exfalso; omega) | (intro b h1 h2 h3; have h4 : _ = _ := h3; (try dsimp only at h2); exfalso; omega))
    replace hO3 := hO3.chg k_29 (by first | (intro x h1 h2; have h3 : _ = _ := h2; exfalso; omega) | (intro b h1 h2 h3; have h4 : _ = _ := h3; (try dsimp only at h2); exfalso; omega))
    replace hb_4 := hn_29
    refine WL.nil (WX.one0 (v := undef) ⟨hd_18, ?_⟩)
    refine ⟨?_, trivial, trivial⟩
    refine DT.step [(37, _)] rfl ⟨rfl, trivial⟩ rfl (fun wq_30 kq_30 => ?_)
    replace hd_18 := hd_18.pure kq_30
    replace hO3 := hO3.pure kq_30
    replace hb_4 := hb_4.pure kq_30
    refine WL.assign rfl rfl (WL.nil (WX.one ⟨hd_18, ?_⟩))
    refine ⟨?_, trivial⟩
    refine DT.step [(38, _)] rfl ⟨rfl, trivial⟩ rfl (fun wq_31 kq_31 => ?_)
    replace hd_18 := hd_18.pure kq_31
    replace hO3 := hO3.pure kq_31
    replace hb_4 := hb_4.pure kq_31
    refine WL.assign rfl rfl (WL.nil (WX.one ⟨hd_18, ?_⟩))
    refine DT.done (fun we_32 ke_32 => ?_) _
    replace hd_18 := hd_18.pure ke_32
    replace hO3 := hO3.pure ke_32
    replace hb_4 := hb_4.pure ke_32
    exact WX.cut (l3, g_4) ⟨rfl, rfl, rfl, rfl, rfl, rfl, rfl, rfl, rfl, trivial⟩ ⟨ha3, ⟨hlt34, hb_4.lt⟩, hb_4, hO3.ls.mono (fun _ _ => trivial), ((hL2s.pure kd_17).pure hd_18).mono (fun _ _ => trivial), (hb1s.pure kd_17).pure hd_18, (hb2s.pure kd_17).pure hd_18, (hb3s.pure kd_17).pure hd_18, (hss.pure kd_17).pure hd_18, (hsw.pure kd_17).pure hd_18⟩
    refine DT.step [(31, _)] rfl ⟨rfl, trivial⟩ rfl (fun wq_25 kq_25 => ?_)
    replace hd_18 := hd_18.pure kq_25
    replace hO3 := hO3.pure kq_25
    replace hb_4 := hb_4.pure kq_25
    refine WL.extract rfl rfl rfl (WL.nil (WX.one ⟨hd_18, ?_⟩))
    refine ⟨?_, ?_, trivial, trivial, trivial, trivial⟩
    refine DT.step [(31, _)] rfl ⟨rfl, trivial⟩ rfl (fun wq_26 kq_26 => ?_)
    replace hd_18 := hd_18.pure kq_26
    replace hO3 := hO3.pure kq_26
    replace hb_4 := hb_4.pure kq_26
    refine WL.extract rfl rfl rfl (WL.nil (WX.one ⟨hd_18, ?_⟩))
    refine ⟨?_, ?_, trivial, trivial, trivial⟩
    refine DT.step [(31, _)] rfl ⟨rfl, trivial⟩ rfl (fun wq_27 kq_27 => ?_)
    replace hd_18 := hd_18.pure kq_27
    replace hO3 := hO3.pure kq_27
    replace hb_4 := hb_4.pure kq_27
    refine WL.extract rfl rfl rfl (WL.nil (WX.one ⟨hd_18, ?_⟩))
    refine ⟨?_, trivial, trivial, trivial⟩
    refine DT.step [(10, _), (36, _)] rfl ⟨rfl, rfl, trivial⟩ rfl (fun wq_28 kq_28 => ?_)
    replace hd_18 := hd_18.pure kq_28
    replace hO3 := hO3.pure kq_28
    replace hb_4 := hb_4.pure kq_28
    refine WL.stores Try.sizeOf33 hb_4 rfl rfl (by rfl) (by simp [Value.oneCell']) (by simp [Value.cells]) rfl ?_
    intro w_29 hs_29 hn_29 k_29
    replace hd_18 := hd_18.chg k_29 (by first | (intro x h1 h2; have h3 : _ = _ := h2; exfalso; omega) | (intro b h1 h2 h3; have h4 : _ = _ := h3; (try dsimp only at h2); exfalso; omega))
    replace hO3 := hO3.chg k_29 (by first | (intro x h1 h2; have h3 : _ = _ := h2; exfalso; omega) | (intro b h1 h2 h3; have h4 : _ = _ := h3; (try dsimp only at h2); exfalso; omega))
    replace hb_4 := hn_29
    refine WL.nil (WX.one0 (v := undef) ⟨hd_18, ?_⟩)
    refine ⟨?_, trivial, trivial⟩
    refine DT.step [(37, _)] rfl ⟨rfl, trivial⟩ rfl (fun wq_30 kq_30 => ?_)
    replace hd_18 := hd_18.pure kq_30
    replace hO3 := hO3.pure kq_30
    replace hb_4 := hb_4.pure kq_30
    refine WL.assign rfl rfl (WL.nil (WX.one ⟨hd_18, ?_⟩))
    refine ⟨?_, trivial⟩
    refine DT.step [(38, _)] rfl ⟨rfl, trivial⟩ rfl (fun wq_31 kq_31 => ?_)
    replace hd_18 := hd_18.pure kq_31
    replace hO3 := hO3.pure kq_31
    replace hb_4 := hb_4.pure kq_31
    refine WL.assign rfl rfl (WL.nil (WX.one ⟨hd_18, ?_⟩))
    refine DT.done (fun we_32 ke_32 => ?_) _
    replace hd_18 := hd_18.pure ke_32
    replace hO3 := hO3.pure ke_32
    replace hb_4 := hb_4.pure ke_32
    exact WX.cut (l3, g_4) ⟨rfl, rfl, rfl, rfl, rfl, rfl, rfl, rfl, rfl, trivial⟩ ⟨ha3, ⟨hlt34, hb_4.lt⟩, hb_4, hO3.ls.mono (fun _ _ => trivial), ((hL2s.pure kd_17).pure hd_18).mono (fun _ _ => trivial), (hb1s.pure kd_17).pure hd_18, (hb2s.pure kd_17).pure hd_18, (hb3s.pure kd_17).pure hd_18, (hss.pure kd_17).pure hd_18, (hsw.pure kd_17).pure hd_18⟩
    refine DT.step [(10, _), (36, _)] rfl ⟨rfl, rfl, trivial⟩ rfl (fun wq_27 kq_27 => ?_)
    replace hd_18 := hd_18.pure kq_27
    replace hO3 := hO3.pure kq_27
    replace hb_4 := hb_4.pure kq_27
    refine WL.stores Try.sizeOf33 hb_4 rfl rfl (by rfl) (by simp [Value.oneCell']) (by simp [Value.cells]) rfl ?_
    intro w_28 hs_28 hn_28 k_28
    replace hd_18 := hd_18.chg k_28 (by first | (intro x h1 h2; have h3 : _ = _ := h2; exfalso; omega) | (intro b h1 h2 h3; have h4 : _ = _ := h3; (try dsimp only at h2); exfalso; omega))
    replace hO3 := hO3.chg k_28 (by first | (intro x h1 h2; have h3 : _ = _ := h2; exfalso; omega) | (intro b h1 h2 h3; have h4 : _ = _ := h3; (try dsimp only at h2); exfalso; omega))
    replace hb_4 := hn_28
    refine WL.nil (WX.one0 (v := undef) ⟨hd_18, ?_⟩)
    refine ⟨?_, trivial, trivial, trivial⟩
    refine DT.step [(31, _)] rfl ⟨rfl, trivial⟩ rfl (fun wq_29 kq_29 => ?_)
    replace hd_18 := hd_18.pure kq_29
    replace hO3 := hO3.pure kq_29
    replace hb_4 := hb_4.pure kq_29
    refine WL.extract rfl rfl rfl (WL.nil (WX.one ⟨hd_18, ?_⟩))
    refine ⟨?_, trivial, trivial⟩
    refine DT.step [(37, _)] rfl ⟨rfl, trivial⟩ rfl (fun wq_30 kq_30 => ?_)
    replace hd_18 := hd_18.pure kq_30
    replace hO3 := hO3.pure kq_30
    replace hb_4 := hb_4.pure kq_30
    refine WL.assign rfl rfl (WL.nil (WX.one ⟨hd_18, ?_⟩))
    refine ⟨?_, trivial⟩
    refine DT.step [(38, _)] rfl ⟨rfl, trivial⟩ rfl (fun wq_31 kq_31 => ?_)
    replace hd_18 := hd_18.pure kq_31
    replace hO3 := hO3.pure kq_31
    replace hb_4 := hb_4.pure kq_31
    refine WL.assign rfl rfl (WL.nil (WX.one ⟨hd_18, ?_⟩))
    refine DT.done (fun we_32 ke_32 => ?_) _
    replace hd_18 := hd_18.pure ke_32
    replace hO3 := hO3.pure ke_32
    replace hb_4 := hb_4.pure ke_32
    exact WX.cut (l3, g_4) ⟨rfl, rfl, rfl, rfl, rfl, rfl, rfl, rfl, rfl, trivial⟩ ⟨ha3, ⟨hlt34, hb_4.lt⟩, hb_4, hO3.ls.mono (fun _ _ => trivial), ((hL2s.pure kd_17).pure hd_18).mono (fun _ _ => trivial), (hb1s.pure kd_17).pure hd_18, (hb2s.pure kd_17).pure hd_18, (hb3s.pure kd_17).pure hd_18, (hss.pure kd_17).pure hd_18, (hsw.pure kd_17).pure hd_18⟩
    refine DT.step [(31, _)] rfl ⟨rfl, trivial⟩ rfl (fun wq_26 kq_26 => ?_)
    replace hd_18 := hd_18.pure kq_26
    replace hO3 := hO3.pure kq_26
    replace hb_4 := hb_4.pure kq_26
    refine WL.extract rfl rfl rfl (WL.nil (WX.one ⟨hd_18, ?_⟩))
    refine ⟨?_, trivial, trivial, trivial, trivial⟩
    refine DT.step [(31, _)] rfl ⟨rfl, trivial⟩ rfl (fun wq_27 kq_27 => ?_)
    replace hd_18 := hd_18.pure kq_27
    replace hO3 := hO3.pure kq_27
    replace hb_4 := hb_4.pure kq_27
    refine WL.extract rfl rfl rfl (WL.nil (WX.one ⟨hd_18, ?_⟩))
    refine ⟨?_, trivial, trivial, trivial⟩
    refine DT.step [(10, _), (36, _)] rfl ⟨rfl, rfl, trivial⟩ rfl (fun wq_28 kq_28 => ?_)
    replace hd_18 := hd_18.pure kq_28
    replace hO3 := hO3.pure kq_28
    replace hb_4 := hb_4.pure kq_28
    refine WL.stores Try.sizeOf33 hb_4 rfl rfl (by rfl) (by simp [Value.oneCell']) (by simp [Value.cells]) rfl ?_
    intro w_29 hs_29 hn_29 k_29
    replace hd_18 := hd_18.chg k_29 (by first | (intro x h1 h2; have h3 : _ = _ := h2; exfalso; omega) | (intro b h1 h2 h3; have h4 : _ = _ := h3; (try dsimp only at h2); exfalso; omega))
    replace hO3 := hO3.chg k_29 (by first | (intro x h1 h2; have h3 : _ = _ := h2; exfalso; omega) | (intro b h1 h2 h3; have h4 : _ = _ := h3; (try dsimp only at h2); exfalso; omega))
    replace hb_4 := hn_29
    refine WL.nil (WX.one0 (v := undef) ⟨hd_18, ?_⟩)
    refine ⟨?_, trivial, trivial⟩
    refine DT.step [(37, _)] rfl ⟨rfl, trivial⟩ rfl (fun wq_30 kq_30 => ?_)
    replace hd_18 := hd_18.pure kq_30
    replace hO3 := hO3.pure kq_30
    replace hb_4 := hb_4.pure kq_30
    refine WL.assign rfl rfl (WL.nil (WX.one ⟨hd_18, ?_⟩))
    refine ⟨?_, trivial⟩
    refine DT.step [(38, _)] rfl ⟨rfl, trivial⟩ rfl (fun wq_31 kq_31 => ?_)
    replace hd_18 := hd_18.pure kq_31
    replace hO3 := hO3.pure kq_31
    replace hb_4 := hb_4.pure kq_31
    refine WL.assign rfl rfl (WL.nil (WX.one ⟨hd_18, ?_⟩))
    refine DT.done (fun we_32 ke_32 => ?_) _
    replace hd_18 := hd_18.pure ke_32
    replace hO3 := hO3.pure ke_32
    replace hb_4 := hb_4.pure ke_32
    exact WX.cut (l3, g_4) ⟨rfl, rfl, rfl, rfl, rfl, rfl, rfl, rfl, rfl, trivial⟩ ⟨ha3, ⟨hlt34, hb_4.lt⟩, hb_4, hO3.ls.mono (fun _ _ => trivial), ((hL2s.pure kd_17).pure hd_18).mono (fun _ _ => trivial), (hb1s.pure kd_17).pure hd_18, (hb2s.pure kd_17).pure hd_18, (hb3s.pure kd_17).pure hd_18, (hss.pure kd_17).pure hd_18, (hsw.pure kd_17).pure hd_18⟩
    refine DT.step [] rfl trivial rfl (fun wq_23 kq_23 => ?_)
    replace hd_18 := hd_18.pure kq_23
    replace hO3 := hO3.pure kq_23
    try replace hO3 := hO3.lt
    have hsz17 := hd_18.size
    have hlt33 := Nat.lt_of_lt_of_le lg3 (Nat.le_trans kd_17.size hd_18.size)
    refine WL.alloc Try.zeroValue33 rfl ?_
    intro g_4 ws4 hge4 hlt4 hb_4 ks4
    have hlt34 : g_3 < g_4 := Nat.lt_of_lt_of_le hlt33 hge4
    have hge17 : wd_17.heap.size ≤ g_4 := Nat.le_trans hsz17 hge4
    clear hlt33 hsz17
    replace hd_18 := hd_18.pure ks4
    replace hO3 := hO3.pure ks4
    refine WL.nil (WX.one ⟨hd_18, ?_⟩)
    refine ⟨?_, trivial, trivial, trivial, trivial, trivial, trivial, trivial⟩
    refine DT.step [(35, _)] rfl ⟨rfl, trivial⟩ rfl (fun wq_24 kq_24 => ?_)
    replace hd_18 := hd_18.pure kq_24
    replace hO3 := hO3.pure kq_24
    replace hb_4 := hb_4.pure kq_24
    refine WL.move rfl rfl (WL.nil (WX.one ⟨hd_18, ?_⟩))
    refine ⟨?_, ?_, ?_, trivial, trivial, trivial, trivial⟩
    refine DT.step [(31, _)] rfl ⟨rfl, trivial⟩ rfl (fun wq_25 kq_25 => ?_)
    replace hd_18 := hd_18.pure kq_25
    replace hO3 := hO3.pure kq_25
    replace hb_4 := hb_4.pure kq_25
    refine WL.extract rfl rfl rfl (WL.nil (WX.one ⟨hd_18, ?_⟩))
    refine ⟨?_, ?_, ?_, trivial, trivial, trivial⟩
    refine DT.step [(31, _)] rfl ⟨rfl, trivial⟩ rfl (fun wq_26 kq_26 => ?_)
    replace hd_18 := hd_18.pure kq_26
    replace hO3 := hO3.pure kq_26
    replace hb_4 := hb_4.pure kq_26
    refine WL.extract rfl rfl rfl (WL.nil (WX.one ⟨hd_18, ?_⟩))
    refine ⟨?_, ?_, trivial, trivial, trivial⟩
    refine DT.step [(31, _)] rfl ⟨rfl, trivial⟩ rfl (fun wq_27 kq_27 => ?_)
    replace hd_18 := hd_18.pure kq_27
    replace hO3 := hO3.pure kq_27
    replace hb_4 := hb_4.pure kq_27
    refine WL.extract rfl rfl rfl (WL.nil (WX.one ⟨hd_18, ?_⟩))
    refine ⟨?_, trivial, trivial, trivial⟩
    refine DT.step [(10, _), (36, _)] rfl ⟨rfl, rfl, trivial⟩ rfl (fun wq_28 kq_28 => ?_)
    replace hd_18 := hd_18.pure kq_28
    replace hO3 := hO3.pure kq_28
    replace hb_4 := hb_4.pure kq_28
    refine WL.stores Try.sizeOf33 hb_4 rfl rfl (by rfl) (by simp [Value.oneCell']) (by simp [Value.cells]) rfl ?_
    intro w_29 hs_29 hn_29 k_29
    replace hd_18 := hd_18.chg k_29 (by first | (intro x h1 h2; have h3 : _ = _ := h2; exfalso; omega) | (intro b h1 h2 h3; have h4 : _ = _ := h3; (try dsimp only at h2); exfalso; omega))
    replace hO3 := hO3.chg k_29 (by first | (intro x h1 h2; have h3 : _ = _ := h2; exfalso; omega) | (intro b h1 h2 h3; have h4 : _ = _ := h3; (try dsimp only at h2); exfalso; omega))
    replace hb_4 := hn_29
    refine WL.nil (WX.one0 (v := undef) ⟨hd_18, ?_⟩)
    refine ⟨?_, trivial, trivial⟩
    refine DT.step [(37, _)] rfl ⟨rfl, trivial⟩ rfl (fun wq_30 kq_30 => ?_)
    replace hd_18 := hd_18.pure kq_30
    replace hO3 := hO3.pure kq_30
    replace hb_4 := hb_4.pure kq_30
    refine WL.assign rfl rfl (WL.nil (WX.one ⟨hd_18, ?_⟩))
    refine ⟨?_, trivial⟩
    refine DT.step [(38, _)] rfl ⟨rfl, trivial⟩ rfl (fun wq_31 kq_31 => ?_)
    replace hd_18 := hd_18.pure kq_31
    replace hO3 := hO3.pure kq_31
    replace hb_4 := hb_4.pure kq_31
    refine WL.assign rfl rfl (WL.nil (WX.one ⟨hd_18, ?_⟩))
    refine DT.done (fun we_32 ke_32 => ?_) _
    replace hd_18 := hd_18.pure ke_32
    replace hO3 := hO3.pure ke_32
    replace hb_4 := hb_4.pure ke_32
    exact WX.cut (l3, g_4) ⟨rfl, rfl, rfl, rfl, rfl, rfl, rfl, rfl, rfl, trivial⟩ ⟨ha3, ⟨hlt34, hb_4.lt⟩, hb_4, hO3.ls.mono (fun _ _ => trivial), ((hL2s.pure kd_17).pure hd_18).mono (fun _ _ => trivial), (hb1s.pure kd_17).pure hd_18, (hb2s.pure kd_17).pure hd_18, (hb3s.pure kd_17).pure hd_18, (hss.pure kd_17).pure hd_18, (hsw.pure kd_17).pure hd_18⟩
    refine DT.step [(10, _), (36, _)] rfl ⟨rfl, rfl, trivial⟩ rfl (fun wq_27 kq_27 => ?_)
    replace hd_18 := hd_18.pure kq_27
    replace hO3 := hO3.pure kq_27
    replace hb_4 := hb_4.pure kq_27
    refine WL.stores Try.sizeOf33 hb_4 rfl rfl (by rfl) (by simp [Value.oneCell']) (by simp [Value.cells]) rfl ?_
    intro w_28 hs_28 hn_28 k_28
    replace hd_18 := hd_18.chg k_28 (by first | (intro x h1 h2; have h3 : _ = _ := h2; exfalso; omega) | (intro b h1 h2 h3; have h4 : _ = _ := h3; (try dsimp only at h2); exfalso; omega))
    replace hO3 := hO3.chg k_28 (by first | (intro x h1 h2; have h3 : _ = _ := h2; exfalso; omega) | (intro b h1 h2 h3; have h4 : _ = _ := h3; (try dsimp only at h2); exfalso; omega))
    replace hb_4 := hn_28
    refine WL.nil (WX.one0 (v := undef) ⟨hd_18, ?_⟩)
    refine ⟨?_, ?_, trivial, trivial⟩
    refine DT.step [(31, _)] rfl ⟨rfl, trivial⟩ rfl (fun wq_29 kq_29 => ?_)
    replace hd_18 := hd_18.pure kq_29
    replace hO3 := hO3.pure kq_29
    replace hb_4 := hb_4.pure kq_29
    refine WL.extract rfl rfl rfl (WL.nil (WX.one ⟨hd_18, ?_⟩))
    refine ⟨?_, trivial, trivial⟩
    refine DT.step [(37, _)] rfl ⟨rfl, trivial⟩ rfl (fun wq_30 kq_30 => ?_)
    replace hd_18 := hd_18.pure kq_30
    replace hO3 := hO3.pure kq_30
    replace hb_4 := hb_4.pure kq_30
    refine WL.assign rfl rfl (WL.nil (WX.one ⟨hd_18, ?_⟩))
    refine ⟨?_, trivial⟩
    refine DT.step [(38, _)] rfl ⟨rfl, trivial⟩ rfl (fun wq_31 kq_31 => ?_)
    replace hd_18 := hd_18.pure kq_31
    replace hO3 := hO3.pure kq_31
    replace hb_4 := hb_4.pure kq_31
    refine WL.assign rfl rfl (WL.nil (WX.one ⟨hd_18, ?_⟩))
    refine DT.done (fun we_32 ke_32 => ?_) _
    replace hd_18 := hd_18.pure ke_32
    replace hO3 := hO3.pure ke_32
    replace hb_4 := hb_4.pure ke_32
    exact WX.cut (l3, g_4) ⟨rfl, rfl, rfl, rfl, rfl, rfl, rfl, rfl, rfl, trivial⟩ ⟨ha3, ⟨hlt34, hb_4.lt⟩, hb_4, hO3.ls.mono (fun _ _ => trivial), ((hL2s.pure kd_17).pure hd_18).mono (fun _ _ => trivial), (hb1s.pure kd_17).pure hd_18, (hb2s.pure kd_17).pure hd_18, (hb3s.pure kd_17).pure hd_18, (hss.pure kd_17).pure hd_18, (hsw.pure kd_17).pure hd_18⟩
    refine DT.step [(37, _)] rfl ⟨rfl, trivial⟩ rfl (fun wq_29 kq_29 => ?_)
    replace hd_18 := hd_18.pure kq_29
    replace hO3 := hO3.pure kq_29
    replace hb_4 := hb_4.pure kq_29
    refine WL.assign rfl rfl (WL.nil (WX.one ⟨hd_18, ?_⟩))
    refine ⟨?_, trivial, trivial⟩
    refine DT.step [(31, _)] rfl ⟨rfl, trivial⟩ rfl (fun wq_30 kq_30 => ?_)
    replace hd_18 := hd_18.pure kq_30
    replace hO3 := hO3.pure kq_30
    replace hb_4 := hb_4.pure kq_30
    refine WL.extract rfl rfl rfl (WL.nil (WX.one ⟨hd_18, ?_⟩))
    refine ⟨?_, trivial⟩
    refine DT.step [(38, _)] rfl ⟨rfl, trivial⟩ rfl (fun wq_31 kq_31 => ?_)
    replace hd_18 := hd_18.pure kq_31
    replace hO3 := hO3.pure kq_31
    replace hb_4 := hb_4.pure kq_31
    refine WL.assign rfl rfl (WL.nil (WX.one ⟨hd_18, ?_⟩))
    refine DT.done (fun we_32 ke_32 => ?_) _
    replace hd_18 := hd_18.pure ke_32
    replace hO3 := hO3.pure ke_32
    replace hb_4 := hb_4.pure ke_32
    exact WX.cut (l3, g_4) ⟨rfl, rfl, rfl, rfl, rfl, rfl, rfl, rfl, rfl, trivial⟩ ⟨ha3, ⟨hlt34, hb_4.lt⟩, hb_4, hO3.ls.mono (fun _ _ => trivial), ((hL2s.pure kd_17).pure hd_18).mono (fun _ _ => trivial), (hb1s.pure kd_17).pure hd_18, (hb2s.pure kd_17).pure hd_18, (hb3s.pure kd_17).pure hd_18, (hss.pure kd_17).pure hd_18, (hsw.pure kd_17).pure hd_18⟩
    refine DT.step [(31, _)] rfl ⟨rfl, trivial⟩ rfl (fun wq_26 kq_26 => ?_)
    replace hd_18 := hd_18.pure kq_26
    replace hO3 := hO3.pure kq_26
    replace hb_4 := hb_4.pure kq_26
    refine WL.extract rfl rfl rfl (WL.nil (WX.one ⟨hd_18, ?_⟩))
    refine ⟨?_, ?_, trivial, trivial, trivial⟩
    refine DT.step [(31, _)] rfl ⟨rfl, trivial⟩ rfl (fun wq_27 kq_27 => ?_)
    replace hd_18 := hd_18.pure kq_27
    replace hO3 := hO3.pure kq_27
    replace hb_4 := hb_4.pure kq_27
    refine WL.extract rfl rfl rfl (WL.nil (WX.one ⟨hd_18, ?_⟩))
    refine ⟨?_, trivial, trivial, trivial⟩
    refine DT.step [(10, _), (36, _)] rfl ⟨rfl, rfl, trivial⟩ rfl (fun wq_28 kq_28 => ?_)
    replace hd_18 := hd_18.pure kq_28
    replace hO3 := hO3.pure kq_28
    replace hb_4 := hb_4.pure kq_28
    refine WL.stores Try.sizeOf33 hb_4 rfl rfl (by rfl) (by simp [Value.oneCell']) (by simp [Value.cells]) rfl ?_
    intro w_29 hs_29 hn_29 k_29
    replace hd_18 := hd_18.chg k_29 (by first | (intro x h1 h2; have h3 : _ = _ := h2; exfalso; omega) | (intro b h1 h2 h3; have h4 : _ = _ := h3; (try dsimp only at h2); exfalso; omega))
    replace hO3 := hO3.chg k_29 (by first | (intro x h1 h2; have h3 : _ = _ := h2; exfalso; omega) | (intro b h1 h2 h3; have h4 : _ = _ := h3; (try dsimp only at h2); exfalso; omega))
    replace hb_4 := hn_29
    refine WL.nil (WX.one0 (v := undef) ⟨hd_18, ?_⟩)
    refine ⟨?_, trivial, trivial⟩
    refine DT.step [(37, _)] rfl ⟨rfl, trivial⟩ rfl (fun wq_30 kq_30 => ?_)
    replace hd_18 := hd_18.pure kq_30
    replace hO3 := hO3.pure kq_30
    replace hb_4 := hb_4.pure kq_30
    refine WL.assign rfl rfl (WL.nil (WX.one ⟨hd_18, ?_⟩))
    refine ⟨?_, trivial⟩
    refine DT.step [(38, _)] rfl ⟨rfl, trivial⟩ rfl (fun wq_31 kq_31 => ?_)
    replace hd_18 := hd_18.pure kq_31
    replace hO3 := hO3.pure kq_31
    replace hb_4 := hb_4.pure kq_31
    refine WL.assign rfl rfl (WL.nil (WX.one ⟨hd_18, ?_⟩))
    refine DT.done (fun we_32 ke_32 => ?_) _
    replace hd_18 := hd_18.pure ke_32
    replace hO3 := hO3.pure ke_32
    replace hb_4 := hb_4.pure ke_32
    exact WX.cut (l3, g_4) ⟨rfl, rfl, rfl, rfl, rfl, rfl, rfl, rfl, rfl, trivial⟩ ⟨ha3, ⟨hlt34, hb_4.lt⟩, hb_4, hO3.ls.mono (fun _ _ => trivial), ((hL2s.pure kd_17).pure hd_18).mono (fun _ _ => trivial), (hb1s.pure kd_17).pure hd_18, (hb2s.pure kd_17).pure hd_18, (hb3s.pure kd_17).pure hd_18, (hss.pure kd_17).pure hd_18, (hsw.pure kd_17).pure hd_18⟩
    refine DT.step [(10, _), (36, _)] rfl ⟨rfl, rfl, trivial⟩ rfl (fun wq_27 kq_27 => ?_)
    replace hd_18 := hd_18.pure kq_27
    replace hO3 := hO3.pure kq_27
    replace hb_4 := hb_4.pure kq_27
    refine WL.stores Try.sizeOf33 hb_4 rfl rfl (by rfl) (by simp [Value.oneCell']) (by simp [Value.cells]) rfl ?_
    intro w_28 hs_28 hn_28 k_28
    replace hd_18 := hd_18.chg k_28 (by first | (intro x h1 h2; have h3 : _ = _ := h2; exfalso; omega) | (intro b h1 h2 h3; have h4 : _ = _ := h3; (try dsimp only at h2); exfalso; omega))
    replace hO3 := hO3.chg k_28 (by first | (intro x h1 h2; have h3 : _ = _ := h2; exfalso; omega) | (intro b h1 h2 h3; have h4 : _ = _ := h3; (try dsimp only at h2); exfalso; omega))
    replace hb_4 := hn_28
    refine WL.nil (WX.one0 (v := undef) ⟨hd_18, ?_⟩)
    refine ⟨?_, trivial, trivial, trivial⟩
    refine DT.step [(31, _)] rfl ⟨rfl, trivial⟩ rfl (fun wq_29 kq_29 => ?_)
    replace hd_18 := hd_18.pure kq_29
    replace hO3 := hO3.pure kq_29
    replace hb_4 := hb_4.pure kq_29
    refine WL.extract rfl rfl rfl (WL.nil (WX.one ⟨hd_18, ?_⟩))
    refine ⟨?_, trivial, trivial⟩
    refine DT.step [(37, _)] rfl ⟨rfl, trivial⟩ rfl (fun wq_30 kq_30 => ?_)
    replace hd_18 := hd_18.pure kq_30
    replace hO3 := hO3.pure kq_30
    replace hb_4 := hb_4.pure kq_30
    refine WL.assign rfl rfl (WL.nil (WX.one ⟨hd_18, ?_⟩))
    refine ⟨?_, trivial⟩
    refine DT.step [(38, _)] rfl ⟨rfl, trivial⟩ rfl (fun wq_31 kq_31 => ?_)
    replace hd_18 := hd_18.pure kq_31
    replace hO3 := hO3.pure kq_31
    replace hb_4 := hb_4.pure kq_31
    refine WL.assign rfl rfl (WL.nil (WX.one ⟨hd_18, ?_⟩))
    refine DT.done (fun we_32 ke_32 => ?_) _
    replace hd_18 := hd_18.pure ke_32
    replace hO3 := hO3.pure ke_32
    replace hb_4 := hb_4.pure ke_32
    exact WX.cut (l3, g_4) ⟨rfl, rfl, rfl, rfl, rfl, rfl, rfl, rfl, rfl, trivial⟩ ⟨ha3, ⟨hlt34, hb_4.lt⟩, hb_4, hO3.ls.mono (fun _ _ => trivial), ((hL2s.pure kd_17).pure hd_18).mono (fun _ _ => trivial), (hb1s.pure kd_17).pure hd_18, (hb2s.pure kd_17).pure hd_18, (hb3s.pure kd_17).pure hd_18, (hss.pure kd_17).pure hd_18, (hsw.pure kd_17).pure hd_18⟩
    refine DT.step [(10, _), (36, _)] rfl ⟨rfl, rfl, trivial⟩ rfl (fun wq_26 kq_26 => ?_)
    replace hd_18 := hd_18.pure kq_26
    replace hO3 := hO3.pure kq_26
    replace hb_4 := hb_4.pure kq_26
    refine WL.stores Try.sizeOf33 hb_4 rfl rfl (by rfl) (by simp [Value.oneCell']) (by simp [Value.cells]) rfl ?_
    intro w_27 hs_27 hn_27 k_27
    replace hd_18 := hd_18.chg k_27 (by first | (intro x h1 h2; have h3 : _ = _ := h2; exfalso; omega) | (intro b h1 h2 h3; have h4 : _ = _ := h3; (try dsimp only at h2); exfalso; omega))
    replace hO3 := hO3.chg k_27 (by first | (intro x h1 h2; have h3 : _ = _ := h2; exfalso; omega) | (intro b h1 h2 h3; have h4 : _ = _ := h3; (try dsimp only at h2); exfalso; omega))
    replace hb_4 := hn_27
    refine WL.nil (WX.one0 (v := undef) ⟨hd_18, ?_⟩)
    refine ⟨?_, ?_, trivial, trivial, trivial⟩
    refine DT.step [(31, _)] rfl ⟨rfl, trivial⟩ rfl (fun wq_28 kq_28 => ?_)
    replace hd_18 := hd_18.pure kq_28
    replace hO3 := hO3.pure kq_28
    replace hb_4 := hb_4.pure kq_28
    refine WL.extract rfl rfl rfl (WL.nil (WX.one ⟨hd_18, ?_⟩))
    refine ⟨?_, ?_, trivial, trivial⟩
    refine DT.step [(31, _)] rfl ⟨rfl, trivial⟩ rfl (fun wq_29 kq_29 => ?_)
    replace hd_18 := hd_18.pure kq_29
    replace hO3 := hO3.pure kq_29
    replace hb_4 := hb_4.pure kq_29
    refine WL.extract rfl rfl rfl (WL.nil (WX.one ⟨hd_18, ?_⟩))
    refine ⟨?_, trivial, trivial⟩
    refine DT.step [(37, _)] rfl ⟨rfl, trivial⟩ rfl (fun wq_30 kq_30 => ?_)
    replace hd_18 := hd_18.pure kq_30
    replace hO3 := hO3.pure kq_30
    replace hb_4 := hb_4.pure kq_30
    refine WL.assign rfl rfl (WL.nil (WX.one ⟨hd_18, ?_⟩))
    refine ⟨?_, trivial⟩
    refine DT.step [(38, _)] rfl ⟨rfl, trivial⟩ rfl (fun wq_31 kq_31 => ?_)
    replace hd_18 := hd_18.pure kq_31
    replace hO3 := hO3.pure kq_31
    replace hb_4 := hb_4.pure kq_31
    refine WL.assign rfl rfl (WL.nil (WX.one ⟨hd_18, ?_⟩))
    refine DT.done (fun we_32 ke_32 => ?_) _
    replace hd_18 := hd_18.pure ke_32
    replace hO3 := hO3.pure ke_32
    replace hb_4 := hb_4.pure ke_32
    exact WX.cut (l3, g_4) ⟨rfl, rfl, rfl, rfl, rfl, rfl, rfl, rfl, rfl, trivial⟩ ⟨ha3, ⟨hlt34, hb_4.lt⟩, hb_4, hO3.ls.mono (fun _ _ => trivial), ((hL2s.pure kd_17).pure hd_18).mono (fun _ _ => trivial), (hb1s.pure kd_17).pure hd_18, (hb2s.pure kd_17).pure hd_18, (hb3s.pure kd_17).pure hd_18, (hss.pure kd_17).pure hd_18, (hsw.pure kd_17).pure hd_18⟩
    refine DT.step [(37, _)] rfl ⟨rfl, trivial⟩ rfl (fun wq_29 kq_29 => ?_)
    replace hd_18 := hd_18.pure kq_29
    replace hO3 := hO3.pure kq_29
    replace hb_4 := hb_4.pure kq_29
    refine WL.assign rfl rfl (WL.nil (WX.one ⟨hd_18, ?_⟩))
    refine ⟨?_, trivial, trivial⟩
    refine DT.step [(31, _)] rfl ⟨rfl, trivial⟩ rfl (fun wq_30 kq_30 => ?_)
    replace hd_18 := hd_18.pure kq_30
    replace hO3 := hO3.pure kq_30
    replace hb_4 := hb_4.pure kq_30
    refine WL.extract rfl rfl rfl (WL.nil (WX.one ⟨hd_18, ?_⟩))
    refine ⟨?_, trivial⟩
    refine DT.step [(38, _)] rfl ⟨rfl, trivial⟩ rfl (fun wq_31 kq_31 => ?_)
    replace hd_18 := hd_18.pure kq_31
    replace hO3 := hO3.pure kq_31
    replace hb_4 := hb_4.pure kq_31
    refine WL.assign rfl rfl (WL.nil (WX.one ⟨hd_18, ?_⟩))
    refine DT.done (fun we_32 ke_32 => ?_) _
    replace hd_18 := hd_18.pure ke_32
    replace hO3 := hO3.pure ke_32
    replace hb_4 := hb_4.pure ke_32
    exact WX.cut (l3, g_4) ⟨rfl, rfl, rfl, rfl, rfl, rfl, rfl, rfl, rfl, trivial⟩ ⟨ha3, ⟨hlt34, hb_4.lt⟩, hb_4, hO3.ls.mono (fun _ _ => trivial), ((hL2s.pure kd_17).pure hd_18).mono (fun _ _ => trivial), (hb1s.pure kd_17).pure hd_18, (hb2s.pure kd_17).pure hd_18, (hb3s.pure kd_17).pure hd_18, (hss.pure kd_17).pure hd_18, (hsw.pure kd_17).pure hd_18⟩
    refine DT.step [(31, _)] rfl ⟨rfl, trivial⟩ rfl (fun wq_28 kq_28 => ?_)
    replace hd_18 := hd_18.pure kq_28
    replace hO3 := hO3.pure kq_28
    replace hb_4 := hb_4.pure kq_28
    refine WL.extract rfl rfl rfl (WL.nil (WX.one ⟨hd_18, ?_⟩))
    refine ⟨?_, trivial, trivial, trivial⟩
    refine DT.step [(31, _)] rfl ⟨rfl, trivial⟩ rfl (fun wq_29 kq_29 => ?_)
    replace hd_18 := hd_18.pure kq_29
    replace hO3 := hO3.pure kq_29
    replace hb_4 := hb_4.pure kq_29
    refine WL.extract rfl rfl rfl (WL.nil (WX.one ⟨hd_18, ?_⟩))
    refine ⟨?_, trivial, trivial⟩
    refine DT.step [(37, _)] rfl ⟨rfl, trivial⟩ rfl (fun wq_30 kq_30 => ?_)
    replace hd_18 := hd_18.pure kq_30
    replace hO3 := hO3.pure kq_30
    replace hb_4 := hb_4.pure kq_30
    refine WL.assign rfl rfl (WL.nil (WX.one ⟨hd_18, ?_⟩))
    refine ⟨?_, trivial⟩
    refine DT.step [(38, _)] rfl ⟨rfl, trivial⟩ rfl (fun wq_31 kq_31 => ?_)
    replace hd_18 := hd_18.pure kq_31
    replace hO3 := hO3.pure kq_31
    replace hb_4 := hb_4.pure kq_31
    refine WL.assign rfl rfl (WL.nil (WX.one ⟨hd_18, ?_⟩))
    refine DT.done (fun we_32 ke_32 => ?_) _
    replace hd_18 := hd_18.pure ke_32
    replace hO3 := hO3.pure ke_32
    replace hb_4 := hb_4.pure ke_32
    exact WX.cut (l3, g_4) ⟨rfl, rfl, rfl, rfl, rfl, rfl, rfl, rfl, rfl, trivial⟩ ⟨ha3, ⟨hlt34, hb_4.lt⟩, hb_4, hO3.ls.mono (fun _ _ => trivial), ((hL2s.pure kd_17).pure hd_18).mono (fun _ _ => trivial), (hb1s.pure kd_17).pure hd_18, (hb2s.pure kd_17).pure hd_18, (hb3s.pure kd_17).pure hd_18, (hss.pure kd_17).pure hd_18, (hsw.pure kd_17).pure hd_18⟩
    refine DT.step [(31, _)] rfl ⟨rfl, trivial⟩ rfl (fun wq_25 kq_25 => ?_)
    replace hd_18 := hd_18.pure kq_25
    replace hO3 := hO3.pure kq_25
    replace hb_4 := hb_4.pure kq_25
    refine WL.extract rfl rfl rfl (WL.nil (WX.one ⟨hd_18, ?_⟩))
    refine ⟨?_, ?_, trivial, trivial, trivial, trivial⟩
    refine DT.step [(31, _)] rfl ⟨rfl, trivial⟩ rfl (fun wq_26 kq_26 => ?_)
    replace hd_18 := hd_18.pure kq_26
    replace hO3 := hO3.pure kq_26
    replace hb_4 := hb_4.pure kq_26
    refine WL.extract rfl rfl rfl (WL.nil (WX.one ⟨hd_18, ?_⟩))
    refine ⟨?_, ?_, trivial, trivial, trivial⟩
    refine DT.step [(31, _)] rfl ⟨rfl, trivial⟩ rfl (fun wq_27 kq_27 => ?_)
    replace hd_18 := hd_18.pure kq_27
    replace hO3 := hO3.pure kq_27
    replace hb_4 := hb_4.pure kq_27
    refine WL.extract rfl rfl rfl (WL.nil (WX.one ⟨hd_18, ?_⟩))
    refine ⟨?_, trivial, trivial, trivial⟩
    refine DT.step [(10, _), (36, _)] rfl ⟨rfl, rfl, trivial⟩ rfl (fun wq_28 kq_28 => ?_)
    replace hd_18 := hd_18.pure kq_28
    replace hO3 := hO3.pure kq_28
    replace hb_4 := hb_4.pure kq_28
    refine WL.stores Try.sizeOf33 hb_4 rfl rfl (by rfl) (by simp [Value.oneCell']) (by simp [Value.cells]) rfl ?_
    intro w_29 hs_29 hn_29 k_29
    replace hd_18 := hd_18.chg k_29 (by first | (intro x h1 h2; have h3 : _ = _ := h2; exfalso; omega) | (intro b h1 h2 h3; have h4 : _ = _ := h3; (try dsimp only at h2); exfalso; omega))
    replace hO3 := hO3.chg k_29 (by first | (intro x h1 h2; have h3 : _ = _ := h2; exfalso; omega) | (intro b h1 h2 h3; have h4 : _ = _ := h3; (try dsimp only at h2); exfalso; omega))
    replace hb_4 := hn_29
    refine WL.nil (WX.one0 (v := undef) ⟨hd_18, ?_⟩)
    refine ⟨?_, trivial, trivial⟩
    refine DT.step [(37, _)] rfl ⟨rfl, trivial⟩ rfl (fun wq_30 kq_30 => ?_)
    replace hd_18 := hd_18.pure kq_30
    replace hO3 := hO3.pure kq_30
    replace hb_4 := hb_4.pure kq_30
    refine WL.assign rfl rfl (WL.nil (WX.one ⟨hd_18, ?_⟩))
    refine ⟨?_, trivial⟩
    refine DT.step [(38, _)] rfl ⟨rfl, trivial⟩ rfl (fun wq_31 kq_31 => ?_)
    replace hd_18 := hd_18.pure kq_31
    replace hO3 := hO3.pure kq_31
    replace hb_4 := hb_4.pure kq_31
    refine WL.assign rfl rfl (WL.nil (WX.one ⟨hd_18, ?_⟩))
    refine DT.done (fun we_32 ke_32 => ?_) _
    replace hd_18 := hd_18.pure ke_32
    replace hO3 := hO3.pure ke_32
    replace hb_4 := hb_4.pure ke_32
    exact WX.cut (l3, g_4) ⟨rfl, rfl, rfl, rfl, rfl, rfl, rfl, rfl, rfl, trivial⟩ ⟨ha3, ⟨hlt34, hb_4.lt⟩, hb_4, hO3.ls.mono (fun _ _ => trivial), ((hL2s.pure kd_17).pure hd_18).mono (fun _ _ => trivial), (hb1s.pure kd_17).pure hd_18, (hb2s.pure kd_17).pure hd_18, (hb3s.pure kd_17).pure hd_18, (hss.pure kd_17).pure hd_18, (hsw.pure kd_17).pure hd_18⟩
    refine DT.step [(10, _), (36, _)] rfl ⟨rfl, rfl, trivial⟩ rfl (fun wq_27 kq_27 => ?_)
    replace hd_18 := hd_18.pure kq_27
    replace hO3 := hO3.pure kq_27
    replace hb_4 := hb_4.pure kq_27
    refine WL.stores Try.sizeOf33 hb_4 rfl rfl (by rfl) (by simp [Value.oneCell']) (by simp [Value.cells]) rfl ?_
    intro w_28 hs_28 hn_28 k_28
    replace hd_18 := hd_18.chg k_28 (by first | (intro x h1 h2; have h3 : _ = _ := h2; exfalso; omega) | (intro b h1 h2 h3; have h4 : _ = _ := h3; (try dsimp only at h2); exfalso; omega))
    replace hO3 := hO3.chg k_28 (by first | (intro x h1 h2; have h3 : _ = _ := h2; exfalso; omega) | (intro b h1 h2 h3; have h4 : _ = _ := h3; (try dsimp only at h2); exfalso; omega))
    replace hb_4 := hn_28
    refine WL.nil (WX.one0 (v := undef) ⟨hd_18, ?_⟩)
    refine ⟨?_, ?_, trivial, trivial⟩
    refine DT.step [(31, _)] rfl ⟨rfl, trivial⟩ rfl (fun wq_29 kq_29 => ?_)
    replace hd_18 := hd_18.pure kq_29
    replace hO3 := hO3.pure kq_29
    replace hb_4 := hb_4.pure kq_29
    refine WL.extract rfl rfl rfl (WL.nil (WX.one ⟨hd_18, ?_⟩))
    refine ⟨?_, trivial, trivial⟩
    refine DT.step [(37, _)] rfl ⟨rfl, trivial⟩ rfl (fun wq_30 kq_30 => ?_)
    replace hd_18 := hd_18.pure kq_30
    replace hO3 := hO3.pure kq_30
    replace hb_4 := hb_4.pure kq_30
    refine WL.assign rfl rfl (WL.nil (WX.one ⟨hd_18, ?_⟩))
    refine ⟨?_, trivial⟩
    refine DT.step [(38, _)] rfl ⟨rfl, trivial⟩ rfl (fun wq_31 kq_31 => ?_)
    replace hd_18 := hd_18.pure kq_31
    replace hO3 := hO3.pure kq_31
    replace hb_4 := hb_4.pure kq_31
    refine WL.assign rfl rfl (WL.nil (WX.one ⟨hd_18, ?_⟩))
    refine DT.done (fun we_32 ke_32 => ?_) _
    replace hd_18 := hd_18.pure ke_32
    replace hO3 := hO3.pure ke_32
    replace hb_4 := hb_4.pure ke_32
    exact WX.cut (l3, g_4) ⟨rfl, rfl, rfl, rfl, rfl, rfl, rfl, rfl, rfl, trivial⟩ ⟨ha3, ⟨hlt34, hb_4.lt⟩, hb_4, hO3.ls.mono (fun _ _ => trivial), ((hL2s.pure kd_17).pure hd_18).mono (fun _ _ => trivial), (hb1s.pure kd_17).pure hd_18, (hb2s.pure kd_17).pure hd_18, (hb3s.pure kd_17).pure hd_18, (hss.pure kd_17).pure hd_18, (hsw.pure kd_17).pure hd_18⟩
    refine DT.step [(37, _)] rfl ⟨rfl, trivial⟩ rfl (fun wq_29 kq_29 => ?_)
    replace hd_18 := hd_18.pure kq_29
    replace hO3 := hO3.pure kq_29
    replace hb_4 := hb_4.pure kq_29
    refine WL.assign rfl rfl (WL.nil (WX.one ⟨hd_18, ?_⟩))
    refine ⟨?_, trivial, trivial⟩
    refine DT.step [(31, _)] rfl ⟨rfl, trivial⟩ rfl (fun wq_30 kq_30 => ?_)
    replace hd_18 := hd_18.pure kq_30
    replace hO3 := hO3.pure kq_30
    replace hb_4 := hb_4.pure kq_30
    refine WL.extract rfl rfl rfl (WL.nil (WX.one ⟨hd_18, ?_⟩))
    refine ⟨?_, trivial⟩
    refine DT.step [(38, _)] rfl ⟨rfl, trivial⟩ rfl (fun wq_31 kq_31 => ?_)
    replace hd_18 := hd_18.pure kq_31
    replace hO3 := hO3.pure kq_31
    replace hb_4 := hb_4.pure kq_31
    refine WL.assign rfl rfl (WL.nil (WX.one ⟨hd_18, ?_⟩))
    refine DT.done (fun we_32 ke_32 => ?_) _
    replace hd_18 := hd_18.pure ke_32
    replace hO3 := hO3.pure ke_32
    replace hb_4 := hb_4.pure ke_32
    exact WX.cut (l3, g_4) ⟨rfl, rfl, rfl, rfl, rfl, rfl, rfl, rfl, rfl, trivial⟩ ⟨ha3, ⟨hlt34, hb_4.lt⟩, hb_4, hO3.ls.mono (fun _ _ => trivial), ((hL2s.pure kd_17).pure hd_18).mono (fun _ _ => trivial), (hb1s.pure kd_17).pure hd_18, (hb2s.pure kd_17).pure hd_18, (hb3s.pure kd_17).pure hd_18, (hss.pure kd_17).pure hd_18, (hsw.pure kd_17).pure hd_18⟩
    refine DT.step [(31, _)] rfl ⟨rfl, trivial⟩ rfl (fun wq_26 kq_26 => ?_)
    replace hd_18 := hd_18.pure kq_26
    replace hO3 := hO3.pure kq_26
    replace hb_4 := hb_4.pure kq_26
    refine WL.extract rfl rfl rfl (WL.nil (WX.one ⟨hd_18, ?_⟩))
    refine ⟨?_, trivial, trivial, trivial, trivial⟩
    refine DT.step [(31, _)] rfl ⟨rfl, trivial⟩ rfl (fun wq_27 kq_27 => ?_)
    replace hd_18 := hd_18.pure kq_27
    replace hO3 := hO3.pure kq_27
    replace hb_4 := hb_4.pure kq_27
    refine WL.extract rfl rfl rfl (WL.nil (WX.one ⟨hd_18, ?_⟩))
    refine ⟨?_, trivial, trivial, trivial⟩
    refine DT.step [(10, _), (36, _)] rfl ⟨rfl, rfl, trivial⟩ rfl (fun wq_28 kq_28 => ?_)
    replace hd_18 := hd_18.pure kq_28
    replace hO3 := hO3.pure kq_28
    replace hb_4 := hb_4.pure kq_28
    refine WL.stores Try.sizeOf33 hb_4 rfl rfl (by rfl) (by simp [Value.oneCell']) (by simp [Value.cells]) rfl ?_
    intro w_29 hs_29 hn_29 k_29
    replace hd_18 := hd_18.chg k_29 (by first | (intro x h1 h2; have h3 : _ = _ := h2; exfalso; omega) | (intro b h1 h2 h3; have h4 : _ = _ := h3; (try dsimp only at h2); exfalso; omega))
    replace hO3 := hO3.chg k_29 (by first | (intro x h1 h2; have h3 : _ = _ := h2; exfalso; omega) | (intro b h1 h2 h3; have h4 : _ = _ := h3; (try dsimp only at h2); exfalso; omega))
    replace hb_4 := hn_29
    refine WL.nil (WX.one0 (v := undef) ⟨hd_18, ?_⟩)
    refine ⟨?_, trivial, trivial⟩
    refine DT.step [(37, _)] rfl ⟨rfl, trivial⟩ rfl (fun wq_30 kq_30 => ?_)
    replace hd_18 := hd_18.pure kq_30
    replace hO3 := hO3.pure kq_30
    replace hb_4 := hb_4.pure kq_30
    refine WL.assign rfl rfl (WL.nil (WX.one ⟨hd_18, ?_⟩))
    refine ⟨?_, trivial⟩
    refine DT.step [(38, _)] rfl ⟨rfl, trivial⟩ rfl (fun wq_31 kq_31 => ?_)
    replace hd_18 := hd_18.pure kq_31
    replace hO3 := hO3.pure kq_31
    replace hb_4 := hb_4.pure kq_31
    refine WL.assign rfl rfl (WL.nil (WX.one ⟨hd_18, ?_⟩))
    refine DT.done (fun we_32 ke_32 => ?_) _
    replace hd_18 := hd_18.pure ke_32
    replace hO3 := hO3.pure ke_32
    replace hb_4 := hb_4.pure ke_32
    exact WX.cut (l3, g_4) ⟨rfl, rfl, rfl, rfl, rfl, rfl, rfl, rfl, rfl, trivial⟩ ⟨ha3, ⟨hlt34, hb_4.lt⟩, hb_4, hO3.ls.mono (fun _ _ => trivial), ((hL2s.pure kd_17).pure hd_18).mono (fun _ _ => trivial), (hb1s.pure kd_17).pure hd_18, (hb2s.pure kd_17).pure hd_18, (hb3s.pure kd_17).pure hd_18, (hss.pure kd_17).pure hd_18, (hsw.pure kd_17).pure hd_18⟩
    refine DT.step [(31, _)] rfl ⟨rfl, trivial⟩ rfl (fun wq_25 kq_25 => ?_)
    replace hd_18 := hd_18.pure kq_25
    replace hO3 := hO3.pure kq_25
    replace hb_4 := hb_4.pure kq_25
    refine WL.extract rfl rfl rfl (WL.nil (WX.one ⟨hd_18, ?_⟩))
    refine ⟨?_, ?_, trivial, trivial, trivial, trivial⟩
    refine DT.step [(31, _)] rfl ⟨rfl, trivial⟩ rfl (fun wq_26 kq_26 => ?_)
    replace hd_18 := hd_18.pure kq_26
    replace hO3 := hO3.pure kq_26
    replace hb_4 := hb_4.pure kq_26
    refine WL.extract rfl rfl rfl (WL.nil (WX.one ⟨hd_18, ?_⟩))
    refine ⟨?_, ?_, trivial, trivial, trivial⟩
    refine DT.step [(31, _)] rfl ⟨rfl, trivial⟩ rfl (fun wq_27 kq_27 => ?_)
    replace hd_18 := hd_18.pure kq_27
    replace hO3 := hO3.pure kq_27
    replace hb_4 := hb_4.pure kq_27
    refine WL.extract rfl rfl rfl (WL.nil (WX.one ⟨hd_18, ?_⟩))
    refine ⟨?_, trivial, trivial, trivial⟩
    refine DT.step [(10, _), (36, _)] rfl ⟨rfl, rfl, trivial⟩ rfl (fun wq_28 kq_28 => ?_)
    replace hd_18 := hd_18.pure kq_28
    replace hO3 := hO3.pure kq_28
    replace hb_4 := hb_4.pure kq_28
    refine WL.stores Try.sizeOf33 hb_4 rfl rfl (by rfl) (by simp [Value.oneCell']) (by simp [Value.cells]) rfl ?_
    intro w_29 hs_29 hn_29 k_29
    replace hd_18 := hd_18.chg k_29 (by first | (intro x h1 h2; have h3 : _ = _ := h2; exfalso; omega) | (intro b h1 h2 h3; have h4 : _ = _ := h3; (try dsimp only at h2); exfalso; omega))
    replace hO3 := hO3.chg k_29 (by first | (intro x h1 h2; have h3 : _ = _ := h2; exfalso; omega) | (intro b h1 h2 h3; have h4 : _ = _ := h3; (try dsimp only at h2); exfalso; omega))
    replace hb_4 := hn_29
    refine WL.nil (WX.one0 (v := undef) ⟨hd_18, ?_⟩)
    refine ⟨?_, trivial, trivial⟩
    refine DT.step [(37, _)] rfl ⟨rfl, trivial⟩ rfl (fun wq_30 kq_30 => ?_)
    replace hd_18 := hd_18.pure kq_30
    replace hO3 := hO3.pure kq_30
    replace hb_4 := hb_4.pure kq_30
    refine WL.assign rfl rfl (WL.nil (WX.one ⟨hd_18, ?_⟩))
    refine ⟨?_, trivial⟩
    refine DT.step [(38, _)] rfl ⟨rfl, trivial⟩ rfl (fun wq_31 kq_31 => ?_)
    replace hd_18 := hd_18.pure kq_31
    replace hO3 := hO3.pure kq_31
    replace hb_4 := hb_4.pure kq_31
    refine WL.assign rfl rfl (WL.nil (WX.one ⟨hd_18, ?_⟩))
    refine DT.done (fun we_32 ke_32 => ?_) _
    replace hd_18 := hd_18.pure ke_32
    replace hO3 := hO3.pure ke_32
    replace hb_4 := hb_4.pure ke_32
    exact WX.cut (l3, g_4) ⟨rfl, rfl, rfl, rfl, rfl, rfl, rfl, rfl, rfl, trivial⟩ ⟨ha3, ⟨hlt34, hb_4.lt⟩, hb_4, hO3.ls.mono (fun _ _ => trivial), ((hL2s.pure kd_17).pure hd_18).mono (fun _ _ => trivial), (hb1s.pure kd_17).pure hd_18, (hb2s.pure kd_17).pure hd_18, (hb3s.pure kd_17).pure hd_18, (hss.pure kd_17).pure hd_18, (hsw.pure kd_17).pure hd_18⟩
    refine DT.step [(10, _), (36, _)] rfl ⟨rfl, rfl, trivial⟩ rfl (fun wq_27 kq_27 => ?_)
    replace hd_18 := hd_18.pure kq_27
    replace hO3 := hO3.pure kq_27
    replace hb_4 := hb_4.pure kq_27
    refine WL.stores Try.sizeOf33 hb_4 rfl rfl (by rfl) (by simp [Value.oneCell']) (by simp [Value.cells]) rfl ?_
    intro w_28 hs_28 hn_28 k_28
    replace hd_18 := hd_18.chg k_28 (by first | (intro x h1 h2; have h3 : _ = _ := h2; exfalso; omega) | (intro b h1 h2 h3; have h4 : _ = _ := h3; (try dsimp only at h2); exfalso; omega))
    replace hO3 := hO3.chg k_28 (by first | (intro x h1 h2; have h3 : _ = _ := h2; exfalso; omega) | (intro b h1 h2 h3; have h4 : _ = _ := h3; (try dsimp only at h2); exfalso; omega))
    replace hb_4 := hn_28
    refine WL.nil (WX.one0 (v := undef) ⟨hd_18, ?_⟩)
    refine ⟨?_, trivial, trivial, trivial⟩
    refine DT.step [(31, _)] rfl ⟨rfl, trivial⟩ rfl (fun wq_29 kq_29 => ?_)
    replace hd_18 := hd_18.pure kq_29
    replace hO3 := hO3.pure kq_29
    replace hb_4 := hb_4.pure kq_29
    refine WL.extract rfl rfl rfl (WL.nil (WX.one ⟨hd_18, ?_⟩))
    refine ⟨?_, trivial, trivial⟩
    refine DT.step [(37, _)] rfl ⟨rfl, trivial⟩ rfl (fun wq_30 kq_30 => ?_)
    replace hd_18 := hd_18.pure kq_30
    replace hO3 := hO3.pure kq_30
    replace hb_4 := hb_4.pure kq_30
    refine WL.assign rfl rfl (WL.nil (WX.one ⟨hd_18, ?_⟩))
    refine ⟨?_, trivial⟩
    refine DT.step [(38, _)] rfl ⟨rfl, trivial⟩ rfl (fun wq_31 kq_31 => ?_)
    replace hd_18 := hd_18.pure kq_31
    replace hO3 := hO3.pure kq_31
    replace hb_4 := hb_4.pure kq_31
    refine WL.assign rfl rfl (WL.nil (WX.one ⟨hd_18, ?_⟩))
    refine DT.done (fun we_32 ke_32 => ?_) _
    replace hd_18 := hd_18.pure ke_32
    replace hO3 := hO3.pure ke_32
    replace hb_4 := hb_4.pure ke_32
    exact WX.cut (l3, g_4) ⟨rfl, rfl, rfl, rfl, rfl, rfl, rfl, rfl, rfl, trivial⟩ ⟨ha3, ⟨hlt34, hb_4.lt⟩, hb_4, hO3.ls.mono (fun _ _ => trivial), ((hL2s.pure kd_17).pure hd_18).mono (fun _ _ => trivial), (hb1s.pure kd_17).pure hd_18, (hb2s.pure kd_17).pure hd_18, (hb3s.pure kd_17).pure hd_18, (hss.pure kd_17).pure hd_18, (hsw.pure kd_17).pure hd_18⟩
    refine DT.step [(31, _)] rfl ⟨rfl, trivial⟩ rfl (fun wq_26 kq_26 => ?_)
    replace hd_18 := hd_18.pure kq_26
    replace hO3 := hO3.pure kq_26
    replace hb_4 := hb_4.pure kq_26
    refine WL.extract rfl rfl rfl (WL.nil (WX.one ⟨hd_18, ?_⟩))
    refine ⟨?_, trivial, trivial, trivial, trivial⟩
    refine DT.step [(31, _)] rfl ⟨rfl, trivial⟩ rfl (fun wq_27 kq_27 => ?_)
    replace hd_18 := hd_18.pure kq_27
    replace hO3 := hO3.pure kq_27
    replace hb_4 := hb_4.pure kq_27
    refine WL.extract rfl rfl rfl (WL.nil (WX.one ⟨hd_18, ?_⟩))
    refine ⟨?_, trivial, trivial, trivial⟩
    refine DT.step [(10, _), (36, _)] rfl ⟨rfl, rfl, trivial⟩ rfl (fun wq_28 kq_28 => ?_)
    replace hd_18 := hd_18.pure kq_28
    replace hO3 := hO3.pure kq_28
    replace hb_4 := hb_4.pure kq_28
    refine WL.stores Try.sizeOf33 hb_4 rfl rfl (by rfl) (by simp [Value.oneCell']) (by simp [Value.cells]) rfl ?_
    intro w_29 hs_29 hn_29 k_29
    replace hd_18 := hd_18.chg k_29 (by first | (intro x h1 h2; have h3 : _ = _ := h2; exfalso; omega) | (intro b h1 h2 h3; have h4 : _ = _ := h3; (try dsimp only at h2); exfalso; omega))
    replace hO3 := hO3.chg k_29 (by first | (intro x h1 h2; have h3 : _ = _ := h2; exfalso; omega) | (intro b h1 h2 h3; have h4 : _ = _ := h3; (try dsimp only at h2); exfalso; omega))
    replace hb_4 := hn_29
    refine WL.nil (WX.one0 (v := undef) ⟨hd_18, ?_⟩)
    refine ⟨?_, trivial, trivial⟩
    refine DT.step [(37, _)] rfl ⟨rfl, trivial⟩ rfl (fun wq_30 kq_30 => ?_)
    replace hd_18 := hd_18.pure kq_30
    replace hO3 := hO3.pure kq_30
    replace hb_4 := hb_4.pure kq_30
    refine WL.assign rfl rfl (WL.nil (WX.one ⟨hd_18, ?_⟩))
    refine ⟨?_, trivial⟩
    refine DT.step [(38, _)] rfl ⟨rfl, trivial⟩ rfl (fun wq_31 kq_31 => ?_)
    replace hd_18 := hd_18.pure kq_31
    replace hO3 := hO3.pure kq_31
    replace hb_4 := hb_4.pure kq_31
    refine WL.assign rfl rfl (WL.nil (WX.one ⟨hd_18, ?_⟩))
    refine DT.done (fun we_32 ke_32 => ?_) _
    replace hd_18 := hd_18.pure ke_32
    replace hO3 := hO3.pure ke_32
    replace hb_4 := hb_4.pure ke_32
    exact WX.cut (l3, g_4) ⟨rfl, rfl, rfl, rfl, rfl, rfl, rfl, rfl, rfl, trivial⟩ ⟨ha3, ⟨hlt34, hb_4.lt⟩, hb_4, hO3.ls.mono (fun _ _ => trivial), ((hL2s.pure kd_17).pure hd_18).mono (fun _ _ => trivial), (hb1s.pure kd_17).pure hd_18, (hb2s.pure kd_17).pure hd_18, (hb3s.pure kd_17).pure hd_18, (hss.pure kd_17).pure hd_18, (hsw.pure kd_17).pure hd_18⟩
    refine DT.step [] rfl trivial rfl (fun wq_22 kq_22 => ?_)
    replace h := h.pure kq_22
    replace hb1 := hb1.pure kq_22
    replace hb2 := hb2.pure kq_22
    replace hd_18 := hd_18.pure kq_22
    replace hLa := hLa.pure kq_22
    try replace hO3 := hO3.lt
    have hsz17 := hd_18.size
    have hlt33 := Nat.lt_of_lt_of_le lg3 (Nat.le_trans kd_17.size hd_18.size)
    refine WL.alloc Try.zeroValue33 rfl ?_
    intro g_4 ws4 hge4 hlt4 hb_4 ks4
    have hlt34 : g_3 < g_4 := Nat.lt_of_lt_of_le hlt33 hge4
    have hge17 : wd_17.heap.size ≤ g_4 := Nat.le_trans hsz17 hge4
    clear hlt33 hsz17
    replace h := h.pure ks4
    replace hb1 := hb1.pure ks4
    replace hb2 := hb2.pure ks4
    replace hd_18 := hd_18.pure ks4
    replace hLa := hLa.pure ks4
    refine WL.nil (WX.one ⟨hd_18, ?_⟩)
    refine ⟨?_, trivial, trivial, trivial, trivial, trivial, trivial, trivial, trivial⟩
    refine DT.step [(33, _), (34, _)] rfl ⟨rfl, rfl, trivial⟩ rfl (fun wq_23 kq_23 => ?_)
    replace h := h.pure kq_23
    replace hb1 := hb1.pure kq_23
    replace hb2 := hb2.pure kq_23
    replace hd_18 := hd_18.pure kq_23
    replace hLa := hLa.pure kq_23
    replace hb_4 := hb_4.pure kq_23
    try have lg4 := hb_4.lt
    refine WL.call eg_13 rfl rfl (Kill_calls hLa ((ha ▸ hs2.sma : SmA 20 l1.abs).up (by decide)).sm p) ?_
    rintro v w1 ⟨⟨l3, b3, e3, rfl, hR3, hO3⟩, k1⟩
    replace hd_18 := hd_18.pure k1
    replace hb_4 := hb_4.pure k1
    replace hO3 := hO3.lt
    rw [ha] at hR3
    obtain ⟨ha3, rfl, rfl⟩ := hR3.uniq hR2
    refine WL.nil (WX.one ⟨hd_18, ?_⟩)
    refine ⟨?_, trivial, trivial, trivial, trivial, trivial, trivial, trivial⟩
    refine DT.step [(35, _)] rfl ⟨rfl, trivial⟩ rfl (fun wq_24 kq_24 => ?_)
    replace hd_18 := hd_18.pure kq_24
    replace hb_4 := hb_4.pure kq_24
    replace hO3 := hO3.pure kq_24
    refine WL.move rfl rfl (WL.nil (WX.one ⟨hd_18, ?_⟩))
    refine ⟨?_, ?_, ?_, trivial, trivial, trivial, trivial⟩
    refine DT.step [(31, _)] rfl ⟨rfl, trivial⟩ rfl (fun wq_25 kq_25 => ?_)
    replace hd_18 := hd_18.pure kq_25
    replace hb_4 := hb_4.pure kq_25
    replace hO3 := hO3.pure kq_25
    refine WL.extract rfl rfl rfl (WL.nil (WX.one ⟨hd_18, ?_⟩))
    refine ⟨?_, ?_, ?_, trivial, trivial, trivial⟩
    refine DT.step [(31, _)] rfl ⟨rfl, trivial⟩ rfl (fun wq_26 kq_26 => ?_)
    replace hd_18 := hd_18.pure kq_26
    replace hb_4 := hb_4.pure kq_26
    replace hO3 := hO3.pure kq_26
    refine WL.extract rfl rfl rfl (WL.nil (WX.one ⟨hd_18, ?_⟩))
    refine ⟨?_, ?_, trivial, trivial, trivial⟩
    refine DT.step [(31, _)] rfl ⟨rfl, trivial⟩ rfl (fun wq_27 kq_27 => ?_)
    replace hd_18 := hd_18.pure kq_27
    replace hb_4 := hb_4.pure kq_27
    replace hO3 := hO3.pure kq_27
    refine WL.extract rfl rfl rfl (WL.nil (WX.one ⟨hd_18, ?_⟩))
    refine ⟨?_, trivial, trivial, trivial⟩
    refine DT.step [(10, _), (36, _)] rfl ⟨rfl, rfl, trivial⟩ rfl (fun wq_28 kq_28 => ?_)
    replace hd_18 := hd_18.pure kq_28
    replace hb_4 := hb_4.pure kq_28
    replace hO3 := hO3.pure kq_28
    refine WL.stores Try.sizeOf33 hb_4 rfl rfl (by rfl) (by simp [Value.oneCell']) (by simp [Value.cells]) rfl ?_
    intro w_29 hs_29 hn_29 k_29
    replace hd_18 := hd_18.chg k_29 (by first | (intro x h1 h2; have h3 : _ = _ := h2; exfalso; omega) | (intro b h1 h2 h3; have h4 : _ = _ := h3; (try dsimp only at h2); exfalso; omega))
    replace hO3 := hO3.chg k_29 (by first | (intro x h1 h2; have h3 : _ = _ := h2; exfalso; omega) | (intro b h1 h2 h3; have h4 : _ = _ := h3; (try dsimp only at h2); exfalso; omega))
    replace hb_4 := hn_29
    refine WL.nil (WX.one0 (v := undef) ⟨hd_18, ?_⟩)
    refine ⟨?_, trivial, trivial⟩
    refine DT.step [(37, _)] rfl ⟨rfl, trivial⟩ rfl (fun wq_30 kq_30 => ?_)
    replace hd_18 := hd_18.pure kq_30
    replace hb_4 := hb_4.pure kq_30
    replace hO3 := hO3.pure kq_30
    refine WL.assign rfl rfl (WL.nil (WX.one ⟨hd_18, ?_⟩))
    refine ⟨?_, trivial⟩
    refine DT.step [(38, _)] rfl ⟨rfl, trivial⟩ rfl (fun wq_31 kq_31 => ?_)
    replace hd_18 := hd_18.pure kq_31
    replace hb_4 := hb_4.pure kq_31
    replace hO3 := hO3.pure kq_31
    refine WL.assign rfl rfl (WL.nil (WX.one ⟨hd_18, ?_⟩))
    refine DT.done (fun we_32 ke_32 => ?_) _
    replace hd_18 := hd_18.pure ke_32
    replace hb_4 := hb_4.pure ke_32
    replace hO3 := hO3.pure ke_32
    exact WX.cut (l3, g_4) ⟨rfl, rfl, rfl, rfl, rfl, rfl, rfl, rfl, rfl, trivial⟩ ⟨ha3, ⟨hlt34, hb_4.lt⟩, hb_4, hO3.ls.mono (fun _ _ => trivial), ((hL2s.pure kd_17).pure hd_18).mono (fun _ _ => trivial), (hb1s.pure kd_17).pure hd_18, (hb2s.pure kd_17).pure hd_18, (hb3s.pure kd_17).pure hd_18, (hss.pure kd_17).pure hd_18, (hsw.pure kd_17).pure hd_18⟩
    refine DT.step [(10, _), (36, _)] rfl ⟨rfl, rfl, trivial⟩ rfl (fun wq_27 kq_27 => ?_)
    replace hd_18 := hd_18.pure kq_27
    replace hb_4 := hb_4.pure kq_27
    replace hO3 := hO3.pure kq_27
    refine WL.stores Try.sizeOf33 hb_4 rfl rfl (by rfl) (by simp [Value.oneCell']) (by simp [Value.cells]) rfl ?_
    intro w_28 hs_28 hn_28 k_28
    replace hd_18 := hd_18.chg k_28 (by first | (intro x h1 h2; have h3 : _ = _ := h2; exfalso; omega) | (intro b h1 h2 h3; have h4 : _ = _ := h3; (try dsimp only at h2); exfalso; omega))
    replace hO3 := hO3.chg k_28 (by first | (intro x h1 h2; have h3 : _ = _ := h2; exfalso; omega) | (intro b h1 h2 h3; have h4 : _ = _ := h3; (try dsimp only at h2); exfalso; omega))
    replace hb_4 := hn_28
    refine WL.nil (WX.one0 (v := undef) ⟨hd_18, ?_⟩)
    refine ⟨?_, ?_, trivial, trivial⟩
    refine DT.step [(31, _)] rfl ⟨rfl, trivial⟩ rfl (fun wq_29 kq_29 => ?_)
    replace hd_18 := hd_18.pure kq_29
    replace hb_4 := hb_4.pure kq_29
    replace hO3 := hO3.pure kq_29
    refine WL.extract rfl rfl rfl (WL.nil (WX.one ⟨hd_18, ?_⟩))
    refine ⟨?_, trivial, trivial⟩
    refine DT.step [(37, _)] rfl ⟨rfl, trivial⟩ rfl (fun wq_30 kq_30 => ?_)
    replace hd_18 := hd_18.pure kq_30
    replace hb_4 := hb_4.pure kq_30
    replace hO3 := hO3.pure kq_30
    refine WL.assign rfl rfl (WL.nil (WX.one ⟨hd_18, ?_⟩))
    refine ⟨?_, trivial⟩
    refine DT.step [(38, _)] rfl ⟨rfl, trivial⟩ rfl (fun wq_31 kq_31 => ?_)
    replace hd_18 := hd_18.pure kq_31
    replace hb_4 := hb_4.pure kq_31
    replace hO3 := hO3.pure kq_31
    refine WL.assign rfl rfl (WL.nil (WX.one ⟨hd_18, ?_⟩))
    refine DT.done (fun we_32 ke_32 => ?_) _
    replace hd_18 := hd_18.pure ke_32
    replace hb_4 := hb_4.pure ke_32
    replace hO3 := hO3.pure ke_32
    exact WX.cut (l3, g_4) ⟨rfl, rfl, rfl, rfl, rfl, rfl, rfl, rfl, rfl, trivial⟩ ⟨ha3, ⟨hlt34, hb_4.lt⟩, hb_4, hO3.ls.mono (fun _ _ => trivial), ((hL2s.pure kd_17).pure hd_18).mono (fun _ _ => trivial), (hb1s.pure kd_17).pure hd_18, (hb2s.pure kd_17).pure hd_18, (hb3s.pure kd_17).pure hd_18, (hss.pure kd_17).pure hd_18, (hsw.pure kd_17).pure hd_18⟩
    refine DT.step [(37, _)] rfl ⟨rfl, trivial⟩ rfl (fun wq_29 kq_29 => ?_)
    replace hd_18 := hd_18.pure kq_29
    replace hb_4 := hb_4.pure kq_29
    replace hO3 := hO3.pure kq_29
    refine WL.assign rfl rfl (WL.nil (WX.one ⟨hd_18, ?_⟩))
    refine ⟨?_, trivial, trivial⟩
    refine DT.step [(31, _)] rfl ⟨rfl, trivial⟩ rfl (fun wq_30 kq_30 => ?_)
    replace hd_18 := hd_18.pure kq_30
    replace hb_4 := hb_4.pure kq_30
    replace hO3 := hO3.pure kq_30
    refine WL.extract rfl rfl rfl (WL.nil (WX.one ⟨hd_18, ?_⟩))
    refine ⟨?_, trivial⟩
    refine DT.step [(38, _)] rfl ⟨rfl, trivial⟩ rfl (fun wq_31 kq_31 => ?_)
    replace hd_18 := hd_18.pure kq_31
    replace hb_4 := hb_4.pure kq_31
    replace hO3 := hO3.pure kq_31
    refine WL.assign rfl rfl (WL.nil (WX.one ⟨hd_18, ?_⟩))
    refine DT.done (fun we_32 ke_32 => ?_) _
    replace hd_18 := hd_18.pure ke_32
    replace hb_4 := hb_4.pure ke_32
    replace hO3 := hO3.pure ke_32
    exact WX.cut (l3, g_4) ⟨rfl, rfl, rfl, rfl, rfl, rfl, rfl, rfl, rfl, trivial⟩ ⟨ha3, ⟨hlt34, hb_4.lt⟩, hb_4, hO3.ls.mono (fun _ _ => trivial), ((hL2s.pure kd_17).pure hd_18).mono (fun _ _ => trivial), (hb1s.pure kd_17).pure hd_18, (hb2s.pure kd_17).pure hd_18, (hb3s.pure kd_17).pure hd_18, (hss.pure kd_17).pure hd_18, (hsw.pure kd_17).pure hd_18⟩
    refine DT.step [(31, _)] rfl ⟨rfl, trivial⟩ rfl (fun wq_26 kq_26 => ?_)
    replace hd_18 := hd_18.pure kq_26
    replace hb_4 := hb_4.pure kq_26
    replace hO3 := hO3.pure kq_26
    refine WL.extract rfl rfl rfl (WL.nil (WX.one ⟨hd_18, ?_⟩))
    refine ⟨?_, ?_, trivial, trivial, trivial⟩
    refine DT.step [(31, _)] rfl ⟨rfl, trivial⟩ rfl (fun wq_27 kq_27 => ?_)
    replace hd_18 := hd_18.pure kq_27
    replace hb_4 := hb_4.pure kq_27
    replace hO3 := hO3.pure kq_27
    refine WL.extract rfl rfl rfl (WL.nil (WX.one ⟨hd_18, ?_⟩))
    refine ⟨?_, trivial, trivial, trivial⟩
    refine DT.step [(10, _), (36, _)] rfl ⟨rfl, rfl, trivial⟩ rfl (fun wq_28 kq_28 => ?_)
    replace hd_18 := hd_18.pure kq_28
    replace hb_4 := hb_4.pure kq_28
    replace hO3 := hO3.pure kq_28
    refine WL.stores Try.sizeOf33 hb_4 rfl rfl (by rfl) (by simp [Value.oneCell']) (by simp [Value.cells]) rfl ?_
    intro w_29 hs_29 hn_29 k_29
    replace hd_18 := hd_18.chg k_29 (by first | (intro x h1 h2; have h3 : _ = _ := h2; exfalso; omega) | (intro b h1 h2 h3; have h4 : _ = _ := h3; (try dsimp only at h2); exfalso; omega))
    replace hO3 := hO3.chg k_29 (by first | (intro x h1 h2; have h3 : _ = _ := h2; exfalso; omega) | (intro b h1 h2 h3; have h4 : _ = _ := h3; (try dsimp only at h2); exfalso; omega))
    replace hb_4 := hn_29
    refine WL.nil (WX.one0 (v := undef) ⟨hd_18, ?_⟩)
    refine ⟨?_, trivial, trivial⟩
    refine DT.step [(37, _)] rfl ⟨rfl, trivial⟩ rfl (fun wq_30 kq_30 => ?_)
    replace hd_18 := hd_18.pure kq_30
    replace hb_4 := hb_4.pure kq_30
    replace hO3 := hO3.pure kq_30
    refine WL.assign rfl rfl (WL.nil (WX.one ⟨hd_18, ?_⟩))
    refine ⟨?_, trivial⟩
    refine DT.step [(38, _)] rfl ⟨rfl, trivial⟩ rfl (fun wq_31 kq_31 => ?_)
    replace hd_18 := hd_18.pure kq_31
    replace hb_4 := hb_4.pure kq_31
    replace hO3 := hO3.pure kq_31
    refine WL.assign rfl rfl (WL.nil (WX.one ⟨hd_18, ?_⟩))
    refine DT.done (fun we_32 ke_32 => ?_) _
    replace hd_18 := hd_18.pure ke_32
    replace hb_4 := hb_4.pure ke_32
    replace hO3 := hO3.pure ke_32
    exact WX.cut (l3, g_4) ⟨rfl, rfl, rfl, rfl, rfl, rfl, rfl, rfl, rfl, trivial⟩ ⟨ha3, ⟨hlt34, hb_4.lt⟩, hb_4, hO3.ls.mono (fun _ _ => trivial), ((hL2s.pure kd_17).pure hd_18).mono (fun _ _ => trivial), (hb1s.pure kd_17).pure hd_18, (hb2s.pure kd_17).pure hd_18, (hb3s.pure kd_17).pure hd_18, (hss.pure kd_17).pure hd_18, (hsw.pure kd_17).pure hd_18⟩
    refine DT.step [(10, _), (36, _)] rfl ⟨rfl, rfl, trivial⟩ rfl (fun wq_27 kq_27 => ?_)
    replace hd_18 := hd_18.pure kq_27
    replace hb_4 := hb_4.pure kq_27
    replace hO3 := hO3.pure kq_27
    refine WL.stores Try.sizeOf33 hb_4 rfl rfl (by rfl) (by simp [Value.oneCell']) (by simp [Value.cells]) rfl ?_
    intro w_28 hs_28 hn_28 k_28
    replace hd_18 := hd_18.chg k_28 (by first | (intro x h1 h2; have h3 : _ = _ := h2; exfalso; omega) | (intro b h1 h2 h3; have h4 : _ = _ := h3; (try dsimp only at h2); exfalso; omega))
    replace hO3 := hO3.chg k_28 (by first | (intro x h1 h2; have h3 : _ = _ := h2; exfalso; omega) | (intro b h1 h2 h3; have h4 : _ = _ := h3; (try dsimp only at h2); exfalso; omega))
    replace hb_4 := hn_28
    refine WL.nil (WX.one0 (v := undef) ⟨hd_18, ?_⟩)
    refine ⟨?_, trivial, trivial, trivial⟩
    refine DT.step [(31, _)] rfl ⟨rfl, trivial⟩ rfl (fun wq_29 kq_29 => ?_)
    replace hd_18 := hd_18.pure kq_29
    replace hb_4 := hb_4.pure kq_29
    replace hO3 := hO3.pure kq_29
    refine WL.extract rfl rfl rfl (WL.nil (WX.one ⟨hd_18, ?_⟩))
    refine ⟨?_, trivial, trivial⟩
    refine DT.step [(37, _)] rfl ⟨rfl, trivial⟩ rfl (fun wq_30 kq_30 => ?_)
    replace hd_18 := hd_18.pure kq_30
    replace hb_4 := hb_4.pure kq_30
    replace hO3 := hO3.pure kq_30
    refine WL.assign rfl rfl (WL.nil (WX.one ⟨hd_18, ?_⟩))
    refine ⟨?_, trivial⟩
    refine DT.step [(38, _)] rfl ⟨rfl, trivial⟩ rfl (fun wq_31 kq_31 => ?_)
    replace hd_18 := hd_18.pure kq_31
    replace hb_4 := hb_4.pure kq_31
    replace hO3 := hO3.pure kq_31
    refine WL.assign rfl rfl (WL.nil (WX.one ⟨hd_18, ?_⟩))
    refine DT.done (fun we_32 ke_32 => ?_) _
    replace hd_18 := hd_18.pure ke_32
    replace hb_4 := hb_4.pure ke_32
    replace hO3 := hO3.pure ke_32
    exact WX.cut (l3, g_4) ⟨rfl, rfl, rfl, rfl, rfl, rfl, rfl, rfl, rfl, trivial⟩ ⟨ha3, ⟨hlt34, hb_4.lt⟩, hb_4, hO3.ls.mono (fun _ _ => trivial), ((hL2s.pure kd_17).pure hd_18).mono (fun _ _ => trivial), (hb1s.pure kd_17).pure hd_18, (hb2s.pure kd_17).pure hd_18, (hb3s.pure kd_17).pure hd_18, (hss.pure kd_17).pure hd_18, (hsw.pure kd_17).pure hd_18⟩
    refine DT.step [(10, _), (36, _)] rfl ⟨rfl, rfl, trivial⟩ rfl (fun wq_26 kq_26 => ?_)
    replace hd_18 := hd_18.pure kq_26
    replace hb_4 := hb_4.pure kq_26
    replace hO3 := hO3.pure kq_26
    refine WL.stores Try.sizeOf33 hb_4 rfl rfl (by rfl) (by simp [Value.oneCell']) (by simp [Value.cells]) rfl ?_
    intro w_27 hs_27 hn_27 k_27
    replace hd_18 := hd_18.chg k_27 (by first | (intro x h1 h2; have h3 : _ = _ := h2; exfalso; omega) | (intro b h1 h2 h3; have h4 : _ = _ := h3; (try dsimp only at h2); exfalso; omega))
    replace hO3 := hO3.chg k_27 (by first | (intro x h1 h2; have h3 : _ = _ := h2; exfalso; omega) | (intro b h1 h2 h3; have h4 : _ = _ := h3; (try dsimp only at h2); exfalso; omega))
    replace hb_4 := hn_27
    refine WL.nil (WX.one0 (v := undef) ⟨hd_18, ?_⟩)
    refine ⟨?_, ?_, trivial, trivial, trivial⟩
    refine DT.step [(31, _)] rfl ⟨rfl, trivial⟩ rfl (fun wq_28 kq_28 => ?_)
    replace hd_18 := hd_18.pure kq_28
    replace hb_4 := hb_4.pure kq_28
    replace hO3 := hO3.pure kq_28
    refine WL.extract rfl rfl rfl (WL.nil (WX.one ⟨hd_18, ?_⟩))
    refine ⟨?_, ?_, trivial, trivial⟩
    refine DT.step [(31, _)] rfl ⟨rfl, trivial⟩ rfl (fun wq_29 kq_29 => ?_)
    replace hd_18 := hd_18.pure kq_29
    replace hb_4 := hb_4.pure kq_29
    replace hO3 := hO3.pure kq_29
    refine WL.extract rfl rfl rfl (WL.nil (WX.one ⟨hd_18, ?_⟩))
    refine ⟨?_, trivial, trivial⟩
    refine DT.step [(37, _)] rfl ⟨rfl, trivial⟩ rfl (fun wq_30 kq_30 => ?_)
    replace hd_18 := hd_18.pure kq_30
    replace hb_4 := hb_4.pure kq_30
    replace hO3 := hO3.pure kq_30
    refine WL.assign rfl rfl (WL.nil (WX.one ⟨hd_18, ?_⟩))
    refine ⟨?_, trivial⟩
    refine DT.step [(38, _)] rfl ⟨rfl, trivial⟩ rfl (fun wq_31 kq_31 => ?_)
    replace hd_18 := hd_18.pure kq_31
    replace hb_4 := hb_4.pure kq_31
    replace hO3 := hO3.pure kq_31
    refine WL.assign rfl rfl (WL.nil (WX.one ⟨hd_18, ?_⟩))
    refine DT.done (fun we_32 ke_32 => ?_) _
    replace hd_18 := hd_18.pure ke_32
    replace hb_4 := hb_4.pure ke_32
    replace hO3 := hO3.pure ke_32
    exact WX.cut (l3, g_4) ⟨rfl, rfl, rfl, rfl, rfl, rfl, rfl, rfl, rfl, trivial⟩ ⟨ha3, ⟨hlt34, hb_4.lt⟩, hb_4, hO3.ls.mono (fun _ _ => trivial), ((hL2s.pure kd_17).pure hd_18).mono (fun _ _ => trivial), (hb1s.pure kd_17).pure hd_18, (hb2s.pure kd_17).pure hd_18, (hb3s.pure kd_17).pure hd_18, (hss.pure kd_17).pure hd_18, (hsw.pure kd_17).pure hd_18⟩
    refine DT.step [(37, _)] rfl ⟨rfl, trivial⟩ rfl (fun wq_29 kq_29 => ?_)
    replace hd_18 := hd_18.pure kq_29
    replace hb_4 := hb_4.pure kq_29
    replace hO3 := hO3.pure kq_29
    refine WL.assign rfl rfl (WL.nil (WX.one ⟨hd_18, ?_⟩))
    refine ⟨?_, trivial, trivial⟩
    refine DT.step [(31, _)] rfl ⟨rfl, trivial⟩ rfl (fun wq_30 kq_30 => ?_)
    replace hd_18 := hd_18.pure kq_30
    replace hb_4 := hb_4.pure kq_30
    replace hO3 := hO3.pure kq_30
    refine WL.extract rfl rfl rfl (WL.nil (WX.one ⟨hd_18, ?_⟩))
    refine ⟨?_, trivial⟩
    refine DT.step [(38, _)] rfl ⟨rfl, trivial⟩ rfl (fun wq_31 kq_31 => ?_)
    replace hd_18 := hd_18.pure kq_31
    replace hb_4 := hb_4.pure kq_31
    replace hO3 := hO3.pure kq_31
    refine WL.assign rfl rfl (WL.nil (WX.one ⟨hd_18, ?_⟩))
    refine DT.done (fun we_32 ke_32 => ?_) _
    replace hd_18 := hd_18.pure ke_32
    replace hb_4 := hb_4.pure ke_32
    replace hO3 := hO3.pure ke_32
    exact WX.cut (l3, g_4) ⟨rfl, rfl, rfl, rfl, rfl, rfl, rfl, rfl, rfl, trivial⟩ ⟨ha3, ⟨hlt34, hb_4.lt⟩, hb_4, hO3.ls.mono (fun _ _ => trivial), ((hL2s.pure kd_17).pure hd_18).mono (fun _ _ => trivial), (hb1s.pure kd_17).pure hd_18, (hb2s.pure kd_17).pure hd_18, (hb3s.pure kd_17).pure hd_18, (hss.pure kd_17).pure hd_18, (hsw.pure kd_17).pure hd_18⟩
    refine DT.step [(31, _)] rfl ⟨rfl, trivial⟩ rfl (fun wq_28 kq_28 => ?_)
    replace hd_18 := hd_18.pure kq_28
    replace hb_4 := hb_4.pure kq_28
    replace hO3 := hO3.pure kq_28
    refine WL.extract rfl rfl rfl (WL.nil (WX.one ⟨hd_18, ?_⟩))
    refine ⟨?_, trivial, trivial, trivial⟩
    refine DT.step [(31, _)] rfl ⟨rfl, trivial⟩ rfl (fun wq_29 kq_29 => ?_)
    replace hd_18 := hd_18.pure kq_29
    replace hb_4 := hb_4.pure kq_29
    replace hO3 := hO3.pure kq_29
    refine WL.extract rfl rfl rfl (WL.nil (WX.one ⟨hd_18, ?_⟩))
    refine ⟨?_, trivial, trivial⟩
    refine DT.step [(37, _)] rfl ⟨rfl, trivial⟩ rfl (fun wq_30 kq_30 => ?_)
    replace hd_18 := hd_18.pure kq_30
    replace hb_4 := hb_4.pure kq_30
    replace hO3 := hO3.pure kq_30
    refine WL.assign rfl rfl (WL.nil (WX.one ⟨hd_18, ?_⟩))
    refine ⟨?_, trivial⟩
    refine DT.step [(38, _)] rfl ⟨rfl, trivial⟩ rfl (fun wq_31 kq_31 => ?_)
    replace hd_18 := hd_18.pure kq_31
    replace hb_4 := hb_4.pure kq_31
    replace hO3 := hO3.pure kq_31
    refine WL.assign rfl rfl (WL.nil (WX.one ⟨hd_18, ?_⟩))
    refine DT.done (fun we_32 ke_32 => ?_) _
    replace hd_18 := hd_18.pure ke_32
    replace hb_4 := hb_4.pure ke_32
    replace hO3 := hO3.pure ke_32
    exact WX.cut (l3, g_4) ⟨rfl, rfl, rfl, rfl, rfl, rfl, rfl, rfl, rfl, trivial⟩ ⟨ha3, ⟨hlt34, hb_4.lt⟩, hb_4, hO3.ls.mono (fun _ _ => trivial), ((hL2s.pure kd_17).pure hd_18).mono (fun _ _ => trivial), (hb1s.pure kd_17).pure hd_18, (hb2s.pure kd_17).pure hd_18, (hb3s.pure kd_17).pure hd_18, (hss.pure kd_17).pure hd_18, (hsw.pure kd_17).pure hd_18⟩
    refine DT.step [(31, _)] rfl ⟨rfl, trivial⟩ rfl (fun wq_25 kq_25 => ?_)
    replace hd_18 := hd_18.pure kq_25
    replace hb_4 := hb_4.pure kq_25
    replace hO3 := hO3.pure kq_25
    refine WL.extract rfl rfl rfl (WL.nil (WX.one ⟨hd_18, ?_⟩))
    refine ⟨?_, ?_, trivial, trivial, trivial, trivial⟩
    refine DT.step [(31, _)] rfl ⟨rfl, trivial⟩ rfl (fun wq_26 kq_26 => ?_)
    replace hd_18 := hd_18.pure kq_26
    replace hb_4 := hb_4.pure kq_26
    replace hO3 := hO3.pure kq_26
    refine WL.extract rfl rfl rfl (WL.nil (WX.one ⟨hd_18, ?_⟩))
    refine ⟨?_, ?_, trivial, trivial, trivial⟩
    refine DT.step [(31, _)] rfl ⟨rfl, trivial⟩ rfl (fun wq_27 kq_27 => ?_)
    replace hd_18 := hd_18.pure kq_27
    replace hb_4 := hb_4.pure kq_27
    replace hO3 := hO3.pure kq_27
    refine WL.extract rfl rfl rfl (WL.nil (WX.one ⟨hd_18, ?_⟩))
    refine ⟨?_, trivial, trivial, trivial⟩
    refine DT.step [(10, _), (36, _)] rfl ⟨rfl, rfl, trivial⟩ rfl (fun wq_28 kq_28 => ?_)
    replace hd_18 := hd_18.pure kq_28
    replace hb_4 := hb_4.pure kq_28
    replace hO3 := hO3.pure kq_28
    refine WL.stores Try.sizeOf33 hb_4 rfl rfl (by rfl) (by simp [Value.oneCell']) (by simp [Value.cells]) rfl ?_
    intro w_29 hs_29 hn_29 k_29
    replace hd_18 := hd_18.chg k_29 (by first | (intro x h1 h2; have h3 : _ = _ := h2; exfalso; omega) | (intro b h1 h2 h3; have h4 : _ = _ := h3; (try dsimp only at h2); exfalso; omega))
    replace hO3 := hO3.chg k_29 (by first | (intro x h1 h2; have h3 : _ = _ := h2; exfalso; omega) | (intro b h1 h2 h3; have h4 : _ = _ := h3; (try dsimp only at h2); exfalso; omega))
    replace hb_4 := hn_29
    refine WL.nil (WX.one0 (v := undef) ⟨hd_18, ?_⟩)
    refine ⟨?_, trivial, trivial⟩
    refine DT.step [(37, _)] rfl ⟨rfl, trivial⟩ rfl (fun wq_30 kq_30 => ?_)
    replace hd_18 := hd_18.pure kq_30
    replace hb_4 := hb_4.pure kq_30
    replace hO3 := hO3.pure kq_30
    refine WL.assign rfl rfl (WL.nil (WX.one ⟨hd_18, ?_⟩))
    refine ⟨?_, trivial⟩
    refine DT.step [(38, _)] rfl ⟨rfl, trivial⟩ rfl (fun wq_31 kq_31 => ?_)
    replace hd_18 := hd_18.pure kq_31
    replace hb_4 := hb_4.pure kq_31
    replace hO3 := hO3.pure kq_31
    refine WL.assign rfl rfl (WL.nil (WX.one ⟨hd_18, ?_⟩))
    refine DT.done (fun we_32 ke_32 => ?_) _
    replace hd_18 := hd_18.pure ke_32
    replace hb_4 := hb_4.pure ke_32
    replace hO3 := hO3.pure ke_32
    exact WX.cut (l3, g_4) ⟨rfl, rfl, rfl, rfl, rfl, rfl, rfl, rfl, rfl, trivial⟩ ⟨ha3, ⟨hlt34, hb_4.lt⟩, hb_4, hO3.ls.mono (fun _ _ => trivial), ((hL2s.pure kd_17).pure hd_18).mono (fun _ _ => trivial), (hb1s.pure kd_17).pure hd_18, (hb2s.pure kd_17).pure hd_18, (hb3s.pure kd_17).pure hd_18, (hss.pure kd_17).pure hd_18, (hsw.pure kd_17).pure hd_18⟩
    refine DT.step [(10, _), (36, _)] rfl ⟨rfl, rfl, trivial⟩ rfl (fun wq_27 kq_27 => ?_)
    replace hd_18 := hd_18.pure kq_27
    replace hb_4 := hb_4.pure kq_27
    replace hO3 := hO3.pure kq_27
    refine WL.stores Try.sizeOf33 hb_4 rfl rfl (by rfl) (by simp [Value.oneCell']) (by simp [Value.cells]) rfl ?_
    intro w_28 hs_28 hn_28 k_28
    replace hd_18 := hd_18.chg k_28 (by first | (intro x h1 h2; have h3 : _ = _ := h2; exfalso; omega) | (intro b h1 h2 h3; have h4 : _ = _ := h3; (try dsimp only at h2); exfalso; omega))
    replace hO3 := hO3.chg k_28 (by first | (intro x h1 h2; have h3 : _ = _ := h2; exfalso; omega) | (intro b h1 h2 h3; have h4 : _ = _ := h3; (try dsimp only at h2); exfalso; omega))
    replace hb_4 := hn_28
    refine WL.nil (WX.one0 (v := undef) ⟨hd_18, ?_⟩)
    refine ⟨?_, ?_, trivial, trivial⟩
    refine DT.step [(31, _)] rfl ⟨rfl, trivial⟩ rfl (fun wq_29 kq_29 => ?_)
    replace hd_18 := hd_18.pure kq_29
    replace hb_4 := hb_4.pure kq_29
    replace hO3 := hO3.pure kq_29
    refine WL.extract rfl rfl rfl (WL.nil (WX.one ⟨hd_18, ?_⟩))
    refine ⟨?_, trivial, trivial⟩
    refine DT.step [(37, _)] rfl ⟨rfl, trivial⟩ rfl (fun wq_30 kq_30 => ?_)
    replace hd_18 := hd_18.pure kq_30
    replace hb_4 := hb_4.pure kq_30
    replace hO3 := hO3.pure kq_30
    refine WL.assign rfl rfl (WL.nil (WX.one ⟨hd_18, ?_⟩))
    refine ⟨?_, trivial⟩
    refine DT.step [(38, _)] rfl ⟨rfl, trivial⟩ rfl (fun wq_31 kq_31 => ?_)
    replace hd_18 := hd_18.pure kq_31
    replace hb_4 := hb_4.pure kq_31
    replace hO3 := hO3.pure kq_31
    refine WL.assign rfl rfl (WL.nil (WX.one ⟨hd_18, ?_⟩))
    refine DT.done (fun we_32 ke_32 => ?_) _
    replace hd_18 := hd_18.pure ke_32
    replace hb_4 := hb_4.pure ke_32
    replace hO3 := hO3.pure ke_32
    exact WX.cut (l3, g_4) ⟨rfl, rfl, rfl, rfl, rfl, rfl, rfl, rfl, rfl, trivial⟩ ⟨ha3, ⟨hlt34, hb_4.lt⟩, hb_4, hO3.ls.mono (fun _ _ => trivial), ((hL2s.pure kd_17).pure hd_18).mono (fun _ _ => trivial), (hb1s.pure kd_17).pure hd_18, (hb2s.pure kd_17).pure hd_18, (hb3s.pure kd_17).pure hd_18, (hss.pure kd_17).pure hd_18, (hsw.pure kd_17).pure hd_18⟩
    refine DT.step [(37, _)] rfl ⟨rfl, trivial⟩ rfl (fun wq_29 kq_29 => ?_)
    replace hd_18 := hd_18.pure kq_29
    replace hb_4 := hb_4.pure kq_29
    replace hO3 := hO3.pure kq_29
    refine WL.assign rfl rfl (WL.nil (WX.one ⟨hd_18, ?_⟩))
    refine ⟨?_, trivial, trivial⟩
    refine DT.step [(31, _)] rfl ⟨rfl, trivial⟩ rfl (fun wq_30 kq_30 => ?_)
    replace hd_18 := hd_18.pure kq_30
    replace hb_4 := hb_4.pure kq_30
    replace hO3 := hO3.pure kq_30
    refine WL.extract rfl rfl rfl (WL.nil (WX.one ⟨hd_18, ?_⟩))
    refine ⟨?_, trivial⟩
    refine DT.step [(38, _)] rfl ⟨rfl, trivial⟩ rfl (fun wq_31 kq_31 => ?_)
    replace hd_18 := hd_18.pure kq_31
    replace hb_4 := hb_4.pure kq_31
    replace hO3 := hO3.pure kq_31
    refine WL.assign rfl rfl (WL.nil (WX.one ⟨hd_18, ?_⟩))
    refine DT.done (fun we_32 ke_32 => ?_) _
    replace hd_18 := hd_18.pure ke_32
    replace hb_4 := hb_4.pure ke_32
    replace hO3 := hO3.pure ke_32
    exact WX.cut (l3, g_4) ⟨rfl, rfl, rfl, rfl, rfl, rfl, rfl, rfl, rfl, trivial⟩ ⟨ha3, ⟨hlt34, hb_4.lt⟩, hb_4, hO3.ls.mono (fun _ _ => trivial), ((hL2s.pure kd_17).pure hd_18).mono (fun _ _ => trivial), (hb1s.pure kd_17).pure hd_18, (hb2s.pure kd_17).pure hd_18, (hb3s.pure kd_17).pure hd_18, (hss.pure kd_17).pure hd_18, (hsw.pure kd_17).pure hd_18⟩
    refine DT.step [(31, _)] rfl ⟨rfl, trivial⟩ rfl (fun wq_26 kq_26 => ?_)
    replace hd_18 := hd_18.pure kq_26
    replace hb_4 := hb_4.pure kq_26
    replace hO3 := hO3.pure kq_26
    refine WL.extract rfl rfl rfl (WL.nil (WX.one ⟨hd_18, ?_⟩))
    refine ⟨?_, trivial, trivial, trivial, trivial⟩
    refine DT.step [(31, _)] rfl ⟨rfl, trivial⟩ rfl (fun wq_27 kq_27 => ?_)
    replace hd_18 := hd_18.pure kq_27
    replace hb_4 := hb_4.pure kq_27
    replace hO3 := hO3.pure kq_27
    refine WL.extract rfl rfl rfl (WL.nil (WX.one ⟨hd_18, ?_⟩))
    refine ⟨?_, trivial, trivial, trivial⟩
    refine DT.step [(10, _), (36, _)] rfl ⟨rfl, rfl, trivial⟩ rfl (fun wq_28 kq_28 => ?_)
    replace hd_18 := hd_18.pure kq_28
    replace hb_4 := hb_4.pure kq_28
    replace hO3 := hO3.pure kq_28
    refine WL.stores Try.sizeOf33 hb_4 rfl rfl (by rfl) (by simp [Value.oneCell']) (by simp [Value.cells]) rfl ?_
    intro w_29 hs_29 hn_29 k_29
    replace hd_18 := hd_18.chg k_29 (by first | (intro x h1 h2; have h3 : _ = _ := h2; exfalso; omega) | (intro b h1 h2 h3; have h4 : _ = _ := h3; (try dsimp only at h2); exfalso; omega))
    replace hO3 := hO3.chg k_29 (by first | (intro x h1 h2; have h3 : _ = _ := h2; exfalso; omega) | (intro b h1 h2 h3; have h4 : _ = _ := h3; (try dsimp only at h2); exfalso; omega))
    replace hb_4 := hn_29
    refine WL.nil (WX.one0 (v := undef) ⟨hd_18, ?_⟩)
    refine ⟨?_, trivial, trivial⟩
    refine DT.step [(37, _)] rfl ⟨rfl, trivial⟩ rfl (fun wq_30 kq_30 => ?_)
    replace hd_18 := hd_18.pure kq_30
    replace hb_4 := hb_4.pure kq_30
    replace hO3 := hO3.pure kq_30
    refine WL.assign rfl rfl (WL.nil (WX.one ⟨hd_18, ?_⟩))
    refine ⟨?_, trivial⟩
    refine DT.step [(38, _)] rfl ⟨rfl, trivial⟩ rfl (fun wq_31 kq_31 => ?_)
    replace hd_18 := hd_18.pure kq_31
    replace hb_4 := hb_4.pure kq_31
    replace hO3 := hO3.pure kq_31
    refine WL.assign rfl rfl (WL.nil (WX.one ⟨hd_18, ?_⟩))
    refine DT.done (fun we_32 ke_32 => ?_) _
    replace hd_18 := hd_18.pure ke_32
    replace hb_4 := hb_4.pure ke_32
    replace hO3 := hO3.pure ke_32
    exact WX.cut (l3, g_4) ⟨rfl, rfl, rfl, rfl, rfl, rfl, rfl, rfl, rfl, trivial⟩ ⟨ha3, ⟨hlt34, hb_4.lt⟩, hb_4, hO3.ls.mono (fun _ _ => trivial), ((hL2s.pure kd_17).pure hd_18).mono (fun _ _ => trivial), (hb1s.pure kd_17).pure hd_18, (hb2s.pure kd_17).pure hd_18, (hb3s.pure kd_17).pure hd_18, (hss.pure kd_17).pure hd_18, (hsw.pure kd_17).pure hd_18⟩
    refine DT.step [(31, _)] rfl ⟨rfl, trivial⟩ rfl (fun wq_25 kq_25 => ?_)
    replace hd_18 := hd_18.pure kq_25
    replace hb_4 := hb_4.pure kq_25
    replace hO3 := hO3.pure kq_25
    refine WL.extract rfl rfl rfl (WL.nil (WX.one ⟨hd_18, ?_⟩))
    refine ⟨?_, ?_, trivial, trivial, trivial, trivial⟩
    refine DT.step [(31, _)] rfl ⟨rfl, trivial⟩ rfl (fun wq_26 kq_26 => ?_)
    replace hd_18 := hd_18.pure kq_26
    replace hb_4 := hb_4.pure kq_26
    replace hO3 := hO3.pure kq_26
    refine WL.extract rfl rfl rfl (WL.nil (WX.one ⟨hd_18, ?_⟩))
    refine ⟨?_, ?_, trivial, trivial, trivial⟩
    refine DT.step [(31, _)] rfl ⟨rfl, trivial⟩ rfl (fun wq_27 kq_27 => ?_)
    replace hd_18 := hd_18.pure kq_27
    replace hb_4 := hb_4.pure kq_27
    replace hO3 := hO3.pure kq_27
    refine WL.extract rfl rfl rfl (WL.nil (WX.one ⟨hd_18, ?_⟩))
    refine ⟨?_, trivial, trivial, trivial⟩
    refine DT.step [(10, _), (36, _)] rfl ⟨rfl, rfl, trivial⟩ rfl (fun wq_28 kq_28 => ?_)
    replace hd_18 := hd_18.pure kq_28
    replace hb_4 := hb_4.pure kq_28
    replace hO3 := hO3.pure kq_28
    refine WL.stores Try.sizeOf33 hb_4 rfl rfl (by rfl) (by simp [Value.oneCell']) (by simp [Value.cells]) rfl ?_
    intro w_29 hs_29 hn_29 k_29
    replace hd_18 := hd_18.chg k_29 (by first | (intro x h1 h2; have h3 : _ = _ := h2; exfalso; omega) | (intro b h1 h2 h3; have h4 : _ = _ := h3; (try dsimp only at h2); exfalso; omega))
    replace hO3 := hO3.chg k_29 (by first | (intro x h1 h2; have h3 : _ = _ := h2; exfalso; omega) | (intro b h1 h2 h3; have h4 : _ = _ := h3; (try dsimp only at h2); exfalso; omega))
    replace hb_4 := hn_29
    refine WL.nil (WX.one0 (v := undef) ⟨hd_18, ?_⟩)
    refine ⟨?_, trivial, trivial⟩
    refine DT.step [(37, _)] rfl ⟨rfl, trivial⟩ rfl (fun wq_30 kq_30 => ?_)
    replace hd_18 := hd_18.pure kq_30
    replace hb_4 := hb_4.pure kq_30
    replace hO3 := hO3.pure kq_30
    refine WL.assign rfl rfl (WL.nil (WX.one ⟨hd_18, ?_⟩))
    refine ⟨?_, trivial⟩
    refine DT.step [(38, _)] rfl ⟨rfl, trivial⟩ rfl (fun wq_31 kq_31 => ?_)
    replace hd_18 := hd_18.pure kq_31
    replace hb_4 := hb_4.pure kq_31
    replace hO3 := hO3.pure kq_31
    refine WL.assign rfl rfl (WL.nil (WX.one ⟨hd_18, ?_⟩))
    refine DT.done (fun we_32 ke_32 => ?_) _
    replace hd_18 := hd_18.pure ke_32
    replace hb_4 := hb_4.pure ke_32
    replace hO3 := hO3.pure ke_32
    exact WX.cut (l3, g_4) ⟨rfl, rfl, rfl, rfl, rfl, rfl, rfl, rfl, rfl, trivial⟩ ⟨ha3, ⟨hlt34, hb_4.lt⟩, hb_4, hO3.ls.mono (fun _ _ => trivial), ((hL2s.pure kd_17).pure hd_18).mono (fun _ _ => trivial), (hb1s.pure kd_17).pure hd_18, (hb2s.pure kd_17).pure hd_18, (hb3s.pure kd_17).pure hd_18, (hss.pure kd_17).pure hd_18, (hsw.pure kd_17).pure hd_18⟩
    refine DT.step [(10, _), (36, _)] rfl ⟨rfl, rfl, trivial⟩ rfl (fun wq_27 kq_27 => ?_)
    replace hd_18 := hd_18.pure kq_27
    replace hb_4 := hb_4.pure kq_27
    replace hO3 := hO3.pure kq_27
    refine WL.stores Try.sizeOf33 hb_4 rfl rfl (by rfl) (by simp [Value.oneCell']) (by simp [Value.cells]) rfl ?_
    intro w_28 hs_28 hn_28 k_28
    replace hd_18 := hd_18.chg k_28 (by first | (intro x h1 h2; have h3 : _ = _ := h2; exfalso; omega) | (intro b h1 h2 h3; have h4 : _ = _ := h3; (try dsimp only at h2); exfalso; omega))
    replace hO3 := hO3.chg k_28 (by first | (intro x h1 h2; have h3 : _ = _ := h2; exfalso; omega) | (intro b h1 h2 h3; have h4 : _ = _ := h3; (try dsimp only at h2); exfalso; omega))
    replace hb_4 := hn_28
    refine WL.nil (WX.one0 (v := undef) ⟨hd_18, ?_⟩)
    refine ⟨?_, trivial, trivial, trivial⟩
    refine DT.step [(31, _)] rfl ⟨rfl, trivial⟩ rfl (fun wq_29 kq_29 => ?_)
    replace hd_18 := hd_18.pure kq_29
    replace hb_4 := hb_4.pure kq_29
    replace hO3 := hO3.pure kq_29
    refine WL.extract rfl rfl rfl (WL.nil (WX.one ⟨hd_18, ?_⟩))
    refine ⟨?_, trivial, trivial⟩
    refine DT.step [(37, _)] rfl ⟨rfl, trivial⟩ rfl (fun wq_30 kq_30 => ?_)
    replace hd_18 := hd_18.pure kq_30
    replace hb_4 := hb_4.pure kq_30
    replace hO3 := hO3.pure kq_30
    refine WL.assign rfl rfl (WL.nil (WX.one ⟨hd_18, ?_⟩))
    refine ⟨?_, trivial⟩
    refine DT.step [(38, _)] rfl ⟨rfl, trivial⟩ rfl (fun wq_31 kq_31 => ?_)
    replace hd_18 := hd_18.pure kq_31
    replace hb_4 := hb_4.pure kq_31
    replace hO3 := hO3.pure kq_31
    refine WL.assign rfl rfl (WL.nil (WX.one ⟨hd_18, ?_⟩))
    refine DT.done (fun we_32 ke_32 => ?_) _
    replace hd_18 := hd_18.pure ke_32
    replace hb_4 := hb_4.pure ke_32
    replace hO3 := hO3.pure ke_32
    exact WX.cut (l3, g_4) ⟨rfl, rfl, rfl, rfl, rfl, rfl, rfl, rfl, rfl, trivial⟩ ⟨ha3, ⟨hlt34, hb_4.lt⟩, hb_4, hO3.ls.mono (fun _ _ => trivial), ((hL2s.pure kd_17).pure hd_18).mono (fun _ _ => trivial), (hb1s.pure kd_17).pure hd_18, (hb2s.pure kd_17).pure hd_18, (hb3s.pure kd_17).pure hd_18, (hss.pure kd_17).pure hd_18, (hsw.pure kd_17).pure hd_18⟩
    refine DT.step [(31, _)] rfl ⟨rfl, trivial⟩ rfl (fun wq_26 kq_26 => ?_)
    replace hd_18 := hd_18.pure kq_26
    replace hb_4 := hb_4.pure kq_26
    replace hO3 := hO3.pure kq_26
    refine WL.extract rfl rfl rfl (WL.nil (WX.one ⟨hd_18, ?_⟩))
    refine ⟨?_, trivial, trivial, trivial, trivial⟩
    refine DT.step [(31, _)] rfl ⟨rfl, trivial⟩ rfl (fun wq_27 kq_27 => ?_)
    replace hd_18 := hd_18.pure kq_27
    replace hb_4 := hb_4.pure kq_27
    replace hO3 := hO3.pure kq_27
    refine WL.extract rfl rfl rfl (WL.nil (WX.one ⟨hd_18, ?_⟩))
    refine ⟨?_, trivial, trivial, trivial⟩
    refine DT.step [(10, _), (36, _)] rfl ⟨rfl, rfl, trivial⟩ rfl (fun wq_28 kq_28 => ?_)
    replace hd_18 := hd_18.pure kq_28
    replace hb_4 := hb_4.pure kq_28
    replace hO3 := hO3.pure kq_28
    refine WL.stores Try.sizeOf33 hb_4 rfl rfl (by rfl) (by simp [Value.oneCell']) (by simp [Value.cells]) rfl ?_
    intro w_29 hs_29 hn_29 k_29
    replace hd_18 := hd_18.chg k_29 (by first | (intro x h1 h2; have h3 : _ = _ := h2; exfalso; omega) | (intro b h1 h2 h3; have h4 : _ = _ := h3; (try dsimp only at h2); exfalso; omega))
    replace hO3 := hO3.chg k_29 (by first | (intro x h1 h2; have h3 : _ = _ := h2; exfalso; omega) | (intro b h1 h2 h3; have h4 : _ = _ := h3; (try dsimp only at h2); exfalso; omega))
    replace hb_4 := hn_29
    refine WL.nil (WX.one0 (v := undef) ⟨hd_18, ?_⟩)
    refine ⟨?_, trivial, trivial⟩
    refine DT.step [(37, _)] rfl ⟨rfl, trivial⟩ rfl (fun wq_30 kq_30 => ?_)
    replace hd_18 := hd_18.pure kq_30
    replace hb_4 := hb_4.pure kq_30
    replace hO3 := hO3.pure kq_30
    refine WL.assign rfl rfl (WL.nil (WX.one ⟨hd_18, ?_⟩))
    refine ⟨?_, trivial⟩
    refine DT.step [(38, _)] rfl ⟨rfl, trivial⟩ rfl (fun wq_31 kq_31 => ?_)
    replace hd_18 := hd_18.pure kq_31
    replace hb_4 := hb_4.pure kq_31
    replace hO3 := hO3.pure kq_31
    refine WL.assign rfl rfl (WL.nil (WX.one ⟨hd_18, ?_⟩))
    refine DT.done (fun we_32 ke_32 => ?_) _
    replace hd_18 := hd_18.pure ke_32
    replace hb_4 := hb_4.pure ke_32
    replace hO3 := hO3.pure ke_32
    exact WX.cut (l3, g_4) ⟨rfl, rfl, rfl, rfl, rfl, rfl, rfl, rfl, rfl, trivial⟩ ⟨ha3, ⟨hlt34, hb_4.lt⟩, hb_4, hO3.ls.mono (fun _ _ => trivial), ((hL2s.pure kd_17).pure hd_18).mono (fun _ _ => trivial), (hb1s.pure kd_17).pure hd_18, (hb2s.pure kd_17).pure hd_18, (hb3s.pure kd_17).pure hd_18, (hss.pure kd_17).pure hd_18, (hsw.pure kd_17).pure hd_18⟩
    refine DT.step [] rfl trivial rfl (fun wq_21 kq_21 => ?_)
    replace h := h.pure kq_21
    replace hb1 := hb1.pure kq_21
    replace hb2 := hb2.pure kq_21
    replace hd_18 := hd_18.pure kq_21
    try replace hO3 := hO3.lt
    have hsz17 := hd_18.size
    have hlt33 := Nat.lt_of_lt_of_le lg3 (Nat.le_trans kd_17.size hd_18.size)
    refine WL.alloc Try.zeroValue33 rfl ?_
    intro g_4 ws4 hge4 hlt4 hb_4 ks4
    have hlt34 : g_3 < g_4 := Nat.lt_of_lt_of_le hlt33 hge4
    have hge17 : wd_17.heap.size ≤ g_4 := Nat.le_trans hsz17 hge4
    clear hlt33 hsz17
    replace h := h.pure ks4
    replace hb1 := hb1.pure ks4
    replace hb2 := hb2.pure ks4
    replace hd_18 := hd_18.pure ks4
    refine WL.nil (WX.one ⟨hd_18, ?_⟩)
    refine ⟨?_, trivial, trivial, trivial, trivial, trivial, trivial, trivial, trivial, trivial⟩
    refine DT.step [(32, _)] rfl ⟨rfl, trivial⟩ rfl (fun wq_22 kq_22 => ?_)
    replace h := h.pure kq_22
    replace hb1 := hb1.pure kq_22
    replace hb2 := hb2.pure kq_22
    replace hd_18 := hd_18.pure kq_22
    replace hb_4 := hb_4.pure kq_22
    refine WL.call eg_10 rfl rfl (of_calls h hs2) ?_
    rintro v w1 ⟨⟨l1, rfl, hO, ha⟩, k1⟩
    replace h := h.pure k1
    replace hb1 := hb1.pure k1
    replace hb2 := hb2.pure k1
    replace hd_18 := hd_18.pure k1
    replace hb_4 := hb_4.pure k1
    have hLa := hO.ls.old
    refine WL.nil (WX.one ⟨hd_18, ?_⟩)
    refine ⟨?_, trivial, trivial, trivial, trivial, trivial, trivial, trivial, trivial⟩
    refine DT.step [(33, _), (34, _)] rfl ⟨rfl, rfl, trivial⟩ rfl (fun wq_23 kq_23 => ?_)
    replace h := h.pure kq_23
    replace hb1 := hb1.pure kq_23
    replace hb2 := hb2.pure kq_23
    replace hd_18 := hd_18.pure kq_23
    replace hb_4 := hb_4.pure kq_23
    replace hLa := hLa.pure kq_23
    try have lg4 := hb_4.lt
    refine WL.call eg_13 rfl rfl (Kill_calls hLa ((ha ▸ hs2.sma : SmA 20 l1.abs).up (by decide)).sm p) ?_
    rintro v w1 ⟨⟨l3, b3, e3, rfl, hR3, hO3⟩, k1⟩
    replace hd_18 := hd_18.pure k1
    replace hb_4 := hb_4.pure k1
    replace hO3 := hO3.lt
    rw [ha] at hR3
    obtain ⟨ha3, rfl, rfl⟩ := hR3.uniq hR2
    refine WL.nil (WX.one ⟨hd_18, ?_⟩)
    refine ⟨?_, trivial, trivial, trivial, trivial, trivial, trivial, trivial⟩
    refine DT.step [(35, _)] rfl ⟨rfl, trivial⟩ rfl (fun wq_24 kq_24 => ?_)
    replace hd_18 := hd_18.pure kq_24
    replace hb_4 := hb_4.pure kq_24
    replace hO3 := hO3.pure kq_24
    refine WL.move rfl rfl (WL.nil (WX.one ⟨hd_18, ?_⟩))
    refine ⟨?_, ?_, ?_, trivial, trivial, trivial, trivial⟩
    refine DT.step [(31, _)] rfl ⟨rfl, trivial⟩ rfl (fun wq_25 kq_25 => ?_)
    replace hd_18 := hd_18.pure kq_25
    replace hb_4 := hb_4.pure kq_25
    replace hO3 := hO3.pure kq_25
    refine WL.extract rfl rfl rfl (WL.nil (WX.one ⟨hd_18, ?_⟩))
    refine ⟨?_, ?_, ?_, trivial, trivial, trivial⟩
    refine DT.step [(31, _)] rfl ⟨rfl, trivial⟩ rfl (fun wq_26 kq_26 => ?_)
    replace hd_18 := hd_18.pure kq_26
    replace hb_4 := hb_4.pure kq_26
    replace hO3 := hO3.pure kq_26
    refine WL.extract rfl rfl rfl (WL.nil (WX.one ⟨hd_18, ?_⟩))
    refine ⟨?_, ?_, trivial, trivial, trivial⟩
    refine DT.step [(31, _)] rfl ⟨rfl, trivial⟩ rfl (fun wq_27 kq_27 => ?_)
    replace hd_18 := hd_18.pure kq_27
    replace hb_4 := hb_4.pure kq_27
    replace hO3 := hO3.pure kq_27
    refine WL.extract rfl rfl rfl (WL.nil (WX.one ⟨hd_18, ?_⟩))
    refine ⟨?_, trivial, trivial, trivial⟩
    refine DT.step [(10, _), (36, _)] rfl ⟨rfl, rfl, trivial⟩ rfl (fun wq_28 kq_28 => ?_)
    replace hd_18 := hd_18.pure kq_28
    replace hb_4 := hb_4.pure kq_28
    replace hO3 := hO3.pure kq_28
    refine WL.stores Try.sizeOf33 hb_4 rfl rfl (by rfl) (by simp [Value.oneCell']) (by simp [Value.cells]) rfl ?_
    intro w_29 hs_29 hn_29 k_29
    replace hd_18 := hd_18.chg k_29 (by first | (intro x h1 h2; have h3 : _ = _ := h2; exfalso; omega) | (intro b h1 h2 h3; have h4 : _ = _ := h3; (try dsimp only at h2); exfalso; omega))
    replace hO3 := hO3.chg k_29 (by first | (intro x h1 h2; have h3 : _ = _ := h2; exfalso; omega) | (intro b h1 h2 h3; have h4 : _ = _ := h3; (try dsimp only at h2); exfalso; omega))
    replace hb_4 := hn_29
    refine WL.nil (WX.one0 (v := undef) ⟨hd_18, ?_⟩)
    refine ⟨?_, trivial, trivial⟩
    refine DT.step [(37, _)] rfl ⟨rfl, trivial⟩ rfl (fun wq_30 kq_30 => ?_)
    replace hd_18 := hd_18.pure kq_30
    replace hb_4 := hb_4.pure kq_30
    replace hO3 := hO3.pure kq_30
    refine WL.assign rfl rfl (WL.nil (WX.one ⟨hd_18, ?_⟩))
    refine ⟨?_, trivial⟩
    refine DT.step [(38, _)] rfl ⟨rfl, trivial⟩ rfl (fun wq_31 kq_31 => ?_)
    replace hd_18 := hd_18.pure kq_31
    replace hb_4 := hb_4.pure kq_31
    replace hO3 := hO3.pure kq_31
    refine WL.assign rfl rfl (WL.nil (WX.one ⟨hd_18, ?_⟩))
    refine DT.done (fun we_32 ke_32 => ?_) _
    replace hd_18 := hd_18.pure ke_32
    replace hb_4 := hb_4.pure ke_32
    replace hO3 := hO3.pure ke_32
    exact WX.cut (l3, g_4) ⟨rfl, rfl, rfl, rfl, rfl, rfl, rfl, rfl, rfl, trivial⟩ ⟨ha3, ⟨hlt34, hb_4.lt⟩, hb_4, hO3.ls.mono (fun _ _ => trivial), ((hL2s.pure kd_17).pure hd_18).mono (fun _ _ => trivial), (hb1s.pure kd_17).pure hd_18, (hb2s.pure kd_17).pure hd_18, (hb3s.pure kd_17).pure hd_18, (hss.pure kd_17).pure hd_18, (hsw.pure kd_17).pure hd_18⟩
    refine DT.step [(10, _), (36, _)] rfl ⟨rfl, rfl, trivial⟩ rfl (fun wq_27 kq_27 => ?_)
    replace hd_18 := hd_18.pure kq_27
    replace hb_4 := hb_4.pure kq_27
    replace hO3 := hO3.pure kq_27
    refine WL.stores Try.sizeOf33 hb_4 rfl rfl (by rfl) (by simp [Value.oneCell']) (by simp [Value.cells]) rfl ?_
    intro w_28 hs_28 hn_28 k_28
    replace hd_18 := hd_18.chg k_28 (by first | (intro x h1 h2; have h3 : _ = _ := h2; exfalso; omega) | (intro b h1 h2 h3; have h4 : _ = _ := h3; (try dsimp only at h2); exfalso; omega))
    replace hO3 := hO3.chg k_28 (by first | (intro x h1 h2; have h3 : _ = _ := h2; exfalso; omega) | (intro b h1 h2 h3; have h4 : _ = _ := h3; (try dsimp only at h2); exfalso; omega))
    replace hb_4 := hn_28
    refine WL.nil (WX.one0 (v := undef) ⟨hd_18, ?_⟩)
    refine ⟨?_, ?_, trivial, trivial⟩
    refine DT.step [(31, _)] rfl ⟨rfl, trivial⟩ rfl (fun wq_29 kq_29 => ?_)
    replace hd_18 := hd_18.pure kq_29
    replace hb_4 := hb_4.pure kq_29
    replace hO3 := hO3.pure kq_29
    refine WL.extract rfl rfl rfl (WL.nil (WX.one ⟨hd_18, ?_⟩))
    refine ⟨?_, trivial, trivial⟩
    refine DT.step [(37, _)] rfl ⟨rfl, trivial⟩ rfl (fun wq_30 kq_30 => ?_)
    replace hd_18 := hd_18.pure kq_30
    replace hb_4 := hb_4.pure kq_30
    replace hO3 := hO3.pure kq_30
    refine WL.assign rfl rfl (WL.nil (WX.one ⟨hd_18, ?_⟩))
    refine ⟨?_, trivial⟩
    refine DT.step [(38, _)] rfl ⟨rfl, trivial⟩ rfl (fun wq_31 kq_31 => ?_)
    replace hd_18 := hd_18.pure kq_31
    replace hb_4 := hb_4.pure kq_31
    replace hO3 := hO3.pure kq_31
    refine WL.assign rfl rfl (WL.nil (WX.one ⟨hd_18, ?_⟩))
    refine DT.done (fun we_32 ke_32 => ?_) _
    replace hd_18 := hd_18.pure ke_32
    replace hb_4 := hb_4.pure ke_32
    replace hO3 := hO3.pure ke_32
    exact WX.cut (l3, g_4) ⟨rfl, rfl, rfl, rfl, rfl, rfl, rfl, rfl, rfl, trivial⟩ ⟨ha3, ⟨hlt34, hb_4.lt⟩, hb_4, hO3.ls.mono (fun _ _ => trivial), ((hL2s.pure kd_17).pure hd_18).mono (fun _ _ => trivial), (hb1s.pure kd_17).pure hd_18, (hb2s.pure kd_17).pure hd_18, (hb3s.pure kd_17).pure hd_18, (hss.pure kd_17).pure hd_18, (hsw.pure kd_17).pure hd_18⟩
    refine DT.step [(37, _)] rfl ⟨rfl, trivial⟩ rfl (fun wq_29 kq_29 => ?_)
    replace hd_18 := hd_18.pure kq_29
    replace hb_4 := hb_4.pure kq_29
    replace hO3 := hO3.pure kq_29
    refine WL.assign rfl rfl (WL.nil (WX.one ⟨hd_18, ?_⟩))
    refine ⟨?_, trivial, trivial⟩
    refine DT.step [(31, _)] rfl ⟨rfl, trivial⟩ rfl (fun wq_30 kq_30 => ?_)
    replace hd_18 := hd_18.pure kq_30
    replace hb_4 := hb_4.pure kq_30
    replace hO3 := hO3.pure kq_30
    refine WL.extract rfl rfl rfl (WL.nil (WX.one ⟨hd_18, ?_⟩))
    refine ⟨?_, trivial⟩
    refine DT.step [(38, _)] rfl ⟨rfl, trivial⟩ rfl (fun wq_31 kq_31 => ?_)
    replace hd_18 := hd_18.pure kq_31
    replace hb_4 := hb_4.pure kq_31
    replace hO3 := hO3.pure kq_31
    refine WL.assign rfl rfl (WL.nil (WX.one ⟨hd_18, ?_⟩))
    refine DT.done (fun we_32 ke_32 => ?_) _
    replace hd_18 := hd_18.pure ke_32
    replace hb_4 := hb_4.pure ke_32
    replace hO3 := hO3.pure ke_32
    exact WX.cut (l3, g_4) ⟨rfl, rfl, rfl, rfl, rfl, rfl, rfl, rfl, rfl, trivial⟩ ⟨ha3, ⟨hlt34, hb_4.lt⟩, hb_4, hO3.ls.mono (fun _ _ => trivial), ((hL2s.pure kd_17).pure hd_18).mono (fun _ _ => trivial), (hb1s.pure kd_17).pure hd_18, (hb2s.pure kd_17).pure hd_18, (hb3s.pure kd_17).pure hd_18, (hss.pure kd_17).pure hd_18, (hsw.pure kd_17).pure hd_18⟩
    refine DT.step [(31, _)] rfl ⟨rfl, trivial⟩ rfl (fun wq_26 kq_26 => ?_)
    replace hd_18 := hd_18.pure kq_26
    replace hb_4 := hb_4.pure kq_26
    replace hO3 := hO3.pure kq_26
    refine WL.extract rfl rfl rfl (WL.nil (WX.one ⟨hd_18, ?_⟩))
    refine ⟨?_, ?_, trivial, trivial, trivial⟩
    refine DT.step [(31, _)] rfl ⟨rfl, trivial⟩ rfl (fun wq_27 kq_27 => ?_)
    replace hd_18 := hd_18.pure kq_27
    replace hb_4 := hb_4.pure kq_27
    replace hO3 := hO3.pure kq_27
    refine WL.extract rfl rfl rfl (WL.nil (WX.one ⟨hd_18, ?_⟩))
    refine ⟨?_, trivial, trivial, trivial⟩
    refine DT.step [(10, _), (36, _)] rfl ⟨rfl, rfl, trivial⟩ rfl (fun wq_28 kq_28 => ?_)
    replace hd_18 := hd_18.pure kq_28
    replace hb_4 := hb_4.pure kq_28
    replace hO3 := hO3.pure kq_28
    refine WL.stores Try.sizeOf33 hb_4 rfl rfl (by rfl) (by simp [Value.oneCell']) (by simp [Value.cells]) rfl ?_
    intro w_29 hs_29 hn_29 k_29
    replace hd_18 := hd_18.chg k_29 (by first | (intro x h1 h2; have h3 : _ = _ := h2; exfalso; omega) | (intro b h1 h2 h3; have h4 : _ = _ := h3; (try dsimp only at h2); exfalso; omega))
    replace hO3 := hO3.chg k_29 (by first | (intro x h1 h2; have h3 : _ = _ := h2; exfalso; omega) | (intro b h1 h2 h3; have h4 : _ = _ := h3; (try dsimp only at h2); exfalso; omega))
    replace hb_4 := hn_29
    refine WL.nil (WX.one0 (v := undef) ⟨hd_18, ?_⟩)
    refine ⟨?_, trivial, trivial⟩
    refine DT.step [(37, _)] rfl ⟨rfl, trivial⟩ rfl (fun wq_30 kq_30 => ?_)
    replace hd_18 := hd_18.pure kq_30
    replace hb_4 := hb_4.pure kq_30
    replace hO3 := hO3.pure kq_30
    refine WL.assign rfl rfl (WL.nil (WX.one ⟨hd_18, ?_⟩))
    refine ⟨?_, trivial⟩
    refine DT.step [(38, _)] rfl ⟨rfl, trivial⟩ rfl (fun wq_31 kq_31 => ?_)
    replace hd_18 := hd_18.pure kq_31
    replace hb_4 := hb_4.pure kq_31
    replace hO3 := hO3.pure kq_31
    refine WL.assign rfl rfl (WL.nil (WX.one ⟨hd_18, ?_⟩))
    refine DT.done (fun we_32 ke_32 => ?_) _
    replace hd_18 := hd_18.pure ke_32
    replace hb_4 := hb_4.pure ke_32
    replace hO3 := hO3.pure ke_32
    exact WX.cut (l3, g_4) ⟨rfl, rfl, rfl, rfl, rfl, rfl, rfl, rfl, rfl, trivial⟩ ⟨ha3, ⟨hlt34, hb_4.lt⟩, hb_4, hO3.ls.mono (fun _ _ => trivial), ((hL2s.pure kd_17).pure hd_18).mono (fun _ _ => trivial), (hb1s.pure kd_17).pure hd_18, (hb2s.pure kd_17).pure hd_18, (hb3s.pure kd_17).pure hd_18, (hss.pure kd_17).pure hd_18, (hsw.pure kd_17).pure hd_18⟩
    refine DT.step [(10, _), (36, _)] rfl ⟨rfl, rfl, trivial⟩ rfl (fun wq_27 kq_27 => ?_)
    replace hd_18 := hd_18.pure kq_27
    replace hb_4 := hb_4.pure kq_27
    replace hO3 := hO3.pure kq_27
    refine WL.stores Try.sizeOf33 hb_4 rfl rfl (by rfl) (by simp [Value.oneCell']) (by simp [Value.cells]) rfl ?_
    intro w_28 hs_28 hn_28 k_28
    replace hd_18 := hd_18.chg k_28 (by first | (intro x h1 h2; have h3 : _ = _ := h2; exfalso; omega) | (intro b h1 h2 h3; have h4 : _ = _ := h3; (try dsimp only at h2); exfalso; omega))
    replace hO3 := hO3.chg k_28 (by first | (intro x h1 h2; have h3 : _ = _ := h2; exfalso; omega) | (intro b h1 h2 h3; have h4 : _ = _ := h3; (try dsimp only at h2); exfalso; omega))
    replace hb_4 := hn_28
    refine WL.nil (WX.one0 (v := undef) ⟨hd_18, ?_⟩)
    refine ⟨?_, trivial, trivial, trivial⟩
    refine DT.step [(31, _)] rfl ⟨rfl, trivial⟩ rfl (fun wq_29 kq_29 => ?_)
    replace hd_18 := hd_18.pure kq_29
    replace hb_4 := hb_4.pure kq_29
    replace hO3 := hO3.pure kq_29
    refine WL.extract rfl rfl rfl (WL.nil (WX.one ⟨hd_18, ?_⟩))
    refine ⟨?_, trivial, trivial⟩
    refine DT.step [(37, _)] rfl ⟨rfl, trivial⟩ rfl (fun wq_30 kq_30 => ?_)
    replace hd_18 := hd_18.pure kq_30
    replace hb_4 := hb_4.pure kq_30
    replace hO3 := hO3.pure kq_30
    refine WL.assign rfl rfl (WL.nil (WX.one ⟨hd_18, ?_⟩))
    refine ⟨?_, trivial⟩
    refine DT.step [(38, _)] rfl ⟨rfl, trivial⟩ rfl (fun wq_31 kq_31 => ?_)
    replace hd_18 := hd_18.pure kq_31
    replace hb_4 := hb_4.pure kq_31
    replace hO3 := hO3.pure kq_31
    refine WL.assign rfl rfl (WL.nil (WX.one ⟨hd_18, ?_⟩))
    refine DT.done (fun we_32 ke_32 => ?_) _
    replace hd_18 := hd_18.pure ke_32
    replace hb_4 := hb_4.pure ke_32
    replace hO3 := hO3.pure ke_32
    exact WX.cut (l3, g_4) ⟨rfl, rfl, rfl, rfl, rfl, rfl, rfl, rfl, rfl, trivial⟩ ⟨ha3, ⟨hlt34, hb_4.lt⟩, hb_4, hO3.ls.mono (fun _ _ => trivial), ((hL2s.pure kd_17).pure hd_18).mono (fun _ _ => trivial), (hb1s.pure kd_17).pure hd_18, (hb2s.pure kd_17).pure hd_18, (hb3s.pure kd_17).pure hd_18, (hss.pure kd_17).pure hd_18, (hsw.pure kd_17).pure hd_18⟩
    refine DT.step [(10, _), (36, _)] rfl ⟨rfl, rfl, trivial⟩ rfl (fun wq_26 kq_26 => ?_)
    replace hd_18 := hd_18.pure kq_26
    replace hb_4 := hb_4.pure kq_26
    replace hO3 := hO3.pure kq_26
    refine WL.stores Try.sizeOf33 hb_4 rfl rfl (by rfl) (by simp [Value.oneCell']) (by simp [Value.cells]) rfl ?_
    intro w_27 hs_27 hn_27 k_27
    replace hd_18 := hd_18.chg k_27 (by first | (intro x h1 h2; have h3 : _ = _ := h2; exfalso; omega) | (intro b h1 h2 h3; have h4 : _ = _ := h3; (try dsimp only at h2); exfalso; omega))
    replace hO3 := hO3.chg k_27 (by first | (intro x h1 h2; have h3 : _ = _ := h2; exfalso; omega) | (intro b h1 h2 h3; have h4 : _ = _ := h3; (try dsimp only at h2); exfalso; omega))
    replace hb_4 := hn_27
    refine WL.nil (WX.one0 (v := undef) ⟨hd_18, ?_⟩)
    refine ⟨?_, ?_, trivial, trivial, trivial⟩
    refine DT.step [(31, _)] rfl ⟨rfl, trivial⟩ rfl (fun wq_28 kq_28 => ?_)
    replace hd_18 := hd_18.pure kq_28
    replace hb_4 := hb_4.pure kq_28
    replace hO3 := hO3.pure kq_28
    refine WL.extract rfl rfl rfl (WL.nil (WX.one ⟨hd_18, ?_⟩))
    refine ⟨?_, ?_, trivial, trivial⟩
    refine DT.step [(31, _)] rfl ⟨rfl, trivial⟩ rfl (fun wq_29 kq_29 => ?_)
    replace hd_18 := hd_18.pure kq_29
    replace hb_4 := hb_4.pure kq_29
    replace hO3 := hO3.pure kq_29
    refine WL.extract rfl rfl rfl (WL.nil (WX.one ⟨hd_18, ?_⟩))
    refine ⟨?_, trivial, trivial⟩
    refine DT.step [(37, _)] rfl ⟨rfl, trivial⟩ rfl (fun wq_30 kq_30 => ?_)
    replace hd_18 := hd_18.pure kq_30
    replace hb_4 := hb_4.pure kq_30
    replace hO3 := hO3.pure kq_30
    refine WL.assign rfl rfl (WL.nil (WX.one ⟨hd_18, ?_⟩))
    refine ⟨?_, trivial⟩
    refine DT.step [(38, _)] rfl ⟨rfl, trivial⟩ rfl (fun wq_31 kq_31 => ?_)
    replace hd_18 := hd_18.pure kq_31
    replace hb_4 := hb_4.pure kq_31
    replace hO3 := hO3.pure kq_31
    refine WL.assign rfl rfl (WL.nil (WX.one ⟨hd_18, ?_⟩))
    refine DT.done (fun we_32 ke_32 => ?_) _
    replace hd_18 := hd_18.pure ke_32
    replace hb_4 := hb_4.pure ke_32
    replace hO3 := hO3.pure ke_32
    exact WX.cut (l3, g_4) ⟨rfl, rfl, rfl, rfl, rfl, rfl, rfl, rfl, rfl, trivial⟩ ⟨ha3, ⟨hlt34, hb_4.lt⟩, hb_4, hO3.ls.mono (fun _ _ => trivial), ((hL2s.pure kd_17).pure hd_18).mono (fun _ _ => trivial), (hb1s.pure kd_17).pure hd_18, (hb2s.pure kd_17).pure hd_18, (hb3s.pure kd_17).pure hd_18, (hss.pure kd_17).pure hd_18, (hsw.pure kd_17).pure hd_18⟩
    refine DT.step [(37, _)] rfl ⟨rfl, trivial⟩ rfl (fun wq_29 kq_29 => ?_)
    replace hd_18 := hd_18.pure kq_29
    replace hb_4 := hb_4.pure kq_29
    replace hO3 := hO3.pure kq_29
    refine WL.assign rfl rfl (WL.nil (WX.one ⟨hd_18, ?_⟩))
    refine ⟨?_, trivial, trivial⟩
    refine DT.step [(31, _)] rfl ⟨rfl, trivial⟩ rfl (fun wq_30 kq_30 => ?_)
    replace hd_18 := hd_18.pure kq_30
    replace hb_4 := hb_4.pure kq_30
    replace hO3 := hO3.pure kq_30
    refine WL.extract rfl rfl rfl (WL.nil (WX.one ⟨hd_18, ?_⟩))
    refine ⟨?_, trivial⟩
    refine DT.step [(38, _)] rfl ⟨rfl, trivial⟩ rfl (fun wq_31 kq_31 => ?_)
    replace hd_18 := hd_18.pure kq_31
    replace hb_4 := hb_4.pure kq_31
    replace hO3 := hO3.pure kq_31
    refine WL.assign rfl rfl (WL.nil (WX.one ⟨hd_18, ?_⟩))
    refine DT.done (fun we_32 ke_32 => ?_) _
    replace hd_18 := hd_18.pure ke_32
    replace hb_4 := hb_4.pure ke_32
    replace hO3 := hO3.pure ke_32
    exact WX.cut (l3, g_4) ⟨rfl, rfl, rfl, rfl, rfl, rfl, rfl, rfl, rfl, trivial⟩ ⟨ha3, ⟨hlt34, hb_4.lt⟩, hb_4, hO3.ls.mono (fun _ _ => trivial), ((hL2s.pure kd_17).pure hd_18).mono (fun _ _ => trivial), (hb1s.pure kd_17).pure hd_18, (hb2s.pure kd_17).pure hd_18, (hb3s.pure kd_17).pure hd_18, (hss.pure kd_17).pure hd_18, (hsw.pure kd_17).pure hd_18⟩
    refine DT.step [(31, _)] rfl ⟨rfl, trivial⟩ rfl (fun wq_28 kq_28 => ?_)
    replace hd_18 := hd_18.pure kq_28
    replace hb_4 := hb_4.pure kq_28
    replace hO3 := hO3.pure kq_28
    refine WL.extract rfl rfl rfl (WL.nil (WX.one ⟨hd_18, ?_⟩))
    refine ⟨?_, trivial, trivial, trivial⟩
    refine DT.step [(31, _)] rfl ⟨rfl, trivial⟩ rfl (fun wq_29 kq_29 => ?_)
    replace hd_18 := hd_18.pure kq_29
    replace hb_4 := hb_4.pure kq_29
    replace hO3 := hO3.pure kq_29
    refine WL.extract rfl rfl rfl (WL.nil (WX.one ⟨hd_18, ?_⟩))
    refine ⟨?_, trivial, trivial⟩
    refine DT.step [(37, _)] rfl ⟨rfl, trivial⟩ rfl (fun wq_30 kq_30 => ?_)
    replace hd_18 := hd_18.pure kq_30
    replace hb_4 := hb_4.pure kq_30
    replace hO3 := hO3.pure kq_30
    refine WL.assign rfl rfl (WL.nil (WX.one ⟨hd_18, ?_⟩))
    refine ⟨?_, trivial⟩
    refine DT.step [(38, _)] rfl ⟨rfl, trivial⟩ rfl (fun wq_31 kq_31 => ?_)
    replace hd_18 := hd_18.pure kq_31
    replace hb_4 := hb_4.pure kq_31
    replace hO3 := hO3.pure kq_31
    refine WL.assign rfl rfl (WL.nil (WX.one ⟨hd_18, ?_⟩))
    refine DT.done (fun we_32 ke_32 => ?_) _
    replace hd_18 := hd_18.pure ke_32
    replace hb_4 := hb_4.pure ke_32
    replace hO3 := hO3.pure ke_32
    exact WX.cut (l3, g_4) ⟨rfl, rfl, rfl, rfl, rfl, rfl, rfl, rfl, rfl, trivial⟩ ⟨ha3, ⟨hlt34, hb_4.lt⟩, hb_4, hO3.ls.mono (fun _ _ => trivial), ((hL2s.pure kd_17).pure hd_18).mono (fun _ _ => trivial), (hb1s.pure kd_17).pure hd_18, (hb2s.pure kd_17).pure hd_18, (hb3s.pure kd_17).pure hd_18, (hss.pure kd_17).pure hd_18, (hsw.pure kd_17).pure hd_18⟩
    refine DT.step [(31, _)] rfl ⟨rfl, trivial⟩ rfl (fun wq_25 kq_25 => ?_)
    replace hd_18 := hd_18.pure kq_25
    replace hb_4 := hb_4.pure kq_25
    replace hO3 := hO3.pure kq_25
    refine WL.extract rfl rfl rfl (WL.nil (WX.one ⟨hd_18, ?_⟩))
    refine ⟨?_, ?_, trivial, trivial, trivial, trivial⟩
    refine DT.step [(31, _)] rfl ⟨rfl, trivial⟩ rfl (fun wq_26 kq_26 => ?_)
    replace hd_18 := hd_18.pure kq_26
    replace hb_4 := hb_4.pure kq_26
    replace hO3 := hO3.pure kq_26
    refine WL.extract rfl rfl rfl (WL.nil (WX.one ⟨hd_18, ?_⟩))
    refine ⟨?_, ?_, trivial, trivial, trivial⟩
    refine DT.step [(31, _)] rfl ⟨rfl, trivial⟩ rfl (fun wq_27 kq_27 => ?_)
    replace hd_18 := hd_18.pure kq_27
    replace hb_4 := hb_4.pure kq_27
    replace hO3 := hO3.pure kq_27
    refine WL.extract rfl rfl rfl (WL.nil (WX.one ⟨hd_18, ?_⟩))
    refine ⟨?_, trivial, trivial, trivial⟩
    refine DT.step [(10, _), (36, _)] rfl ⟨rfl, rfl, trivial⟩ rfl (fun wq_28 kq_28 => ?_)
    replace hd_18 := hd_18.pure kq_28
    replace hb_4 := hb_4.pure kq_28
    replace hO3 := hO3.pure kq_28
    refine WL.stores Try.sizeOf33 hb_4 rfl rfl (by rfl) (by simp [Value.oneCell']) (by simp [Value.cells]) rfl ?_
    intro w_29 hs_29 hn_29 k_29
    replace hd_18 := hd_18.chg k_29 (by first | (intro x h1 h2; have h3 : _ = _ := h2; exfalso; omega) | (intro b h1 h2 h3; have h4 : _ = _ := h3; (try dsimp only at h2); exfalso; omega))
    replace hO3 := hO3.chg k_29 (by first | (intro x h1 h2; have h3 : _ = _ := h2; exfalso; omega) | (intro b h1 h2 h3; have h4 : _ = _ := h3; (try dsimp only at h2); exfalso; omega))
    replace hb_4 := hn_29
    refine WL.nil (WX.one0 (v := undef) ⟨hd_18, ?_⟩)
    refine ⟨?_, trivial, trivial⟩
    refine DT.step [(37, _)] rfl ⟨rfl, trivial⟩ rfl (fun wq_30 kq_30 => ?_)
    replace hd_18 := hd_18.pure kq_30
    replace hb_4 := hb_4.pure kq_30
    replace hO3 := hO3.pure kq_30
    refine WL.assign rfl rfl (WL.nil (WX.one ⟨hd_18, ?_⟩))
    refine ⟨?_, trivial⟩
    refine DT.step [(38, _)] rfl ⟨rfl, trivial⟩ rfl (fun wq_31 kq_31 => ?_)
    replace hd_18 := hd_18.pure kq_31
    replace hb_4 := hb_4.pure kq_31
    replace hO3 := hO3.pure kq_31
    refine WL.assign rfl rfl (WL.nil (WX.one ⟨hd_18, ?_⟩))
    refine DT.done (fun we_32 ke_32 => ?_) _
    replace hd_18 := hd_18.pure ke_32
    replace hb_4 := hb_4.pure ke_32
    replace hO3 := hO3.pure ke_32
    exact WX.cut (l3, g_4) ⟨rfl, rfl, rfl, rfl, rfl, rfl, rfl, rfl, rfl, trivial⟩ ⟨ha3, ⟨hlt34, hb_4.lt⟩, hb_4, hO3.ls.mono (fun _ _ => trivial), ((hL2s.pure kd_17).pure hd_18).mono (fun _ _ => trivial), (hb1s.pure kd_17).pure hd_18, (hb2s.pure kd_17).pure hd_18, (hb3s.pure kd_17).pure hd_18, (hss.pure kd_17).pure hd_18, (hsw.pure kd_17).pure hd_18⟩
    refine DT.step [(10, _), (36, _)] rfl ⟨rfl, rfl, trivial⟩ rfl (fun wq_27 kq_27 => ?_)
    replace hd_18 := hd_18.pure kq_27
    replace hb_4 := hb_4.pure kq_27
    replace hO3 := hO3.pure kq_27
    refine WL.stores Try.sizeOf33 hb_4 rfl rfl (by rfl) (by simp [Value.oneCell']) (by simp [Value.cells]) rfl ?_
    intro w_28 hs_28 hn_28 k_28
    replace hd_18 := hd_18.chg k_28 (by first | (intro x h1 h2; have h3 : _ = _ := h2; exfalso; omega) | (intro b h1 h2 h3; have h4 : _ = _ := h3; (try dsimp only at h2); exfalso; omega))
    replace hO3 := hO3.chg k_28 (by first | (intro x h1 h2; have h3 : _ = _ := h2; exfalso; omega) | (intro b h1 h2 h3; have h4 : _ = _ := h3; (try dsimp only at h2); exfalso; omega))
    replace hb_4 := hn_28
    refine WL.nil (WX.one0 (v := undef) ⟨hd_18, ?_⟩)
    refine ⟨?_, ?_, trivial, trivial⟩
    refine DT.step [(31, _)] rfl ⟨rfl, trivial⟩ rfl (fun wq_29 kq_29 => ?_)
    replace hd_18 := hd_18.pure kq_29
    replace hb_4 := hb_4.pure kq_29
    replace hO3 := hO3.pure kq_29
    refine WL.extract rfl rfl rfl (WL.nil (WX.one ⟨hd_18, ?_⟩))
    refine ⟨?_, trivial, trivial⟩
    refine DT.step [(37, _)] rfl ⟨rfl, trivial⟩ rfl (fun wq_30 kq_30 => ?_)
    replace hd_18 := hd_18.pure kq_30
    replace hb_4 := hb_4.pure kq_30
    replace hO3 := hO3.pure kq_30
    refine WL.assign rfl rfl (WL.nil (WX.one ⟨hd_18, ?_⟩))
    refine ⟨?_, trivial⟩
    refine DT.step [(38, _)] rfl ⟨rfl, trivial⟩ rfl (fun wq_31 kq_31 => ?_)
    replace hd_18 := hd_18.pure kq_31
    replace hb_4 := hb_4.pure kq_31
    replace hO3 := hO3.pure kq_31
    refine WL.assign rfl rfl (WL.nil (WX.one ⟨hd_18, ?_⟩))
    refine DT.done (fun we_32 ke_32 => ?_) _
    replace hd_18 := hd_18.pure ke_32
    replace hb_4 := hb_4.pure ke_32
    replace hO3 := hO3.pure ke_32
    exact WX.cut (l3, g_4) ⟨rfl, rfl, rfl, rfl, rfl, rfl, rfl, rfl, rfl, trivial⟩ ⟨ha3, ⟨hlt34, hb_4.lt⟩, hb_4, hO3.ls.mono (fun _ _ => trivial), ((hL2s.pure kd_17).pure hd_18).mono (fun _ _ => trivial), (hb1s.pure kd_17).pure hd_18, (hb2s.pure kd_17).pure hd_18, (hb3s.pure kd_17).pure hd_18, (hss.pure kd_17).pure hd_18, (hsw.pure kd_17).pure hd_18⟩
    refine DT.step [(37, _)] rfl ⟨rfl, trivial⟩ rfl (fun wq_29 kq_29 => ?_)
    replace hd_18 := hd_18.pure kq_29
    replace hb_4 := hb_4.pure kq_29
    replace hO3 := hO3.pure kq_29
    refine WL.assign rfl rfl (WL.nil (WX.one ⟨hd_18, ?_⟩))
    refine ⟨?_, trivial, trivial⟩
    refine DT.step [(31, _)] rfl ⟨rfl, trivial⟩ rfl (fun wq_30 kq_30 => ?_)
    replace hd_18 := hd_18.pure kq_30
    replace hb_4 := hb_4.pure kq_30
    replace hO3 := hO3.pure kq_30
    refine WL.extract rfl rfl rfl (WL.nil (WX.one ⟨hd_18, ?_⟩))
    refine ⟨?_, trivial⟩
    refine DT.step [(38, _)] rfl ⟨rfl, trivial⟩ rfl (fun wq_31 kq_31 => ?_)
    replace hd_18 := hd_18.pure kq_31
    replace hb_4 := hb_4.pure kq_31
    replace hO3 := hO3.pure kq_31
    refine WL.assign rfl rfl (WL.nil (WX.one ⟨hd_18, ?_⟩))
    refine DT.done (fun we_32 ke_32 => ?_) _
    replace hd_18 := hd_18.pure ke_32
    replace hb_4 := hb_4.pure ke_32
    replace hO3 := hO3.pure ke_32
    exact WX.cut (l3, g_4) ⟨rfl, rfl, rfl, rfl, rfl, rfl, rfl, rfl, rfl, trivial⟩ ⟨ha3, ⟨hlt34, hb_4.lt⟩, hb_4, hO3.ls.mono (fun _ _ => trivial), ((hL2s.pure kd_17).pure hd_18).mono (fun _ _ => trivial), (hb1s.pure kd_17).pure hd_18, (hb2s.pure kd_17).pure hd_18, (hb3s.pure kd_17).pure hd_18, (hss.pure kd_17).pure hd_18, (hsw.pure kd_17).pure hd_18⟩
    refine DT.step [(31, _)] rfl ⟨rfl, trivial⟩ rfl (fun wq_26 kq_26 => ?_)
    replace hd_18 := hd_18.pure kq_26
    replace hb_4 := hb_4.pure kq_26
    replace hO3 := hO3.pure kq_26
    refine WL.extract rfl rfl rfl (WL.nil (WX.one ⟨hd_18, ?_⟩))
    refine ⟨?_, trivial, trivial, trivial, trivial⟩
    refine DT.step [(31, _)] rfl ⟨rfl, trivial⟩ rfl (fun wq_27 kq_27 => ?_)
    replace hd_18 := hd_18.pure kq_27
    replace hb_4 := hb_4.pure kq_27
    replace hO3 := hO3.pure kq_27
    refine WL.extract rfl rfl rfl (WL.nil (WX.one ⟨hd_18, ?_⟩))
    refine ⟨?_, trivial, trivial, trivial⟩
    refine DT.step [(10, _), (36, _)] rfl ⟨rfl, rfl, trivial⟩ rfl (fun wq_28 kq_28 => ?_)
    replace hd_18 := hd_18.pure kq_28
    replace hb_4 := hb_4.pure kq_28
    replace hO3 := hO3.pure kq_28
    refine WL.stores Try.sizeOf33 hb_4 rfl rfl (by rfl) (by simp [Value.oneCell']) (by simp [Value.cells]) rfl ?_
    intro w_29 hs_29 hn_29 k_29
    replace hd_18 := hd_18.chg k_29 (by first | (intro x h1 h2; have h3 : _ = _ := h2; exfalso; omega) | (intro b h1 h2 h3; have h4 : _ = _ := h3; (try dsimp only at h2); exfalso; omega))
    replace hO3 := hO3.chg k_29 (by first | (intro x h1 h2; have h3 : _ = _ := h2; exfalso; omega) | (intro b h1 h2 h3; have h4 : _ = _ := h3; (try dsimp only at h2); exfalso; omega))
    replace hb_4 := hn_29
    refine WL.nil (WX.one0 (v := undef) ⟨hd_18, ?_⟩)
    refine ⟨?_, trivial, trivial⟩
    refine DT.step [(37, _)] rfl ⟨rfl, trivial⟩ rfl (fun wq_30 kq_30 => ?_)
    replace hd_18 := hd_18.pure kq_30
    replace hb_4 := hb_4.pure kq_30
    replace hO3 := hO3.pure kq_30
    refine WL.assign rfl rfl (WL.nil (WX.one ⟨hd_18, ?_⟩))
    refine ⟨?_, trivial⟩
    refine DT.step [(38, _)] rfl ⟨rfl, trivial⟩ rfl (fun wq_31 kq_31 => ?_)
    replace hd_18 := hd_18.pure kq_31
    replace hb_4 := hb_4.pure kq_31
    replace hO3 := hO3.pure kq_31
    refine WL.assign rfl rfl (WL.nil (WX.one ⟨hd_18, ?_⟩))
    refine DT.done (fun we_32 ke_32 => ?_) _
    replace hd_18 := hd_18.pure ke_32
    replace hb_4 := hb_4.pure ke_32
    replace hO3 := hO3.pure ke_32
    exact WX.cut (l3, g_4) ⟨rfl, rfl, rfl, rfl, rfl, rfl, rfl, rfl, rfl, trivial⟩ ⟨ha3, ⟨hlt34, hb_4.lt⟩, hb_4, hO3.ls.mono (fun _ _ => trivial), ((hL2s.pure kd_17).pure hd_18).mono (fun _ _ => trivial), (hb1s.pure kd_17).pure hd_18, (hb2s.pure kd_17).pure hd_18, (hb3s.pure kd_17).pure hd_18, (hss.pure kd_17).pure hd_18, (hsw.pure kd_17).pure hd_18⟩
    refine DT.step [(31, _)] rfl ⟨rfl, trivial⟩ rfl (fun wq_25 kq_25 => ?_)
    replace hd_18 := hd_18.pure kq_25
    replace hb_4 := hb_4.pure kq_25
    replace hO3 := hO3.pure kq_25
    refine WL.extract rfl rfl rfl (WL.nil (WX.one ⟨hd_18, ?_⟩))
    refine ⟨?_, ?_, trivial, trivial, trivial, trivial⟩
    refine DT.step [(31, _)] rfl ⟨rfl, trivial⟩ rfl (fun wq_26 kq_26 => ?_)
    replace hd_18 := hd_18.pure kq_26
    replace hb_4 := hb_4.pure kq_26
    replace hO3 := hO3.pure kq_26
    refine WL.extract rfl rfl rfl (WL.nil (WX.one ⟨hd_18, ?_⟩))
    refine ⟨?_, ?_, trivial, trivial, trivial⟩
    refine DT.step [(31, _)] rfl ⟨rfl, trivial⟩ rfl (fun wq_27 kq_27 => ?_)
    replace hd_18 := hd_18.pure kq_27
    replace hb_4 := hb_4.pure kq_27
    replace hO3 := hO3.pure kq_27
    refine WL.extract rfl rfl rfl (WL.nil (WX.one ⟨hd_18, ?_⟩))
    refine ⟨?_, trivial, trivial, trivial⟩
    refine DT.step [(10, _), (36, _)] rfl ⟨rfl, rfl, trivial⟩ rfl (fun wq_28 kq_28 => ?_)
    replace hd_18 := hd_18.pure kq_28
    replace hb_4 := hb_4.pure kq_28
    replace hO3 := hO3.pure kq_28
    refine WL.stores Try.sizeOf33 hb_4 rfl rfl (by rfl) (by simp [Value.oneCell']) (by simp [Value.cells]) rfl ?_
    intro w_29 hs_29 hn_29 k_29
    replace hd_18 := hd_18.chg k_29 (by first | (intro x h1 h2; have h3 : _ = _ := h2; exfalso; omega) | (intro b h1 h2 h3; have h4 : _ = _ := h3; (try dsimp only at h2); exfalso; omega))
    replace hO3 := hO3.chg k_29 (by first | (intro x h1 h2; have h3 : _ = _ := h2; exfalso; omega) | (intro b h1 h2 h3; have h4 : _ = _ := h3; (try dsimp only at h2); exfalso; omega))
    replace hb_4 := hn_29
    refine WL.nil (WX.one0 (v := undef) ⟨hd_18, ?_⟩)
    refine ⟨?_, trivial, trivial⟩
    refine DT.step [(37, _)] rfl ⟨rfl, trivial⟩ rfl (fun wq_30 kq_30 => ?_)
    replace hd_18 := hd_18.pure kq_30
    replace hb_4 := hb_4.pure kq_30
    replace hO3 := hO3.pure kq_30
    refine WL.assign rfl rfl (WL.nil (WX.one ⟨hd_18, ?_⟩))
    refine ⟨?_, trivial⟩
    refine DT.step [(38, _)] rfl ⟨rfl, trivial⟩ rfl (fun wq_31 kq_31 => ?_)
    replace hd_18 := hd_18.pure kq_31
    replace hb_4 := hb_4.pure kq_31
    replace hO3 := hO3.pure kq_31
    refine WL.assign rfl rfl (WL.nil (WX.one ⟨hd_18, ?_⟩))
    refine DT.done (fun we_32 ke_32 => ?_) _
    replace hd_18 := hd_18.pure ke_32
    replace hb_4 := hb_4.pure ke_32
    replace hO3 := hO3.pure ke_32
    exact WX.cut (l3, g_4) ⟨rfl, rfl, rfl, rfl, rfl, rfl, rfl, rfl, rfl, trivial⟩ ⟨ha3, ⟨hlt34, hb_4.lt⟩, hb_4, hO3.ls.mono (fun _ _ => trivial), ((hL2s.pure kd_17).pure hd_18).mono (fun _ _ => trivial), (hb1s.pure kd_17).pure hd_18, (hb2s.pure kd_17).pure hd_18, (hb3s.pure kd_17).pure hd_18, (hss.pure kd_17).pure hd_18, (hsw.pure kd_17).pure hd_18⟩
    refine DT.step [(10, _), (36, _)] rfl ⟨rfl, rfl, trivial⟩ rfl (fun wq_27 kq_27 => ?_)
    replace hd_18 := hd_18.pure kq_27
    replace hb_4 := hb_4.pure kq_27
    replace hO3 := hO3.pure kq_27
    refine WL.stores Try.sizeOf33 hb_4 rfl rfl (by rfl) (by simp [Value.oneCell']) (by simp [Value.cells]) rfl ?_
    intro w_28 hs_28 hn_28 k_28
    replace hd_18 := hd_18.chg k_28 (by first | (intro x h1 h2; have h3 : _ = _ := h2; exfalso; omega) | (intro b h1 h2 h3; have h4 : _ = _ := h3; (try dsimp only at h2); exfalso; omega))
    replace hO3 := hO3.chg k_28 (by first | (intro x h1 h2; have h3 : _ = _ := h2; exfalso; omega) | (intro b h1 h2 h3; have h4 : _ = _ := h3; (try dsimp only at h2); exfalso; omega))
    replace hb_4 := hn_28
    refine WL.nil (WX.one0 (v := undef) ⟨hd_18, ?_⟩)
    refine ⟨?_, trivial, trivial, trivial⟩
    refine DT.step [(31, _)] rfl ⟨rfl, trivial⟩ rfl (fun wq_29 kq_29 => ?_)
    replace hd_18 := hd_18.pure kq_29
    replace hb_4 := hb_4.pure kq_29
    replace hO3 := hO3.pure kq_29
    refine WL.extract rfl rfl rfl (WL.nil (WX.one ⟨hd_18, ?_⟩))
    refine ⟨?_, trivial, trivial⟩
    refine DT.step [(37, _)] rfl ⟨rfl, trivial⟩ rfl (fun wq_30 kq_30 => ?_)
    replace hd_18 := hd_18.pure kq_30
    replace hb_4 := hb_4.pure kq_30
    replace hO3 := hO3.pure kq_30
    refine WL.assign rfl rfl (WL.nil (WX.one ⟨hd_18, ?_⟩))
    refine ⟨?_, trivial⟩
    refine DT.step [(38, _)] rfl ⟨rfl, trivial⟩ rfl (fun wq_31 kq_31 => ?_)
    replace hd_18 := hd_18.pure kq_31
    replace hb_4 := hb_4.pure kq_31
    replace hO3 := hO3.pure kq_31
    refine WL.assign rfl rfl (WL.nil (WX.one ⟨hd_18, ?_⟩))
    refine DT.done (fun we_32 ke_32 => ?_) _
    replace hd_18 := hd_18.pure ke_32
    replace hb_4 := hb_4.pure ke_32
    replace hO3 := hO3.pure ke_32
    exact WX.cut (l3, g_4) ⟨rfl, rfl, rfl, rfl, rfl, rfl, rfl, rfl, rfl, trivial⟩ ⟨ha3, ⟨hlt34, hb_4.lt⟩, hb_4, hO3.ls.mono (fun _ _ => trivial), ((hL2s.pure kd_17).pure hd_18).mono (fun _ _ => trivial), (hb1s.pure kd_17).pure hd_18, (hb2s.pure kd_17).pure hd_18, (hb3s.pure kd_17).pure hd_18, (hss.pure kd_17).pure hd_18, (hsw.pure kd_17).pure hd_18⟩
    refine DT.step [(31, _)] rfl ⟨rfl, trivial⟩ rfl (fun wq_26 kq_26 => ?_)
    replace hd_18 := hd_18.pure kq_26
    replace hb_4 := hb_4.pure kq_26
    replace hO3 := hO3.pure kq_26
    refine WL.extract rfl rfl rfl (WL.nil (WX.one ⟨hd_18, ?_⟩))
    refine ⟨?_, trivial, trivial, trivial, trivial⟩
    refine DT.step [(31, _)] rfl ⟨rfl, trivial⟩ rfl (fun wq_27 kq_27 => ?_)
    replace hd_18 := hd_18.pure kq_27
    replace hb_4 := hb_4.pure kq_27
    replace hO3 := hO3.pure kq_27
    refine WL.extract rfl rfl rfl (WL.nil (WX.one ⟨hd_18, ?_⟩))
    refine ⟨?_, trivial, trivial, trivial⟩
    refine DT.step [(10, _), (36, _)] rfl ⟨rfl, rfl, trivial⟩ rfl (fun wq_28 kq_28 => ?_)
    replace hd_18 := hd_18.pure kq_28
    replace hb_4 := hb_4.pure kq_28
    replace hO3 := hO3.pure kq_28
    refine WL.stores Try.sizeOf33 hb_4 rfl rfl (by rfl) (by simp [Value.oneCell']) (by simp [Value.cells]) rfl ?_
    intro w_29 hs_29 hn_29 k_29
    replace hd_18 := hd_18.chg k_29 (by first | (intro x h1 h2; have h3 : _ = _ := h2; exfalso; omega) | (intro b h1 h2 h3; have h4 : _ = _ := h3; (try dsimp only at h2); exfalso; omega))
    replace hO3 := hO3.chg k_29 (by first | (intro x h1 h2; have h3 : _ = _ := h2; exfalso; omega) | (intro b h1 h2 h3; have h4 : _ = _ := h3; (try dsimp only at h2); exfalso; omega))
    replace hb_4 := hn_29
    refine WL.nil (WX.one0 (v := undef) ⟨hd_18, ?_⟩)
    refine ⟨?_, trivial, trivial⟩
    refine DT.step [(37, _)] rfl ⟨rfl, trivial⟩ rfl (fun wq_30 kq_30 => ?_)
    replace hd_18 := hd_18.pure kq_30
    replace hb_4 := hb_4.pure kq_30
    replace hO3 := hO3.pure kq_30
    refine WL.assign rfl rfl (WL.nil (WX.one ⟨hd_18, ?_⟩))
    refine ⟨?_, trivial⟩
    refine DT.step [(38, _)] rfl ⟨rfl, trivial⟩ rfl (fun wq_31 kq_31 => ?_)
    replace hd_18 := hd_18.pure kq_31
    replace hb_4 := hb_4.pure kq_31
    replace hO3 := hO3.pure kq_31
    refine WL.assign rfl rfl (WL.nil (WX.one ⟨hd_18, ?_⟩))
    refine DT.done (fun we_32 ke_32 => ?_) _
    replace hd_18 := hd_18.pure ke_32
    replace hb_4 := hb_4.pure ke_32
    replace hO3 := hO3.pure ke_32
    exact WX.cut (l3, g_4) ⟨rfl, rfl, rfl, rfl, rfl, rfl, rfl, rfl, rfl, trivial⟩ ⟨ha3, ⟨hlt34, hb_4.lt⟩, hb_4, hO3.ls.mono (fun _ _ => trivial), ((hL2s.pure kd_17).pure hd_18).mono (fun _ _ => trivial), (hb1s.pure kd_17).pure hd_18, (hb2s.pure kd_17).pure hd_18, (hb3s.pure kd_17).pure hd_18, (hss.pure kd_17).pure hd_18, (hsw.pure kd_17).pure hd_18⟩
  ·
    rintro ⟨l3, g4⟩ w5 ⟨ha3, hg4, hb4, hL3, hL2, hb1, hb2, hb3, h, hw⟩
    simp only at ha3 hg4 hb4 hL3
    dsimp only
    refine WX.then_normal (WC.seq (WC.seq (?_)))
    refine WC.drawP (Nob) [0, 1] [(2, []), (3, [4, 5, 6, 7, 8, 9, 10, 11, 12, 13, 14])] mixed rfl rfl (fun wd_17 kd_17 zd_17 => ?_)
    have zs_kd_17 := kd_17.size
    replace hb1 := hb1.pure kd_17
    replace hb2 := hb2.pure kd_17
    replace hb3 := hb3.pure kd_17
    replace hb4 := hb4.pure kd_17
    replace h := h.pure kd_17
    replace hw := hw.pure kd_17
    replace hL2 := hL2.pure kd_17
    replace hL3 := hL3.pure kd_17
    apply DPQ.step (E' := [(7, _)])
    case ho => rfl
    case hs => exact ⟨rfl, trivial⟩
    case hk => rfl
    case h1 =>
      intro wq_18 kq_18
      have zs_kq_18 := kq_18.size
      replace hb1 := hb1.pure kq_18
      replace hb2 := hb2.pure kq_18
      replace hb3 := hb3.pure kq_18
      replace hb4 := hb4.pure kq_18
      replace h := h.pure kq_18
      replace hw := hw.pure kq_18
      replace hL2 := hL2.pure kq_18
      replace hL3 := hL3.pure kq_18
      refine WL.loadsB Try.isAgg25 Try.sizeOf25 hb3 rfl (by first | (simp; done) | (simp; omega) | rfl) rfl (?_)
      refine WL.nil ?_
      exact WX.one ⟨rfl, by first | exact Chg.refl _ _ | assumption⟩
    apply DPQ.step (E' := [(10, _)])
    case ho => rfl
    case hs => exact ⟨rfl, trivial⟩
    case hk => rfl
    case h1 =>
      intro wq_19 kq_19
      have zs_kq_19 := kq_19.size
      replace hb1 := hb1.pure kq_19
      replace hb2 := hb2.pure kq_19
      replace hb3 := hb3.pure kq_19
      replace hb4 := hb4.pure kq_19
      replace h := h.pure kq_19
      replace hw := hw.pure kq_19
      replace hL2 := hL2.pure kq_19
      replace hL3 := hL3.pure kq_19
      refine WL.loadsB Try.isAgg33 Try.sizeOf33 hb4 rfl (by first | (simp; done) | (simp; omega) | rfl) rfl (?_)
      refine WL.nil ?_
      exact WX.one ⟨rfl, by first | exact Chg.refl _ _ | assumption⟩
    refine DPQ.done ?_
    refine DPR.step [(40, _)] rfl ⟨rfl, trivial⟩ rfl (fun wq_20 kq_20 => ?_)
    have zs_kq_20 := kq_20.size
    replace hb1 := hb1.pure kq_20
    replace hb2 := hb2.pure kq_20
    replace hb3 := hb3.pure kq_20
    replace hb4 := hb4.pure kq_20
    replace h := h.pure kq_20
    replace hw := hw.pure kq_20
    replace hL2 := hL2.pure kq_20
    replace hL3 := hL3.pure kq_20
    have hd_20 := Chg.refl (Nob) wq_20
    refine WL.call eg_15 rfl rfl (back_calls hL3 ((ha3 ▸ (hR2.sm hsa).up (by decide) : SmA 60 l3.abs).sm)) ?_
    rintro v w6 ⟨⟨l4, rfl, hL4, ha4⟩, k6⟩
    have zs_k6 := k6.size
    replace hb1 := hb1.pure k6
    replace hb2 := hb2.pure k6
    replace hb3 := hb3.pure k6
    replace hb4 := hb4.pure k6
    replace h := h.pure k6
    replace hw := hw.pure k6
    replace hL2 := hL2.pure k6
    replace hL3 := hL3.pure k6
    replace hd_20 := hd_20.pure k6
    refine WL.nil ?_
    refine WX.one ⟨hd_20, ?_⟩
    refine DPQ.done ?_
    refine DPR.step [(39, _), (41, _)] rfl ⟨rfl, rfl, trivial⟩ rfl (fun wq_21 kq_21 => ?_)
    have zs_kq_21 := kq_21.size
    replace hb1 := hb1.pure kq_21
    replace hb2 := hb2.pure kq_21
    replace hb3 := hb3.pure kq_21
    replace hb4 := hb4.pure kq_21
    replace h := h.pure kq_21
    replace hw := hw.pure kq_21
    replace hL2 := hL2.pure kq_21
    replace hL3 := hL3.pure kq_21
    replace hL4 := hL4.pure kq_21
    have hd_21 := Chg.refl (Nob) wq_21
    refine WL.call eg_14 rfl rfl (sameline_calls hL2 hL4 ((hR2.sm hsa).up (by decide)).sm) ?_
    rintro v w7 ⟨⟨b, rfl, hb⟩, k7⟩
    have zs_k7 := k7.size
    replace hb1 := hb1.pure k7
    replace hb2 := hb2.pure k7
    replace hb3 := hb3.pure k7
    replace hb4 := hb4.pure k7
    replace h := h.pure k7
    replace hw := hw.pure k7
    replace hL2 := hL2.pure k7
    replace hL3 := hL3.pure k7
    replace hL4 := hL4.pure k7
    replace hd_21 := hd_21.pure k7
    obtain rfl := hb.2 (ha3.symm.trans ha4.symm)
    refine WL.nil ?_
    refine WX.one ⟨hd_21, ?_⟩
    apply DPQ.step (E' := [(42, _)])
    case ho => rfl
    case hs => exact ⟨rfl, trivial⟩
    case hk => rfl
    case h1 =>
      intro wq_22 kq_22
      refine WL.not rfl rfl (?_)
      refine WL.nil ?_
      exact WX.one ⟨rfl, by first | exact Chg.refl _ _ | assumption⟩
    apply DPQ.step (E' := [(43, _)])
    case ho => rfl
    case hs => exact ⟨rfl, trivial⟩
    case hk => rfl
    case h1 =>
      intro wq_23 kq_23
      refine WL.move rfl rfl (?_)
      refine WL.nil ?_
      exact WX.one ⟨rfl, by first | exact Chg.refl _ _ | assumption⟩
    apply DPQ.step (E' := [(8, _), (44, _)])
    case ho => rfl
    case hs => exact ⟨rfl, rfl, trivial⟩
    case hk => rfl
    case h1 =>
      intro wq_24 kq_24
      refine WL.want rfl rfl rfl (WL.move rfl rfl (?_))
      refine WL.nil ?_
      exact WX.one ⟨rfl, by first | exact Chg.refl _ _ | assumption⟩
    apply DPQ.step (E' := [(11, _), (44, _)])
    case ho => rfl
    case hs => exact ⟨rfl, rfl, trivial⟩
    case hk => rfl
    case h1 =>
      intro wq_25 kq_25
      refine WL.want rfl rfl rfl (WL.move rfl rfl (?_))
      refine WL.nil ?_
      exact WX.one ⟨rfl, by first | exact Chg.refl _ _ | assumption⟩
    apply DPQ.step (E' := [(45, _), (46, _), (44, _)])
    case ho => rfl
    case hs => exact ⟨rfl, rfl, rfl, trivial⟩
    case hk => rfl
    case h1 =>
      intro wq_26 kq_26
      refine WL.want rfl rfl rfl (?_)
      refine WL.bneqF Try.underlying4 rfl rfl rfl rfl ?_
      refine WL.nil ?_
      exact WX.one ⟨rfl, by first | exact Chg.refl _ _ | assumption⟩
    apply DPQ.step (E' := [(44, _), (47, _)])
    case ho => rfl
    case hs => exact ⟨rfl, rfl, trivial⟩
    case hk => rfl
    case h1 =>
      intro wq_27 kq_27
      refine WL.pickF rfl rfl rfl (?_)
      refine WL.nil ?_
      exact WX.one ⟨rfl, by first | exact Chg.refl _ _ | assumption⟩
    apply DPQ.step (E' := [(48, _)])
    case ho => rfl
    case hs => exact ⟨rfl, trivial⟩
    case hk => rfl
    case h1 =>
      intro wq_28 kq_28
      refine WL.move rfl rfl (?_)
      refine WL.nil ?_
      exact WX.one ⟨rfl, by first | exact Chg.refl _ _ | assumption⟩
    apply DPQ.step (E' := [(9, _), (49, _)])
    case ho => rfl
    case hs => exact ⟨rfl, rfl, trivial⟩
    case hk => rfl
    case h1 =>
      intro wq_29 kq_29
      refine WL.want rfl rfl rfl (WL.move rfl rfl (?_))
      refine WL.nil ?_
      exact WX.one ⟨rfl, by first | exact Chg.refl _ _ | assumption⟩
    apply DPQ.step (E' := [(12, _), (49, _)])
    case ho => rfl
    case hs => exact ⟨rfl, rfl, trivial⟩
    case hk => rfl
    case h1 =>
      intro wq_30 kq_30
      refine WL.want rfl rfl rfl (WL.move rfl rfl (?_))
      refine WL.nil ?_
      exact WX.one ⟨rfl, by first | exact Chg.refl _ _ | assumption⟩
    apply DPQ.step (E' := [(50, _), (51, _), (49, _)])
    case ho => rfl
    case hs => exact ⟨rfl, rfl, rfl, trivial⟩
    case hk => rfl
    case h1 =>
      intro wq_31 kq_31
      refine WL.want rfl rfl rfl (?_)
      refine WL.neqF rfl rfl rfl (by first | rfl | omega | decide) ?_
      refine WL.nil ?_
      exact WX.one ⟨rfl, by first | exact Chg.refl _ _ | assumption⟩
    apply DPQ.step (E' := [(49, _), (52, _)])
    case ho => rfl
    case hs => exact ⟨rfl, rfl, trivial⟩
    case hk => rfl
    case h1 =>
      intro wq_32 kq_32
      refine WL.pickF rfl rfl rfl (?_)
      refine WL.nil ?_
      exact WX.one ⟨rfl, by first | exact Chg.refl _ _ | assumption⟩
    refine DPQ.done ?_
    refine DPR.done (fun we_33 ke_33 => ?_)
    have zs_ke_33 := ke_33.size
    replace hb1 := hb1.pure ke_33
    replace hb2 := hb2.pure ke_33
    replace hb3 := hb3.pure ke_33
    replace hb4 := hb4.pure ke_33
    replace h := h.pure ke_33
    replace hw := hw.pure ke_33
    replace hL2 := hL2.pure ke_33
    replace hL3 := hL3.pure ke_33
    replace hL4 := hL4.pure ke_33
    refine WX.then_normal (WC.cond_false rfl (WC.skip (WX.then_normal (WC.seq (WC.region (WL.loadsB Try.isAgg25 Try.sizeOf25 hb1 rfl (by first | (simp; done) | (simp; omega) | rfl) rfl (WL.move rfl rfl (?_))))))))
    refine WL.call eg_16 rfl rfl (docsnap_calls h hs1 t) ?_
    rintro v w8 ⟨⟨l5, e5, rfl, hR5, hO5⟩, k8⟩
    have zs_k8 := k8.size
    replace hb1 := hb1.pure k8
    replace hb2 := hb2.pure k8
    replace hb3 := hb3.pure k8
    replace hb4 := hb4.pure k8
    replace h := h.pure k8
    replace hw := hw.pure k8
    replace hO5 := LOi.mono (S' := fun x => x ≠ g_3 ∧ x ≠ g4) hO5 (fun x hx => by have := hb3.lt; omega)
    have hL5 := hO5.ls
    refine WL.move rfl rfl (WL.extract rfl rfl rfl (WL.extract rfl rfl rfl (?_)))
    refine WL.stores Try.sizeOf25 hb3 rfl rfl (by first | (simp; done) | (simp; omega) | rfl) (by first | exact Enc.one _ _ | (intro u hu; obtain ⟨x, _, rfl⟩ := List.mem_map.1 hu; rfl) | (simp [Value.oneCell']; done) | (simp [Value.oneCell', Value.cells]; done)) (by first | (simp; done) | (simp; omega) | (simp [Value.cells]; done) | (simp [Value.cells]; omega) | exact Nat.le_of_ble_eq_true rfl) rfl ?_
    intro w_34 hs_34 hn_34 k_34
    have zs_k_34 := k_34.size
    replace hb1 := hb1.chg k_34 (by first | (intro x h1 h2; exact h2) | (intro x h1 h2; have h3 : _ = _ := h2; exfalso; omega) | (intro b h1 h2 h3; have h4 : _ = _ := h3; (try dsimp only at h2); exfalso; omega) | (intro h1; have h2 : _ = _ := h1; exfalso; omega))
    replace hb2 := hb2.chg k_34 (by first | (intro x h1 h2; exact h2) | (intro x h1 h2; have h3 : _ = _ := h2; exfalso; omega) | (intro b h1 h2 h3; have h4 : _ = _ := h3; (try dsimp only at h2); exfalso; omega) | (intro h1; have h2 : _ = _ := h1; exfalso; omega))
    replace hb4 := hb4.chg k_34 (by first | (intro x h1 h2; exact h2) | (intro x h1 h2; have h3 : _ = _ := h2; exfalso; omega) | (intro b h1 h2 h3; have h4 : _ = _ := h3; (try dsimp only at h2); exfalso; omega) | (intro h1; have h2 : _ = _ := h1; exfalso; omega))
    replace h := h.chg k_34 (by first | (intro x h1 h2; exact h2) | (intro x h1 h2; have h3 : _ = _ := h2; exfalso; omega) | (intro b h1 h2 h3; have h4 : _ = _ := h3; (try dsimp only at h2); exfalso; omega) | (intro h1; have h2 : _ = _ := h1; exfalso; omega))
    replace hw := hw.chg k_34 (by first | (intro x h1 h2; exact h2) | (intro x h1 h2; have h3 : _ = _ := h2; exfalso; omega) | (intro b h1 h2 h3; have h4 : _ = _ := h3; (try dsimp only at h2); exfalso; omega) | (intro h1; have h2 : _ = _ := h1; exfalso; omega))
    replace hL5 := hL5.chg k_34 (by first | (intro x h1 h2; exact h2) | (intro x h1 h2; have h3 : _ = _ := h2; exfalso; omega) | (intro b h1 h2 h3; have h4 : _ = _ := h3; (try dsimp only at h2); exfalso; omega) | (intro h1; have h2 : _ = _ := h1; exfalso; omega))
    replace hb3 := hn_34
    refine WL.assign rfl rfl (WL.nil (WX.then_normal (WC.seq (WC.region (WL.loadsB Try.isAgg25 Try.sizeOf25 hb1 rfl (by first | (simp; done) | (simp; omega) | rfl) rfl (?_))))))
    have hb3' : Blk _ g_3 25 (lcells l5) := hb3
    refine WL.call eg_10 rfl rfl (of_calls h hs2) ?_
    rintro v w9 ⟨⟨l6, rfl, hO6, ha6⟩, k9⟩
    have zs_k9 := k9.size
    replace hb1 := hb1.pure k9
    replace hb2 := hb2.pure k9
    replace hb4 := hb4.pure k9
    replace h := h.pure k9
    replace hw := hw.pure k9
    replace hL5 := hL5.pure k9
    replace hb3' := hb3'.pure k9
    have hL6 := hO6.ls.old
    refine WL.move rfl rfl (?_)
    refine WL.call eg_17 rfl rfl (Snapshot_calls hL6 ((ha6 ▸ hs2.sma : SmA 20 l6.abs).up (by decide)).sm t) ?_
    rintro v w10 ⟨⟨l7, e7, rfl, hR7, hO7⟩, k10⟩
    have zs_k10 := k10.size
    replace hb1 := hb1.pure k10
    replace hb2 := hb2.pure k10
    replace hb4 := hb4.pure k10
    replace h := h.pure k10
    replace hw := hw.pure k10
    replace hL5 := hL5.pure k10
    replace hb3' := hb3'.pure k10
    replace hO7 := LOi.mono (S' := fun x => x ≠ g4) hO7 (fun x hx => by have := hb4.lt; omega)
    have hL7 := hO7.ls
    rw [ha6] at hR7
    obtain ⟨ha7, rfl⟩ := hR7.uniq hR5
    refine WL.move rfl rfl (WL.extract rfl rfl rfl (WL.extract rfl rfl rfl (?_)))
    refine WL.stores Try.sizeOf33 hb4 rfl rfl (by first | (simp; done) | (simp; omega) | rfl) (by first | exact Enc.one _ _ | (intro u hu; obtain ⟨x, _, rfl⟩ := List.mem_map.1 hu; rfl) | (simp [Value.oneCell']; done) | (simp [Value.oneCell', Value.cells]; done)) (by first | (simp; done) | (simp; omega) | (simp [Value.cells]; done) | (simp [Value.cells]; omega) | exact Nat.le_of_ble_eq_true rfl) rfl ?_
    intro w_35 hs_35 hn_35 k_35
    have zs_k_35 := k_35.size
    replace hb1 := hb1.chg k_35 (by first | (intro x h1 h2; exact h2) | (intro x h1 h2; have h3 : _ = _ := h2; exfalso; omega) | (intro b h1 h2 h3; have h4 : _ = _ := h3; (try dsimp only at h2); exfalso; omega) | (intro h1; have h2 : _ = _ := h1; exfalso; omega))
    replace hb2 := hb2.chg k_35 (by first | (intro x h1 h2; exact h2) | (intro x h1 h2; have h3 : _ = _ := h2; exfalso; omega) | (intro b h1 h2 h3; have h4 : _ = _ := h3; (try dsimp only at h2); exfalso; omega) | (intro h1; have h2 : _ = _ := h1; exfalso; omega))
    replace h := h.chg k_35 (by first | (intro x h1 h2; exact h2) | (intro x h1 h2; have h3 : _ = _ := h2; exfalso; omega) | (intro b h1 h2 h3; have h4 : _ = _ := h3; (try dsimp only at h2); exfalso; omega) | (intro h1; have h2 : _ = _ := h1; exfalso; omega))
    replace hw := hw.chg k_35 (by first | (intro x h1 h2; exact h2) | (intro x h1 h2; have h3 : _ = _ := h2; exfalso; omega) | (intro b h1 h2 h3; have h4 : _ = _ := h3; (try dsimp only at h2); exfalso; omega) | (intro h1; have h2 : _ = _ := h1; exfalso; omega))
    replace hL5 := hL5.chg k_35 (by first | (intro x h1 h2; exact h2) | (intro x h1 h2; have h3 : _ = _ := h2; exfalso; omega) | (intro b h1 h2 h3; have h4 : _ = _ := h3; (try dsimp only at h2); exfalso; omega) | (intro h1; have h2 : _ = _ := h1; exfalso; omega))
    replace hb3' := hb3'.chg k_35 (by first | (intro x h1 h2; exact h2) | (intro x h1 h2; have h3 : _ = _ := h2; exfalso; omega) | (intro b h1 h2 h3; have h4 : _ = _ := h3; (try dsimp only at h2); exfalso; omega) | (intro h1; have h2 : _ = _ := h1; exfalso; omega))
    replace hL7 := hL7.chg k_35 (by first | (intro x h1 h2; exact h2) | (intro x h1 h2; have h3 : _ = _ := h2; exfalso; omega) | (intro b h1 h2 h3; have h4 : _ = _ := h3; (try dsimp only at h2); exfalso; omega) | (intro h1; have h2 : _ = _ := h1; exfalso; omega))
    replace hb4 := hn_35
    refine WL.assign rfl rfl (WL.nil (WX.then_normal (WC.seq (?_))))
    have hb4' : Blk _ g4 33 (lcells l7) := hb4
    refine WC.drawP (Nob) [0, 1] [(2, []), (3, [4, 5, 6, 7, 8, 9])] mixed rfl rfl (fun wd_36 kd_36 zd_36 => ?_)
    have zs_kd_36 := kd_36.size
    replace hb1 := hb1.pure kd_36
    replace hb2 := hb2.pure kd_36
    replace h := h.pure kd_36
    replace hw := hw.pure kd_36
    replace hL5 := hL5.pure kd_36
    replace hb3' := hb3'.pure kd_36
    replace hL7 := hL7.pure kd_36
    replace hb4' := hb4'.pure kd_36
    apply DPQ.step (E' := [(7, _)])
    case ho => rfl
    case hs => exact ⟨rfl, trivial⟩
    case hk => rfl
    case h1 =>
      intro wq_37 kq_37
      have zs_kq_37 := kq_37.size
      replace hb1 := hb1.pure kq_37
      replace hb2 := hb2.pure kq_37
      replace h := h.pure kq_37
      replace hw := hw.pure kq_37
      replace hL5 := hL5.pure kq_37
      replace hb3' := hb3'.pure kq_37
      replace hL7 := hL7.pure kq_37
      replace hb4' := hb4'.pure kq_37
      refine WL.loadsB Try.isAgg25 Try.sizeOf25 hb3' rfl (by first | (simp; done) | (simp; omega) | rfl) rfl (?_)
      refine WL.nil ?_
      exact WX.one ⟨rfl, by first | exact Chg.refl _ _ | assumption⟩
    apply DPQ.step (E' := [(10, _)])
    case ho => rfl
    case hs => exact ⟨rfl, trivial⟩
    case hk => rfl
    case h1 =>
      intro wq_38 kq_38
      have zs_kq_38 := kq_38.size
      replace hb1 := hb1.pure kq_38
      replace hb2 := hb2.pure kq_38
      replace h := h.pure kq_38
      replace hw := hw.pure kq_38
      replace hL5 := hL5.pure kq_38
      replace hb3' := hb3'.pure kq_38
      replace hL7 := hL7.pure kq_38
      replace hb4' := hb4'.pure kq_38
      refine WL.loadsB Try.isAgg33 Try.sizeOf33 hb4' rfl (by first | (simp; done) | (simp; omega) | rfl) rfl (?_)
      refine WL.nil ?_
      exact WX.one ⟨rfl, by first | exact Chg.refl _ _ | assumption⟩
    refine DPQ.done ?_
    refine DPR.step [(68, _)] rfl ⟨rfl, trivial⟩ rfl (fun wq_39 kq_39 => ?_)
    have zs_kq_39 := kq_39.size
    replace hb1 := hb1.pure kq_39
    replace hb2 := hb2.pure kq_39
    replace h := h.pure kq_39
    replace hw := hw.pure kq_39
    replace hL5 := hL5.pure kq_39
    replace hb3' := hb3'.pure kq_39
    replace hL7 := hL7.pure kq_39
    replace hb4' := hb4'.pure kq_39
    have hd_39 := Chg.refl (Nob) wq_39
    refine WL.call eg_15 rfl rfl (back_calls hL7 ((ha7 ▸ (hR5.sm hsa).up (by decide) : SmA 60 l7.abs).sm)) ?_
    rintro v w11 ⟨⟨l8, rfl, hL8, ha8⟩, k11⟩
    have zs_k11 := k11.size
    replace hb1 := hb1.pure k11
    replace hb2 := hb2.pure k11
    replace h := h.pure k11
    replace hw := hw.pure k11
    replace hL5 := hL5.pure k11
    replace hb3' := hb3'.pure k11
    replace hL7 := hL7.pure k11
    replace hb4' := hb4'.pure k11
    replace hd_39 := hd_39.pure k11
    refine WL.nil ?_
    refine WX.one ⟨hd_39, ?_⟩
    refine DPQ.done ?_
    refine DPR.step [(67, _), (69, _)] rfl ⟨rfl, rfl, trivial⟩ rfl (fun wq_40 kq_40 => ?_)
    have zs_kq_40 := kq_40.size
    replace hb1 := hb1.pure kq_40
    replace hb2 := hb2.pure kq_40
    replace h := h.pure kq_40
    replace hw := hw.pure kq_40
    replace hL5 := hL5.pure kq_40
    replace hb3' := hb3'.pure kq_40
    replace hL7 := hL7.pure kq_40
    replace hb4' := hb4'.pure kq_40
    replace hL8 := hL8.pure kq_40
    have hd_40 := Chg.refl (Nob) wq_40
    refine WL.call eg_14 rfl rfl (sameline_calls hL5 hL8 ((hR5.sm hsa).up (by decide)).sm) ?_
    rintro v w12 ⟨⟨b, rfl, hb⟩, k12⟩
    have zs_k12 := k12.size
    replace hb1 := hb1.pure k12
    replace hb2 := hb2.pure k12
    replace h := h.pure k12
    replace hw := hw.pure k12
    replace hL5 := hL5.pure k12
    replace hb3' := hb3'.pure k12
    replace hL7 := hL7.pure k12
    replace hb4' := hb4'.pure k12
    replace hL8 := hL8.pure k12
    replace hd_40 := hd_40.pure k12
    obtain rfl := hb.2 (ha7.symm.trans ha8.symm)
    refine WL.nil ?_
    refine WX.one ⟨hd_40, ?_⟩
    apply DPQ.step (E' := [(70, _)])
    case ho => rfl
    case hs => exact ⟨rfl, trivial⟩
    case hk => rfl
    case h1 =>
      intro wq_41 kq_41
      refine WL.move rfl rfl (?_)
      refine WL.nil ?_
      exact WX.one ⟨rfl, by first | exact Chg.refl _ _ | assumption⟩
    apply DPQ.step (E' := [(9, _), (71, _)])
    case ho => rfl
    case hs => exact ⟨rfl, rfl, trivial⟩
    case hk => rfl
    case h1 =>
      intro wq_42 kq_42
      refine WL.want rfl rfl rfl (WL.move rfl rfl (?_))
      refine WL.nil ?_
      exact WX.one ⟨rfl, by first | exact Chg.refl _ _ | assumption⟩
    apply DPQ.step (E' := [(12, _), (71, _)])
    case ho => rfl
    case hs => exact ⟨rfl, rfl, trivial⟩
    case hk => rfl
    case h1 =>
      intro wq_43 kq_43
      refine WL.want rfl rfl rfl (WL.move rfl rfl (?_))
      refine WL.nil ?_
      exact WX.one ⟨rfl, by first | exact Chg.refl _ _ | assumption⟩
    apply DPQ.step (E' := [(72, _), (73, _), (71, _)])
    case ho => rfl
    case hs => exact ⟨rfl, rfl, rfl, trivial⟩
    case hk => rfl
    case h1 =>
      intro wq_44 kq_44
      refine WL.want rfl rfl rfl (?_)
      refine WL.eqlT rfl rfl rfl (by first | rfl | omega | decide) ?_
      refine WL.nil ?_
      exact WX.one ⟨rfl, by first | exact Chg.refl _ _ | assumption⟩
    apply DPQ.step (E' := [(71, _), (74, _)])
    case ho => rfl
    case hs => exact ⟨rfl, rfl, trivial⟩
    case hk => rfl
    case h1 =>
      intro wq_45 kq_45
      refine WL.pickT rfl rfl rfl (?_)
      refine WL.nil ?_
      exact WX.one ⟨rfl, by first | exact Chg.refl _ _ | assumption⟩
    apply DPQ.step (E' := [(75, _)])
    case ho => rfl
    case hs => exact ⟨rfl, trivial⟩
    case hk => rfl
    case h1 =>
      intro wq_46 kq_46
      refine WL.assign rfl rfl (?_)
      refine WL.nil ?_
      exact WX.one ⟨rfl, by first | exact Chg.refl _ _ | assumption⟩
    refine DPQ.done ?_
    refine DPR.done (fun we_47 ke_47 => ?_)
    have zs_ke_47 := ke_47.size
    replace hb1 := hb1.pure ke_47
    replace hb2 := hb2.pure ke_47
    replace h := h.pure ke_47
    replace hw := hw.pure ke_47
    replace hL5 := hL5.pure ke_47
    replace hb3' := hb3'.pure ke_47
    replace hL7 := hL7.pure ke_47
    replace hb4' := hb4'.pure ke_47
    replace hL8 := hL8.pure ke_47
    refine WX.then_normal (WC.ret (?_))
    refine WX.ret1 (.inl rfl) Try.results3 rfl ?_
    exact ⟨_, rfl, rfl, hw⟩
end Go.Proofs.Ytgmkoieemmglpaa
