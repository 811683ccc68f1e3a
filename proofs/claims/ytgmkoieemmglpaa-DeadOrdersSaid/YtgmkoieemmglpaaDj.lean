import Derived.Test.YtgmkoieemmglpaaDi
namespace Go.Proofs.Ytgmkoieemmglpaa
open Go.RowKit Go.HL

set_option maxHeartbeats 4000000 in
theorem copy_calls {S : Nat → Prop} {w : World} {l : LnV} (h : LS S w l) (hs : Sm 20 l) : Calls Try.prog 29 [lval l].toArray w (Ret fun v w' => (∃ l', v = lval l' ∧ LO (w.heap.size ≤ ·) w' 72 l' ∧ l'.abs = l.abs) ∧ Chg Nob w w') := by
  have hw := Chg.refl Nob w
  have hsn := hs.snaps
  have hsd := hs.dead
  replace h := h.old
  obtain ⟨ba, sa, sc, sn, da, dc, de⟩ := l
  simp only at hsn hsd
  refine Calls.of_WC Try.func29 rfl Try.ntmps29 (by simp) ?_
  refine WC.seq (WC.region (?_))
  refine WL.box rfl rfl ?_
  intro g_1 w_1 hge_1 hlt_1 hb_1 k_1
  have zs_k_1 := k_1.size
  replace h := h.pure k_1
  replace hw := hw.pure k_1
  refine WL.alloc Try.zeroValue25 rfl ?_
  intro g_2 w_2 hge_2 hlt_2 hb_2 k_2
  have zs_k_2 := k_2.size
  replace h := h.pure k_2
  replace hw := hw.pure k_2
  replace hb_1 := hb_1.pure k_2
  refine WL.nil (WX.then_normal (WC.seq (?_)))
  have hb1 : Blk _ g_1 25 [vi ba, .slice sa sn.length sc, .slice da de.length dc] := hb_1
  have zw1 := hw.size
  refine WC.drawM ((fun x => w.heap.size ≤ x ∧ x ≠ g_1 ∧ x ≠ g_2)) [0, 1, 3, 4] [2, 5, 6, 7, 8] mixed rfl rfl (fun wd_3 kd_3 zd_3 => ?_)
  have zs_kd_3 := kd_3.size
  replace h := h.pure kd_3
  replace hw := hw.pure kd_3
  replace hb_2 := hb_2.pure kd_3
  replace hb1 := hb1.pure kd_3
  apply DQT.step (E' := [(1, _)])
  case ho => rfl
  case hs => exact ⟨rfl, trivial⟩
  case hk => rfl
  case h1 =>
    intro wq_5 kq_5
    refine WL.fieldAddr (fld_25_0) rfl rfl (?_)
    refine WL.nil ?_
    exact WX.one ⟨rfl, by first | exact Chg.refl _ _ | assumption⟩
  apply DQT.step (E' := [(5, _)])
  case ho => rfl
  case hs => exact ⟨rfl, trivial⟩
  case hk => rfl
  case h1 =>
    intro wq_6 kq_6
    have zs_kq_6 := kq_6.size
    replace h := h.chg kq_6 (by first | (intro x h1 h2; exact h2) | (intro x h1 h2; have h3 : _ = _ := h2; subst h3; assumption) | (intro x h1 h2; have h3 : _ = _ := h2; exfalso; omega) | (intro b h1 h2 h3; have h4 : _ = _ := h3; (try dsimp only at h2); exfalso; omega) | (intro h1; have h2 : _ = _ := h1; exfalso; omega) | (intros; exfalso; (try dsimp only at *); omega) | (intro h1; exfalso; have h4 := h1.2; (try dsimp only at *); omega) | (intro x h1 h2; exact h2.1))
    replace hw := hw.chg kq_6 (by first | (intro x h1 h2; exact h2) | (intro x h1 h2; have h3 : _ = _ := h2; subst h3; assumption) | (intro x h1 h2; have h3 : _ = _ := h2; exfalso; omega) | (intro b h1 h2 h3; have h4 : _ = _ := h3; (try dsimp only at h2); exfalso; omega) | (intro h1; have h2 : _ = _ := h1; exfalso; omega) | (intros; exfalso; (try dsimp only at *); omega) | (intro h1; exfalso; have h4 := h1.2; (try dsimp only at *); omega) | (intro x h1 h2; exact h2.1))
    replace hb_2 := hb_2.chg kq_6 (by first | (intro x h1 h2; exact h2) | (intro x h1 h2; have h3 : _ = _ := h2; subst h3; assumption) | (intro x h1 h2; have h3 : _ = _ := h2; exfalso; omega) | (intro b h1 h2 h3; have h4 : _ = _ := h3; (try dsimp only at h2); exfalso; omega) | (intro h1; have h2 : _ = _ := h1; exfalso; omega) | (intros; exfalso; (try dsimp only at *); omega) | (intro h1; exfalso; have h4 := h1.2; (try dsimp only at *); omega) | (intro x h1 h2; exact h2.1))
    replace hb1 := hb1.chg kq_6 (by first | (intro x h1 h2; exact h2) | (intro x h1 h2; have h3 : _ = _ := h2; subst h3; assumption) | (intro x h1 h2; have h3 : _ = _ := h2; exfalso; omega) | (intro b h1 h2 h3; have h4 : _ = _ := h3; (try dsimp only at h2); exfalso; omega) | (intro h1; have h2 : _ = _ := h1; exfalso; omega) | (intros; exfalso; (try dsimp only at *); omega) | (intro h1; exfalso; have h4 := h1.2; (try dsimp only at *); omega) | (intro x h1 h2; exact h2.1))
    refine WL.loadB Try.isAgg3 hb1 rfl rfl rfl (?_)
    refine WL.nil ?_
    exact WX.one ⟨rfl, by first | exact Chg.refl _ _ | assumption⟩
  apply DQT.step (E' := [(1, _)])
  case ho => rfl
  case hs => exact ⟨rfl, trivial⟩
  case hk => rfl
  case h1 =>
    intro wq_7 kq_7
    refine WL.fieldAddr (fld_25_2) rfl rfl (?_)
    refine WL.nil ?_
    exact WX.one ⟨rfl, by first | exact Chg.refl _ _ | assumption⟩
  apply DQT.step (E' := [(8, _)])
  case ho => rfl
  case hs => exact ⟨rfl, trivial⟩
  case hk => rfl
  case h1 =>
    intro wq_8 kq_8
    have zs_kq_8 := kq_8.size
    replace h := h.chg kq_8 (by first | (intro x h1 h2; exact h2) | (intro x h1 h2; have h3 : _ = _ := h2; subst h3; assumption) | (intro x h1 h2; have h3 : _ = _ := h2; exfalso; omega) | (intro b h1 h2 h3; have h4 : _ = _ := h3; (try dsimp only at h2); exfalso; omega) | (intro h1; have h2 : _ = _ := h1; exfalso; omega) | (intros; exfalso; (try dsimp only at *); omega) | (intro h1; exfalso; have h4 := h1.2; (try dsimp only at *); omega) | (intro x h1 h2; exact h2.1))
    replace hw := hw.chg kq_8 (by first | (intro x h1 h2; exact h2) | (intro x h1 h2; have h3 : _ = _ := h2; subst h3; assumption) | (intro x h1 h2; have h3 : _ = _ := h2; exfalso; omega) | (intro b h1 h2 h3; have h4 : _ = _ := h3; (try dsimp only at h2); exfalso; omega) | (intro h1; have h2 : _ = _ := h1; exfalso; omega) | (intros; exfalso; (try dsimp only at *); omega) | (intro h1; exfalso; have h4 := h1.2; (try dsimp only at *); omega) | (intro x h1 h2; exact h2.1))
    replace hb_2 := hb_2.chg kq_8 (by first | (intro x h1 h2; exact h2) | (intro x h1 h2; have h3 : _ = _ := h2; subst h3; assumption) | (intro x h1 h2; have h3 : _ = _ := h2; exfalso; omega) | (intro b h1 h2 h3; have h4 : _ = _ := h3; (try dsimp only at h2); exfalso; omega) | (intro h1; have h2 : _ = _ := h1; exfalso; omega) | (intros; exfalso; (try dsimp only at *); omega) | (intro h1; exfalso; have h4 := h1.2; (try dsimp only at *); omega) | (intro x h1 h2; exact h2.1))
    replace hb1 := hb1.chg kq_8 (by first | (intro x h1 h2; exact h2) | (intro x h1 h2; have h3 : _ = _ := h2; subst h3; assumption) | (intro x h1 h2; have h3 : _ = _ := h2; exfalso; omega) | (intro b h1 h2 h3; have h4 : _ = _ := h3; (try dsimp only at h2); exfalso; omega) | (intro h1; have h2 : _ = _ := h1; exfalso; omega) | (intros; exfalso; (try dsimp only at *); omega) | (intro h1; exfalso; have h4 := h1.2; (try dsimp only at *); omega) | (intro x h1 h2; exact h2.1))
    refine WL.loadB Try.isAgg23 hb1 rfl rfl rfl (?_)
    refine WL.nil ?_
    exact WX.one ⟨rfl, by first | exact Chg.refl _ _ | assumption⟩
  refine DQT.done (fun hd_4 => ?_)
  refine ⟨?_, trivial, trivial, ?_, trivial, trivial⟩
  refine DT.step [] rfl trivial rfl (fun wq_9 kq_9 => ?_)
  have zs_kq_9 := kq_9.size
  replace h := h.pure kq_9
  replace hw := hw.pure kq_9
  replace hb_2 := hb_2.pure kq_9
  replace hb1 := hb1.pure kq_9
  replace hd_4 := hd_4.pure kq_9
  refine WL.build (e := ept) [] Try.underlying23 Try.sizeOf27 Try.zeroValue27 rfl rfl rfl (by first | (simp [Value.cells]; done) | (simp [Value.cells] <;> rfl) | (simp [Value.cells, eb, ei, es, ebool, e32, e64]; done)) (by decide) rfl ?_
  intro a_hm w_hm hm l_hm z_hm k_hm
  have zs_k_hm := k_hm.size
  replace h := h.pure k_hm
  replace hw := hw.pure k_hm
  replace hb_2 := hb_2.pure k_hm
  replace hb1 := hb1.pure k_hm
  replace hd_4 := hd_4.pure k_hm
  first
    | (have q3 := hlt3
       replace hm := hm.mono (S' := fun b => (w.heap.size ≤ b ∧ b ≠ g_1 ∧ b ≠ g_2) ∧ b ≠ g3) (fun b hb => by omega)
       skip)
    | (replace hm := hm.mono (S' := fun b => w.heap.size ≤ b ∧ b ≠ g_1 ∧ b ≠ g_2) (fun b hb => by omega)
       skip)
  refine WL.nil (WX.one ⟨hd_4, ?_⟩)
  refine ⟨?_, trivial, ?_, trivial, trivial⟩
  refine DT.step [(7, _), (9, _)] rfl ⟨rfl, rfl, trivial⟩ rfl (fun wq_10 kq_10 => ?_)
  have zs_kq_10 := kq_10.size
  replace h := h.pure kq_10
  replace hw := hw.pure kq_10
  replace hb_2 := hb_2.pure kq_10
  replace hb1 := hb1.pure kq_10
  replace hd_4 := hd_4.pure kq_10
  replace hm := hm.pure kq_10
  refine WL.append (e := ept) (xs := []) info_27 rfl Try.underlying23 rfl rfl hm (h.dead.src Try.underlying23) (by show (0 + de.length) * 40 ≤ _ ∧ 0 + de.length ≤ _; constructor <;> omega) (fun x hx => by omega) rfl ?_
  intro aq cq w9 hQ gg9 n9
  have gk := gg9.chg.mono (fun x _ hx => hx.2)
  have zs_gk := gk.size
  replace h := h.chg gk (by first | (intro x h1 h2; exact h2) | (intro x h1 h2; have h3 : _ = _ := h2; subst h3; assumption) | (intro x h1 h2; have h3 : _ = _ := h2; exfalso; omega) | (intro b h1 h2 h3; have h4 : _ = _ := h3; (try dsimp only at h2); exfalso; omega) | (intro h1; have h2 : _ = _ := h1; exfalso; omega) | (intros; exfalso; (try dsimp only at *); omega) | (intro h1; exfalso; have h4 := h1.2; (try dsimp only at *); omega) | (intro x h1 h2; exact h2.1))
  replace hw := hw.chg gk (by first | (intro x h1 h2; exact h2) | (intro x h1 h2; have h3 : _ = _ := h2; subst h3; assumption) | (intro x h1 h2; have h3 : _ = _ := h2; exfalso; omega) | (intro b h1 h2 h3; have h4 : _ = _ := h3; (try dsimp only at h2); exfalso; omega) | (intro h1; have h2 : _ = _ := h1; exfalso; omega) | (intros; exfalso; (try dsimp only at *); omega) | (intro h1; exfalso; have h4 := h1.2; (try dsimp only at *); omega) | (intro x h1 h2; exact h2.1))
  replace hb_2 := hb_2.chg gk (by first | (intro x h1 h2; exact h2) | (intro x h1 h2; have h3 : _ = _ := h2; subst h3; assumption) | (intro x h1 h2; have h3 : _ = _ := h2; exfalso; omega) | (intro b h1 h2 h3; have h4 : _ = _ := h3; (try dsimp only at h2); exfalso; omega) | (intro h1; have h2 : _ = _ := h1; exfalso; omega) | (intros; exfalso; (try dsimp only at *); omega) | (intro h1; exfalso; have h4 := h1.2; (try dsimp only at *); omega) | (intro x h1 h2; exact h2.1))
  replace hb1 := hb1.chg gk (by first | (intro x h1 h2; exact h2) | (intro x h1 h2; have h3 : _ = _ := h2; subst h3; assumption) | (intro x h1 h2; have h3 : _ = _ := h2; exfalso; omega) | (intro b h1 h2 h3; have h4 : _ = _ := h3; (try dsimp only at h2); exfalso; omega) | (intro h1; have h2 : _ = _ := h1; exfalso; omega) | (intros; exfalso; (try dsimp only at *); omega) | (intro h1; exfalso; have h4 := h1.2; (try dsimp only at *); omega) | (intro x h1 h2; exact h2.1))
  replace hd_4 := hd_4.chg gk (by first | (intro x h1 h2; exact h2) | (intro x h1 h2; have h3 : _ = _ := h2; subst h3; assumption) | (intro x h1 h2; have h3 : _ = _ := h2; exfalso; omega) | (intro b h1 h2 h3; have h4 : _ = _ := h3; (try dsimp only at h2); exfalso; omega) | (intro h1; have h2 : _ = _ := h1; exfalso; omega) | (intros; exfalso; (try dsimp only at *); omega) | (intro h1; exfalso; have h4 := h1.2; (try dsimp only at *); omega) | (intro x h1 h2; exact h2.1))
  refine WL.nil (WX.one ⟨hd_4, ?_⟩)
  refine ⟨?_, ?_, trivial, trivial⟩
  refine DT.step [(6, _), (10, _)] rfl ⟨rfl, rfl, trivial⟩ rfl (fun wq_11 kq_11 => ?_)
  have zs_kq_11 := kq_11.size
  replace h := h.pure kq_11
  replace hw := hw.pure kq_11
  replace hb_2 := hb_2.pure kq_11
  replace hb1 := hb1.pure kq_11
  replace hd_4 := hd_4.pure kq_11
  replace hQ := hQ.pure kq_11
  refine WL.bld rfl (bld_25_0_2 _ _ _ _) rfl (?_)
  refine WL.nil (WX.one ⟨hd_4, ?_⟩)
  refine ⟨?_, trivial, trivial⟩
  refine DT.step [] rfl trivial rfl (fun wq_12 kq_12 => ?_)
  have zs_kq_12 := kq_12.size
  replace h := h.pure kq_12
  replace hw := hw.pure kq_12
  replace hb_2 := hb_2.pure kq_12
  replace hb1 := hb1.pure kq_12
  replace hd_4 := hd_4.pure kq_12
  replace hQ := hQ.pure kq_12
  first
    | (replace hQ := hQ.lt
       skip)
    | (replace hm := hm.lt
       skip)
    | skip
  refine WL.alloc Try.zeroValue25 rfl ?_
  intro g3 w3 hge3 hlt3 hb3 k3
  have zs_k3 := k3.size
  replace h := h.pure k3
  replace hw := hw.pure k3
  replace hb_2 := hb_2.pure k3
  replace hb1 := hb1.pure k3
  replace hd_4 := hd_4.pure k3
  replace hQ := hQ.pure k3
  have hM3 : w.heap.size ≤ g3 ∧ g3 ≠ g_1 ∧ g3 ≠ g_2 := by omega
  first
    | (replace hQ := hQ.mono (S' := fun b => (w.heap.size ≤ b ∧ b ≠ g_1 ∧ b ≠ g_2) ∧ b ≠ g3) (fun b hb => ⟨hb.1, by have := hb.2; omega⟩)
       skip)
    | (replace hm := hm.mono (S' := fun b => (w.heap.size ≤ b ∧ b ≠ g_1 ∧ b ≠ g_2) ∧ b ≠ g3) (fun b hb => ⟨hb.1, by have := hb.2; omega⟩)
       skip)
    | skip
  refine WL.nil (WX.one ⟨hd_4, ?_⟩)
  refine ⟨?_, trivial⟩
  refine DT.step [(3, _), (11, _)] rfl ⟨rfl, rfl, trivial⟩ rfl (fun wq_13 kq_13 => ?_)
  have zs_kq_13 := kq_13.size
  replace h := h.pure kq_13
  replace hw := hw.pure kq_13
  replace hb_2 := hb_2.pure kq_13
  replace hb1 := hb1.pure kq_13
  replace hd_4 := hd_4.pure kq_13
  replace hQ := hQ.pure kq_13
  replace hb3 := hb3.pure kq_13
  refine WL.stores Try.sizeOf25 hb3 rfl rfl (by first | (simp; done) | (simp; omega) | rfl) (by first | exact Enc.one _ _ | (intro u hu; obtain ⟨x, _, rfl⟩ := List.mem_map.1 hu; rfl) | (simp [Value.oneCell']; done) | (simp [Value.oneCell', Value.cells]; done)) (by first | (simp; done) | (simp; omega) | (simp [Value.cells]; done) | (simp [Value.cells]; omega) | exact Nat.le_of_ble_eq_true rfl) rfl ?_
  intro w_14 hs_14 hn_14 k_14
  have zs_k_14 := k_14.size
  replace h := h.chg k_14 (by first | (intro x h1 h2; exact h2) | (intro x h1 h2; have h3 : _ = _ := h2; subst h3; assumption) | (intro x h1 h2; have h3 : _ = _ := h2; exfalso; omega) | (intro b h1 h2 h3; have h4 : _ = _ := h3; (try dsimp only at h2); exfalso; omega) | (intro h1; have h2 : _ = _ := h1; exfalso; omega) | (intros; exfalso; (try dsimp only at *); omega) | (intro h1; exfalso; have h4 := h1.2; (try dsimp only at *); omega) | (intro x h1 h2; exact h2.1))
  replace hw := hw.chg k_14 (by first | (intro x h1 h2; exact h2) | (intro x h1 h2; have h3 : _ = _ := h2; subst h3; assumption) | (intro x h1 h2; have h3 : _ = _ := h2; exfalso; omega) | (intro b h1 h2 h3; have h4 : _ = _ := h3; (try dsimp only at h2); exfalso; omega) | (intro h1; have h2 : _ = _ := h1; exfalso; omega) | (intros; exfalso; (try dsimp only at *); omega) | (intro h1; exfalso; have h4 := h1.2; (try dsimp only at *); omega) | (intro x h1 h2; exact h2.1))
  replace hb_2 := hb_2.chg k_14 (by first | (intro x h1 h2; exact h2) | (intro x h1 h2; have h3 : _ = _ := h2; subst h3; assumption) | (intro x h1 h2; have h3 : _ = _ := h2; exfalso; omega) | (intro b h1 h2 h3; have h4 : _ = _ := h3; (try dsimp only at h2); exfalso; omega) | (intro h1; have h2 : _ = _ := h1; exfalso; omega) | (intros; exfalso; (try dsimp only at *); omega) | (intro h1; exfalso; have h4 := h1.2; (try dsimp only at *); omega) | (intro x h1 h2; exact h2.1))
  replace hb1 := hb1.chg k_14 (by first | (intro x h1 h2; exact h2) | (intro x h1 h2; have h3 : _ = _ := h2; subst h3; assumption) | (intro x h1 h2; have h3 : _ = _ := h2; exfalso; omega) | (intro b h1 h2 h3; have h4 : _ = _ := h3; (try dsimp only at h2); exfalso; omega) | (intro h1; have h2 : _ = _ := h1; exfalso; omega) | (intros; exfalso; (try dsimp only at *); omega) | (intro h1; exfalso; have h4 := h1.2; (try dsimp only at *); omega) | (intro x h1 h2; exact h2.1))
  replace hd_4 := hd_4.chg k_14 (by first | (intro x h1 h2; exact h2) | (intro x h1 h2; have h3 : _ = _ := h2; subst h3; assumption) | (intro x h1 h2; have h3 : _ = _ := h2; exfalso; omega) | (intro b h1 h2 h3; have h4 : _ = _ := h3; (try dsimp only at h2); exfalso; omega) | (intro h1; have h2 : _ = _ := h1; exfalso; omega) | (intros; exfalso; (try dsimp only at *); omega) | (intro h1; exfalso; have h4 := h1.2; (try dsimp only at *); omega) | (intro x h1 h2; exact h2.1))
  replace hQ := hQ.chg k_14 (by first | (intro x h1 h2; exact h2) | (intro x h1 h2; have h3 : _ = _ := h2; subst h3; assumption) | (intro x h1 h2; have h3 : _ = _ := h2; exfalso; omega) | (intro b h1 h2 h3; have h4 : _ = _ := h3; (try dsimp only at h2); exfalso; omega) | (intro h1; have h2 : _ = _ := h1; exfalso; omega) | (intros; exfalso; (try dsimp only at *); omega) | (intro h1; exfalso; have h4 := h1.2; (try dsimp only at *); omega) | (intro x h1 h2; exact h2.1))
  replace hb3 := hn_14
  refine WL.nil (WX.one0 (v := undef) ⟨hd_4, ?_⟩)
  refine DT.done (fun we_15 ke_15 => ?_) _
  have zs_ke_15 := ke_15.size
  replace h := h.pure ke_15
  replace hw := hw.pure ke_15
  replace hb_2 := hb_2.pure ke_15
  replace hb1 := hb1.pure ke_15
  replace hd_4 := hd_4.pure ke_15
  replace hQ := hQ.pure ke_15
  replace hb3 := hb3.pure ke_15
  rotate_left
  refine DT.step [] rfl trivial rfl (fun wq_11 kq_11 => ?_)
  have zs_kq_11 := kq_11.size
  replace h := h.pure kq_11
  replace hw := hw.pure kq_11
  replace hb_2 := hb_2.pure kq_11
  replace hb1 := hb1.pure kq_11
  replace hd_4 := hd_4.pure kq_11
  replace hQ := hQ.pure kq_11
  first
    | (replace hQ := hQ.lt
       skip)
    | (replace hm := hm.lt
       skip)
    | skip
  refine WL.alloc Try.zeroValue25 rfl ?_
  intro g3 w3 hge3 hlt3 hb3 k3
  have zs_k3 := k3.size
  replace h := h.pure k3
  replace hw := hw.pure k3
  replace hb_2 := hb_2.pure k3
  replace hb1 := hb1.pure k3
  replace hd_4 := hd_4.pure k3
  replace hQ := hQ.pure k3
  have hM3 : w.heap.size ≤ g3 ∧ g3 ≠ g_1 ∧ g3 ≠ g_2 := by omega
  first
    | (replace hQ := hQ.mono (S' := fun b => (w.heap.size ≤ b ∧ b ≠ g_1 ∧ b ≠ g_2) ∧ b ≠ g3) (fun b hb => ⟨hb.1, by have := hb.2; omega⟩)
       skip)
    | (replace hm := hm.mono (S' := fun b => (w.heap.size ≤ b ∧ b ≠ g_1 ∧ b ≠ g_2) ∧ b ≠ g3) (fun b hb => ⟨hb.1, by have := hb.2; omega⟩)
       skip)
    | skip
  refine WL.nil (WX.one ⟨hd_4, ?_⟩)
  refine ⟨?_, trivial, trivial⟩
  refine DT.step [(6, _), (10, _)] rfl ⟨rfl, rfl, trivial⟩ rfl (fun wq_12 kq_12 => ?_)
  have zs_kq_12 := kq_12.size
  replace h := h.pure kq_12
  replace hw := hw.pure kq_12
  replace hb_2 := hb_2.pure kq_12
  replace hb1 := hb1.pure kq_12
  replace hd_4 := hd_4.pure kq_12
  replace hQ := hQ.pure kq_12
  replace hb3 := hb3.pure kq_12
  refine WL.bld rfl (bld_25_0_2 _ _ _ _) rfl (?_)
  refine WL.nil (WX.one ⟨hd_4, ?_⟩)
  refine ⟨?_, trivial⟩
  refine DT.step [(3, _), (11, _)] rfl ⟨rfl, rfl, trivial⟩ rfl (fun wq_13 kq_13 => ?_)
  have zs_kq_13 := kq_13.size
  replace h := h.pure kq_13
  replace hw := hw.pure kq_13
  replace hb_2 := hb_2.pure kq_13
  replace hb1 := hb1.pure kq_13
  replace hd_4 := hd_4.pure kq_13
  replace hQ := hQ.pure kq_13
  replace hb3 := hb3.pure kq_13
  refine WL.stores Try.sizeOf25 hb3 rfl rfl (by first | (simp; done) | (simp; omega) | rfl) (by first | exact Enc.one _ _ | (intro u hu; obtain ⟨x, _, rfl⟩ := List.mem_map.1 hu; rfl) | (simp [Value.oneCell']; done) | (simp [Value.oneCell', Value.cells]; done)) (by first | (simp; done) | (simp; omega) | (simp [Value.cells]; done) | (simp [Value.cells]; omega) | exact Nat.le_of_ble_eq_true rfl) rfl ?_
  intro w_14 hs_14 hn_14 k_14
  have zs_k_14 := k_14.size
  replace h := h.chg k_14 (by first | (intro x h1 h2; exact h2) | (intro x h1 h2; have h3 : _ = _ := h2; subst h3; assumption) | (intro x h1 h2; have h3 : _ = _ := h2; exfalso; omega) | (intro b h1 h2 h3; have h4 : _ = _ := h3; (try dsimp only at h2); exfalso; omega) | (intro h1; have h2 : _ = _ := h1; exfalso; omega) | (intros; exfalso; (try dsimp only at *); omega) | (intro h1; exfalso; have h4 := h1.2; (try dsimp only at *); omega) | (intro x h1 h2; exact h2.1))
  replace hw := hw.chg k_14 (by first | (intro x h1 h2; exact h2) | (intro x h1 h2; have h3 : _ = _ := h2; subst h3; assumption) | (intro x h1 h2; have h3 : _ = _ := h2; exfalso; omega) | (intro b h1 h2 h3; have h4 : _ = _ := h3; (try dsimp only at h2); exfalso; omega) | (intro h1; have h2 : _ = _ := h1; exfalso; omega) | (intros; exfalso; (try dsimp only at *); omega) | (intro h1; exfalso; have h4 := h1.2; (try dsimp only at *); omega) | (intro x h1 h2; exact h2.1))
  replace hb_2 := hb_2.chg k_14 (by first | (intro x h1 h2; exact h2) | (intro x h1 h2; have h3 : _ = _ := h2; subst h3; assumption) | (intro x h1 h2; have h3 : _ = _ := h2; exfalso; omega) | (intro b h1 h2 h3; have h4 : _ = _ := h3; (try dsimp only at h2); exfalso; omega) | (intro h1; have h2 : _ = _ := h1; exfalso; omega) | (intros; exfalso; (try dsimp only at *); omega) | (intro h1; exfalso; have h4 := h1.2; (try dsimp only at *); omega) | (intro x h1 h2; exact h2.1))
  replace hb1 := hb1.chg k_14 (by first | (intro x h1 h2; exact h2) | (intro x h1 h2; have h3 : _ = _ := h2; subst h3; assumption) | (intro x h1 h2; have h3 : _ = _ := h2; exfalso; omega) | (intro b h1 h2 h3; have h4 : _ = _ := h3; (try dsimp only at h2); exfalso; omega) | (intro h1; have h2 : _ = _ := h1; exfalso; omega) | (intros; exfalso; (try dsimp only at *); omega) | (intro h1; exfalso; have h4 := h1.2; (try dsimp only at *); omega) | (intro x h1 h2; exact h2.1))
  replace hd_4 := hd_4.chg k_14 (by first | (intro x h1 h2; exact h2) | (intro x h1 h2; have h3 : _ = _ := h2; subst h3; assumption) | (intro x h1 h2; have h3 : _ = _ := h2; exfalso; omega) | (intro b h1 h2 h3; have h4 : _ = _ := h3; (try dsimp only at h2); exfalso; omega) | (intro h1; have h2 : _ = _ := h1; exfalso; omega) | (intros; exfalso; (try dsimp only at *); omega) | (intro h1; exfalso; have h4 := h1.2; (try dsimp only at *); omega) | (intro x h1 h2; exact h2.1))
  replace hQ := hQ.chg k_14 (by first | (intro x h1 h2; exact h2) | (intro x h1 h2; have h3 : _ = _ := h2; subst h3; assumption) | (intro x h1 h2; have h3 : _ = _ := h2; exfalso; omega) | (intro b h1 h2 h3; have h4 : _ = _ := h3; (try dsimp only at h2); exfalso; omega) | (intro h1; have h2 : _ = _ := h1; exfalso; omega) | (intros; exfalso; (try dsimp only at *); omega) | (intro h1; exfalso; have h4 := h1.2; (try dsimp only at *); omega) | (intro x h1 h2; exact h2.1))
  replace hb3 := hn_14
  refine WL.nil (WX.one0 (v := undef) ⟨hd_4, ?_⟩)
  refine DT.done (fun we_15 ke_15 => ?_) _
  have zs_ke_15 := ke_15.size
  replace h := h.pure ke_15
  replace hw := hw.pure ke_15
  replace hb_2 := hb_2.pure ke_15
  replace hb1 := hb1.pure ke_15
  replace hd_4 := hd_4.pure ke_15
  replace hQ := hQ.pure ke_15
  replace hb3 := hb3.pure ke_15
  rotate_left
  refine DT.step [] rfl trivial rfl (fun wq_10 kq_10 => ?_)
  have zs_kq_10 := kq_10.size
  replace h := h.pure kq_10
  replace hw := hw.pure kq_10
  replace hb_2 := hb_2.pure kq_10
  replace hb1 := hb1.pure kq_10
  replace hd_4 := hd_4.pure kq_10
  replace hm := hm.pure kq_10
  first
    | (replace hQ := hQ.lt
       skip)
    | (replace hm := hm.lt
       skip)
    | skip
  refine WL.alloc Try.zeroValue25 rfl ?_
  intro g3 w3 hge3 hlt3 hb3 k3
  have zs_k3 := k3.size
  replace h := h.pure k3
  replace hw := hw.pure k3
  replace hb_2 := hb_2.pure k3
  replace hb1 := hb1.pure k3
  replace hd_4 := hd_4.pure k3
  replace hm := hm.pure k3
  have hM3 : w.heap.size ≤ g3 ∧ g3 ≠ g_1 ∧ g3 ≠ g_2 := by omega
  first
    | (replace hQ := hQ.mono (S' := fun b => (w.heap.size ≤ b ∧ b ≠ g_1 ∧ b ≠ g_2) ∧ b ≠ g3) (fun b hb => ⟨hb.1, by have := hb.2; omega⟩)
       skip)
    | (replace hm := hm.mono (S' := fun b => (w.heap.size ≤ b ∧ b ≠ g_1 ∧ b ≠ g_2) ∧ b ≠ g3) (fun b hb => ⟨hb.1, by have := hb.2; omega⟩)
       skip)
    | skip
  refine WL.nil (WX.one ⟨hd_4, ?_⟩)
  refine ⟨?_, trivial, trivial, trivial⟩
  refine DT.step [(7, _), (9, _)] rfl ⟨rfl, rfl, trivial⟩ rfl (fun wq_11 kq_11 => ?_)
  have zs_kq_11 := kq_11.size
  replace h := h.pure kq_11
  replace hw := hw.pure kq_11
  replace hb_2 := hb_2.pure kq_11
  replace hb1 := hb1.pure kq_11
  replace hd_4 := hd_4.pure kq_11
  replace hm := hm.pure kq_11
  replace hb3 := hb3.pure kq_11
  refine WL.append (e := ept) (xs := []) info_27 rfl Try.underlying23 rfl rfl hm (h.dead.src Try.underlying23) (by show (0 + de.length) * 40 ≤ _ ∧ 0 + de.length ≤ _; constructor <;> omega) (fun x hx => by omega) rfl ?_
  intro aq cq w9 hQ gg9 n9
  have gk := gg9.chg.mono (fun x _ hx => hx.2)
  have zs_gk := gk.size
  replace h := h.chg gk (by first | (intro x h1 h2; exact h2) | (intro x h1 h2; have h3 : _ = _ := h2; subst h3; assumption) | (intro x h1 h2; have h3 : _ = _ := h2; exfalso; omega) | (intro b h1 h2 h3; have h4 : _ = _ := h3; (try dsimp only at h2); exfalso; omega) | (intro h1; have h2 : _ = _ := h1; exfalso; omega) | (intros; exfalso; (try dsimp only at *); omega) | (intro h1; exfalso; have h4 := h1.2; (try dsimp only at *); omega) | (intro x h1 h2; exact h2.1))
  replace hw := hw.chg gk (by first | (intro x h1 h2; exact h2) | (intro x h1 h2; have h3 : _ = _ := h2; subst h3; assumption) | (intro x h1 h2; have h3 : _ = _ := h2; exfalso; omega) | (intro b h1 h2 h3; have h4 : _ = _ := h3; (try dsimp only at h2); exfalso; omega) | (intro h1; have h2 : _ = _ := h1; exfalso; omega) | (intros; exfalso; (try dsimp only at *); omega) | (intro h1; exfalso; have h4 := h1.2; (try dsimp only at *); omega) | (intro x h1 h2; exact h2.1))
  replace hb_2 := hb_2.chg gk (by first | (intro x h1 h2; exact h2) | (intro x h1 h2; have h3 : _ = _ := h2; subst h3; assumption) | (intro x h1 h2; have h3 : _ = _ := h2; exfalso; omega) | (intro b h1 h2 h3; have h4 : _ = _ := h3; (try dsimp only at h2); exfalso; omega) | (intro h1; have h2 : _ = _ := h1; exfalso; omega) | (intros; exfalso; (try dsimp only at *); omega) | (intro h1; exfalso; have h4 := h1.2; (try dsimp only at *); omega) | (intro x h1 h2; exact h2.1))
  replace hb1 := hb1.chg gk (by first | (intro x h1 h2; exact h2) | (intro x h1 h2; have h3 : _ = _ := h2; subst h3; assumption) | (intro x h1 h2; have h3 : _ = _ := h2; exfalso; omega) | (intro b h1 h2 h3; have h4 : _ = _ := h3; (try dsimp only at h2); exfalso; omega) | (intro h1; have h2 : _ = _ := h1; exfalso; omega) | (intros; exfalso; (try dsimp only at *); omega) | (intro h1; exfalso; have h4 := h1.2; (try dsimp only at *); omega) | (intro x h1 h2; exact h2.1))
  replace hd_4 := hd_4.chg gk (by first | (intro x h1 h2; exact h2) | (intro x h1 h2; have h3 : _ = _ := h2; subst h3; assumption) | (intro x h1 h2; have h3 : _ = _ := h2; exfalso; omega) | (intro b h1 h2 h3; have h4 : _ = _ := h3; (try dsimp only at h2); exfalso; omega) | (intro h1; have h2 : _ = _ := h1; exfalso; omega) | (intros; exfalso; (try dsimp only at *); omega) | (intro h1; exfalso; have h4 := h1.2; (try dsimp only at *); omega) | (intro x h1 h2; exact h2.1))
  replace hb3 := hb3.chg gk (by first | (intro x h1 h2; exact h2) | (intro x h1 h2; have h3 : _ = _ := h2; subst h3; assumption) | (intro x h1 h2; have h3 : _ = _ := h2; exfalso; omega) | (intro b h1 h2 h3; have h4 : _ = _ := h3; (try dsimp only at h2); exfalso; omega) | (intro h1; have h2 : _ = _ := h1; exfalso; omega) | (intros; exfalso; (try dsimp only at *); omega) | (intro h1; exfalso; have h4 := h1.2; (try dsimp only at *); omega) | (intro x h1 h2; exact h2.1))
  refine WL.nil (WX.one ⟨hd_4, ?_⟩)
  refine ⟨?_, trivial, trivial⟩
  refine DT.step [(6, _), (10, _)] rfl ⟨rfl, rfl, trivial⟩ rfl (fun wq_12 kq_12 => ?_)
  have zs_kq_12 := kq_12.size
  replace h := h.pure kq_12
  replace hw := hw.pure kq_12
  replace hb_2 := hb_2.pure kq_12
  replace hb1 := hb1.pure kq_12
  replace hd_4 := hd_4.pure kq_12
  replace hb3 := hb3.pure kq_12
  replace hQ := hQ.pure kq_12
  refine WL.bld rfl (bld_25_0_2 _ _ _ _) rfl (?_)
  refine WL.nil (WX.one ⟨hd_4, ?_⟩)
  refine ⟨?_, trivial⟩
  refine DT.step [(3, _), (11, _)] rfl ⟨rfl, rfl, trivial⟩ rfl (fun wq_13 kq_13 => ?_)
  have zs_kq_13 := kq_13.size
  replace h := h.pure kq_13
  replace hw := hw.pure kq_13
  replace hb_2 := hb_2.pure kq_13
  replace hb1 := hb1.pure kq_13
  replace hd_4 := hd_4.pure kq_13
  replace hb3 := hb3.pure kq_13
  replace hQ := hQ.pure kq_13
  refine WL.stores Try.sizeOf25 hb3 rfl rfl (by first | (simp; done) | (simp; omega) | rfl) (by first | exact Enc.one _ _ | (intro u hu; obtain ⟨x, _, rfl⟩ := List.mem_map.1 hu; rfl) | (simp [Value.oneCell']; done) | (simp [Value.oneCell', Value.cells]; done)) (by first | (simp; done) | (simp; omega) | (simp [Value.cells]; done) | (simp [Value.cells]; omega) | exact Nat.le_of_ble_eq_true rfl) rfl ?_
  intro w_14 hs_14 hn_14 k_14
  have zs_k_14 := k_14.size
  replace h := h.chg k_14 (by first | (intro x h1 h2; exact h2) | (intro x h1 h2; have h3 : _ = _ := h2; subst h3; assumption) | (intro x h1 h2; have h3 : _ = _ := h2; exfalso; omega) | (intro b h1 h2 h3; have h4 : _ = _ := h3; (try dsimp only at h2); exfalso; omega) | (intro h1; have h2 : _ = _ := h1; exfalso; omega) | (intros; exfalso; (try dsimp only at *); omega) | (intro h1; exfalso; have h4 := h1.2; (try dsimp only at *); omega) | (intro x h1 h2; exact h2.1))
  replace hw := hw.chg k_14 (by first | (intro x h1 h2; exact h2) | (intro x h1 h2; have h3 : _ = _ := h2; subst h3; assumption) | (intro x h1 h2; have h3 : _ = _ := h2; exfalso; omega) | (intro b h1 h2 h3; have h4 : _ = _ := h3; (try dsimp only at h2); exfalso; omega) | (intro h1; have h2 : _ = _ := h1; exfalso; omega) | (intros; exfalso; (try dsimp only at *); omega) | (intro h1; exfalso; have h4 := h1.2; (try dsimp only at *); omega) | (intro x h1 h2; exact h2.1))
  replace hb_2 := hb_2.chg k_14 (by first | (intro x h1 h2; exact h2) | (intro x h1 h2; have h3 : _ = _ := h2; subst h3; assumption) | (intro x h1 h2; have h3 : _ = _ := h2; exfalso; omega) | (intro b h1 h2 h3; have h4 : _ = _ := h3; (try dsimp only at h2); exfalso; omega) | (intro h1; have h2 : _ = _ := h1; exfalso; omega) | (intros; exfalso; (try dsimp only at *); omega) | (intro h1; exfalso; have h4 := h1.2; (try dsimp only at *); omega) | (intro x h1 h2; exact h2.1))
  replace hb1 := hb1.chg k_14 (by first | (intro x h1 h2; exact h2) | (intro x h1 h2; have h3 : _ = _ := h2; subst h3; assumption) | (intro x h1 h2; have h3 : _ = _ := h2; exfalso; omega) | (intro b h1 h2 h3; have h4 : _ = _ := h3; (try dsimp only at h2); exfalso; omega) | (intro h1; have h2 : _ = _ := h1; exfalso; omega) | (intros; exfalso; (try dsimp only at *); omega) | (intro h1; exfalso; have h4 := h1.2; (try dsimp only at *); omega) | (intro x h1 h2; exact h2.1))
  replace hd_4 := hd_4.chg k_14 (by first | (intro x h1 h2; exact h2) | (intro x h1 h2; have h3 : _ = _ := h2; subst h3; assumption) | (intro x h1 h2; have h3 : _ = _ := h2; exfalso; omega) | (intro b h1 h2 h3; have h4 : _ = _ := h3; (try dsimp only at h2); exfalso; omega) | (intro h1; have h2 : _ = _ := h1; exfalso; omega) | (intros; exfalso; (try dsimp only at *); omega) | (intro h1; exfalso; have h4 := h1.2; (try dsimp only at *); omega) | (intro x h1 h2; exact h2.1))
  replace hQ := hQ.chg k_14 (by first | (intro x h1 h2; exact h2) | (intro x h1 h2; have h3 : _ = _ := h2; subst h3; assumption) | (intro x h1 h2; have h3 : _ = _ := h2; exfalso; omega) | (intro b h1 h2 h3; have h4 : _ = _ := h3; (try dsimp only at h2); exfalso; omega) | (intro h1; have h2 : _ = _ := h1; exfalso; omega) | (intros; exfalso; (try dsimp only at *); omega) | (intro h1; exfalso; have h4 := h1.2; (try dsimp only at *); omega) | (intro x h1 h2; exact h2.1))
  replace hb3 := hn_14
  refine WL.nil (WX.one0 (v := undef) ⟨hd_4, ?_⟩)
  refine DT.done (fun we_15 ke_15 => ?_) _
  have zs_ke_15 := ke_15.size
  replace h := h.pure ke_15
  replace hw := hw.pure ke_15
  replace hb_2 := hb_2.pure ke_15
  replace hb1 := hb1.pure ke_15
  replace hd_4 := hd_4.pure ke_15
  replace hb3 := hb3.pure ke_15
  replace hQ := hQ.pure ke_15
  rotate_left
  refine DT.step [] rfl trivial rfl (fun wq_9 kq_9 => ?_)
  have zs_kq_9 := kq_9.size
  replace h := h.pure kq_9
  replace hw := hw.pure kq_9
  replace hb_2 := hb_2.pure kq_9
  replace hb1 := hb1.pure kq_9
  replace hd_4 := hd_4.pure kq_9
  first
    | (replace hQ := hQ.lt
       skip)
    | (replace hm := hm.lt
       skip)
    | skip
  refine WL.alloc Try.zeroValue25 rfl ?_
  intro g3 w3 hge3 hlt3 hb3 k3
  have zs_k3 := k3.size
  replace h := h.pure k3
  replace hw := hw.pure k3
  replace hb_2 := hb_2.pure k3
  replace hb1 := hb1.pure k3
  replace hd_4 := hd_4.pure k3
  have hM3 : w.heap.size ≤ g3 ∧ g3 ≠ g_1 ∧ g3 ≠ g_2 := by omega
  first
    | (replace hQ := hQ.mono (S' := fun b => (w.heap.size ≤ b ∧ b ≠ g_1 ∧ b ≠ g_2) ∧ b ≠ g3) (fun b hb => ⟨hb.1, by have := hb.2; omega⟩)
       skip)
    | (replace hm := hm.mono (S' := fun b => (w.heap.size ≤ b ∧ b ≠ g_1 ∧ b ≠ g_2) ∧ b ≠ g3) (fun b hb => ⟨hb.1, by have := hb.2; omega⟩)
       skip)
    | skip
  refine WL.nil (WX.one ⟨hd_4, ?_⟩)
  refine ⟨?_, trivial, trivial, trivial, trivial⟩
  refine DT.step [] rfl trivial rfl (fun wq_10 kq_10 => ?_)
  have zs_kq_10 := kq_10.size
  replace h := h.pure kq_10
  replace hw := hw.pure kq_10
  replace hb_2 := hb_2.pure kq_10
  replace hb1 := hb1.pure kq_10
  replace hd_4 := hd_4.pure kq_10
  replace hb3 := hb3.pure kq_10
  refine WL.build (e := ept) [] Try.underlying23 Try.sizeOf27 Try.zeroValue27 rfl rfl rfl (by first | (simp [Value.cells]; done) | (simp [Value.cells] <;> rfl) | (simp [Value.cells, eb, ei, es, ebool, e32, e64]; done)) (by decide) rfl ?_
  intro a_hm w_hm hm l_hm z_hm k_hm
  have zs_k_hm := k_hm.size
  replace h := h.pure k_hm
  replace hw := hw.pure k_hm
  replace hb_2 := hb_2.pure k_hm
  replace hb1 := hb1.pure k_hm
  replace hd_4 := hd_4.pure k_hm
  replace hb3 := hb3.pure k_hm
  first
    | (have q3 := hlt3
       replace hm := hm.mono (S' := fun b => (w.heap.size ≤ b ∧ b ≠ g_1 ∧ b ≠ g_2) ∧ b ≠ g3) (fun b hb => by omega)
       skip)
    | (replace hm := hm.mono (S' := fun b => w.heap.size ≤ b ∧ b ≠ g_1 ∧ b ≠ g_2) (fun b hb => by omega)
       skip)
  refine WL.nil (WX.one ⟨hd_4, ?_⟩)
  refine ⟨?_, trivial, trivial, trivial⟩
  refine DT.step [(7, _), (9, _)] rfl ⟨rfl, rfl, trivial⟩ rfl (fun wq_11 kq_11 => ?_)
  have zs_kq_11 := kq_11.size
  replace h := h.pure kq_11
  replace hw := hw.pure kq_11
  replace hb_2 := hb_2.pure kq_11
  replace hb1 := hb1.pure kq_11
  replace hd_4 := hd_4.pure kq_11
  replace hb3 := hb3.pure kq_11
  replace hm := hm.pure kq_11
  refine WL.append (e := ept) (xs := []) info_27 rfl Try.underlying23 rfl rfl hm (h.dead.src Try.underlying23) (by show (0 + de.length) * 40 ≤ _ ∧ 0 + de.length ≤ _; constructor <;> omega) (fun x hx => by omega) rfl ?_
  intro aq cq w9 hQ gg9 n9
  have gk := gg9.chg.mono (fun x _ hx => hx.2)
  have zs_gk := gk.size
  replace h := h.chg gk (by first | (intro x h1 h2; exact h2) | (intro x h1 h2; have h3 : _ = _ := h2; subst h3; assumption) | (intro x h1 h2; have h3 : _ = _ := h2; exfalso; omega) | (intro b h1 h2 h3; have h4 : _ = _ := h3; (try dsimp only at h2); exfalso; omega) | (intro h1; have h2 : _ = _ := h1; exfalso; omega) | (intros; exfalso; (try dsimp only at *); omega) | (intro h1; exfalso; have h4 := h1.2; (try dsimp only at *); omega) | (intro x h1 h2; exact h2.1))
  replace hw := hw.chg gk (by first | (intro x h1 h2; exact h2) | (intro x h1 h2; have h3 : _ = _ := h2; subst h3; assumption) | (intro x h1 h2; have h3 : _ = _ := h2; exfalso; omega) | (intro b h1 h2 h3; have h4 : _ = _ := h3; (try dsimp only at h2); exfalso; omega) | (intro h1; have h2 : _ = _ := h1; exfalso; omega) | (intros; exfalso; (try dsimp only at *); omega) | (intro h1; exfalso; have h4 := h1.2; (try dsimp only at *); omega) | (intro x h1 h2; exact h2.1))
  replace hb_2 := hb_2.chg gk (by first | (intro x h1 h2; exact h2) | (intro x h1 h2; have h3 : _ = _ := h2; subst h3; assumption) | (intro x h1 h2; have h3 : _ = _ := h2; exfalso; omega) | (intro b h1 h2 h3; have h4 : _ = _ := h3; (try dsimp only at h2); exfalso; omega) | (intro h1; have h2 : _ = _ := h1; exfalso; omega) | (intros; exfalso; (try dsimp only at *); omega) | (intro h1; exfalso; have h4 := h1.2; (try dsimp only at *); omega) | (intro x h1 h2; exact h2.1))
  replace hb1 := hb1.chg gk (by first | (intro x h1 h2; exact h2) | (intro x h1 h2; have h3 : _ = _ := h2; subst h3; assumption) | (intro x h1 h2; have h3 : _ = _ := h2; exfalso; omega) | (intro b h1 h2 h3; have h4 : _ = _ := h3; (try dsimp only at h2); exfalso; omega) | (intro h1; have h2 : _ = _ := h1; exfalso; omega) | (intros; exfalso; (try dsimp only at *); omega) | (intro h1; exfalso; have h4 := h1.2; (try dsimp only at *); omega) | (intro x h1 h2; exact h2.1))
  replace hd_4 := hd_4.chg gk (by first | (intro x h1 h2; exact h2) | (intro x h1 h2; have h3 : _ = _ := h2; subst h3; assumption) | (intro x h1 h2; have h3 : _ = _ := h2; exfalso; omega) | (intro b h1 h2 h3; have h4 : _ = _ := h3; (try dsimp only at h2); exfalso; omega) | (intro h1; have h2 : _ = _ := h1; exfalso; omega) | (intros; exfalso; (try dsimp only at *); omega) | (intro h1; exfalso; have h4 := h1.2; (try dsimp only at *); omega) | (intro x h1 h2; exact h2.1))
  replace hb3 := hb3.chg gk (by first | (intro x h1 h2; exact h2) | (intro x h1 h2; have h3 : _ = _ := h2; subst h3; assumption) | (intro x h1 h2; have h3 : _ = _ := h2; exfalso; omega) | (intro b h1 h2 h3; have h4 : _ = _ := h3; (try dsimp only at h2); exfalso; omega) | (intro h1; have h2 : _ = _ := h1; exfalso; omega) | (intros; exfalso; (try dsimp only at *); omega) | (intro h1; exfalso; have h4 := h1.2; (try dsimp only at *); omega) | (intro x h1 h2; exact h2.1))
  refine WL.nil (WX.one ⟨hd_4, ?_⟩)
  refine ⟨?_, trivial, trivial⟩
  refine DT.step [(6, _), (10, _)] rfl ⟨rfl, rfl, trivial⟩ rfl (fun wq_12 kq_12 => ?_)
  have zs_kq_12 := kq_12.size
  replace h := h.pure kq_12
  replace hw := hw.pure kq_12
  replace hb_2 := hb_2.pure kq_12
  replace hb1 := hb1.pure kq_12
  replace hd_4 := hd_4.pure kq_12
  replace hb3 := hb3.pure kq_12
  replace hQ := hQ.pure kq_12
  refine WL.bld rfl (bld_25_0_2 _ _ _ _) rfl (?_)
  refine WL.nil (WX.one ⟨hd_4, ?_⟩)
  refine ⟨?_, trivial⟩
  refine DT.step [(3, _), (11, _)] rfl ⟨rfl, rfl, trivial⟩ rfl (fun wq_13 kq_13 => ?_)
  have zs_kq_13 := kq_13.size
  replace h := h.pure kq_13
  replace hw := hw.pure kq_13
  replace hb_2 := hb_2.pure kq_13
  replace hb1 := hb1.pure kq_13
  replace hd_4 := hd_4.pure kq_13
  replace hb3 := hb3.pure kq_13
  replace hQ := hQ.pure kq_13
  refine WL.stores Try.sizeOf25 hb3 rfl rfl (by first | (simp; done) | (simp; omega) | rfl) (by first | exact Enc.one _ _ | (intro u hu; obtain ⟨x, _, rfl⟩ := List.mem_map.1 hu; rfl) | (simp [Value.oneCell']; done) | (simp [Value.oneCell', Value.cells]; done)) (by first | (simp; done) | (simp; omega) | (simp [Value.cells]; done) | (simp [Value.cells]; omega) | exact Nat.le_of_ble_eq_true rfl) rfl ?_
  intro w_14 hs_14 hn_14 k_14
  have zs_k_14 := k_14.size
  replace h := h.chg k_14 (by first | (intro x h1 h2; exact h2) | (intro x h1 h2; have h3 : _ = _ := h2; subst h3; assumption) | (intro x h1 h2; have h3 : _ = _ := h2; exfalso; omega) | (intro b h1 h2 h3; have h4 : _ = _ := h3; (try dsimp only at h2); exfalso; omega) | (intro h1; have h2 : _ = _ := h1; exfalso; omega) | (intros; exfalso; (try dsimp only at *); omega) | (intro h1; exfalso; have h4 := h1.2; (try dsimp only at *); omega) | (intro x h1 h2; exact h2.1))
  replace hw := hw.chg k_14 (by first | (intro x h1 h2; exact h2) | (intro x h1 h2; have h3 : _ = _ := h2; subst h3; assumption) | (intro x h1 h2; have h3 : _ = _ := h2; exfalso; omega) | (intro b h1 h2 h3; have h4 : _ = _ := h3; (try dsimp only at h2); exfalso; omega) | (intro h1; have h2 : _ = _ := h1; exfalso; omega) | (intros; exfalso; (try dsimp only at *); omega) | (intro h1; exfalso; have h4 := h1.2; (try dsimp only at *); omega) | (intro x h1 h2; exact h2.1))
  replace hb_2 := hb_2.chg k_14 (by first | (intro x h1 h2; exact h2) | (intro x h1 h2; have h3 : _ = _ := h2; subst h3; assumption) | (intro x h1 h2; have h3 : _ = _ := h2; exfalso; omega) | (intro b h1 h2 h3; have h4 : _ = _ := h3; (try dsimp only at h2); exfalso; omega) | (intro h1; have h2 : _ = _ := h1; exfalso; omega) | (intros; exfalso; (try dsimp only at *); omega) | (intro h1; exfalso; have h4 := h1.2; (try dsimp only at *); omega) | (intro x h1 h2; exact h2.1))
  replace hb1 := hb1.chg k_14 (by first | (intro x h1 h2; exact h2) | (intro x h1 h2; have h3 : _ = _ := h2; subst h3; assumption) | (intro x h1 h2; have h3 : _ = _ := h2; exfalso; omega) | (intro b h1 h2 h3; have h4 : _ = _ := h3; (try dsimp only at h2); exfalso; omega) | (intro h1; have h2 : _ = _ := h1; exfalso; omega) | (intros; exfalso; (try dsimp only at *); omega) | (intro h1; exfalso; have h4 := h1.2; (try dsimp only at *); omega) | (intro x h1 h2; exact h2.1))
  replace hd_4 := hd_4.chg k_14 (by first | (intro x h1 h2; exact h2) | (intro x h1 h2; have h3 : _ = _ := h2; subst h3; assumption) | (intro x h1 h2; have h3 : _ = _ := h2; exfalso; omega) | (intro b h1 h2 h3; have h4 : _ = _ := h3; (try dsimp only at h2); exfalso; omega) | (intro h1; have h2 : _ = _ := h1; exfalso; omega) | (intros; exfalso; (try dsimp only at *); omega) | (intro h1; exfalso; have h4 := h1.2; (try dsimp only at *); omega) | (intro x h1 h2; exact h2.1))
  replace hQ := hQ.chg k_14 (by first | (intro x h1 h2; exact h2) | (intro x h1 h2; have h3 : _ = _ := h2; subst h3; assumption) | (intro x h1 h2; have h3 : _ = _ := h2; exfalso; omega) | (intro b h1 h2 h3; have h4 : _ = _ := h3; (try dsimp only at h2); exfalso; omega) | (intro h1; have h2 : _ = _ := h1; exfalso; omega) | (intros; exfalso; (try dsimp only at *); omega) | (intro h1; exfalso; have h4 := h1.2; (try dsimp only at *); omega) | (intro x h1 h2; exact h2.1))
  replace hb3 := hn_14
  refine WL.nil (WX.one0 (v := undef) ⟨hd_4, ?_⟩)
  refine DT.done (fun we_15 ke_15 => ?_) _
  have zs_ke_15 := ke_15.size
  replace h := h.pure ke_15
  replace hw := hw.pure ke_15
  replace hb_2 := hb_2.pure ke_15
  replace hb1 := hb1.pure ke_15
  replace hd_4 := hd_4.pure ke_15
  replace hb3 := hb3.pure ke_15
  replace hQ := hQ.pure ke_15
  rotate_left
  all_goals
    refine WX.then_normal (WC.seq (WC.seq (WC.region (WL.assign rfl rfl (WL.nil (WX.then_normal (WC.block (?_))))))))
    have hbd : Blk _ g3 25 [vi ba, .slice none 0 0, .slice aq de.length cq] := hb3
    have hO : LO (fun b => (w.heap.size ≤ b ∧ b ≠ g_1 ∧ b ≠ g_2) ∧ b ≠ g3) _ 72 ⟨ba, none, 0, [], aq, cq, de⟩ := ⟨Row.nil _ _ _ _, hQ, (fun j x hj => by cases hj), (fun j x hj => by cases hj), (fun j k x y hj hk => by cases hk)⟩
    refine WC.loop (σ := Nat × (Option Addr × Nat × List SnV)) (fun q => [(1, gptr g_1), (2, gptr g_2), (3, gptr g3), (4, vi (q.1 : Int))]) (fun q w' => q.1 ≤ sn.length ∧ Blk w' g_1 25 [vi ba, .slice sa sn.length sc, .slice da de.length dc] ∧ Blk w' g_2 25 (lcells ⟨0, none, 0, [], none, 0, []⟩) ∧ Blk w' g3 25 [vi ba, .slice q.2.1 q.2.2.2.length q.2.2.1, .slice aq de.length cq] ∧ LS (· < w.heap.size) w' ⟨ba, sa, sc, sn, da, dc, de⟩ ∧ Chg Nob w w' ∧ LO (fun b => (w.heap.size ≤ b ∧ b ≠ g_1 ∧ b ≠ g_2) ∧ b ≠ g3) w' 72 ⟨ba, q.2.1, q.2.2.1, q.2.2.2, aq, cq, de⟩ ∧ sabs q.2.2.2 = (sabs sn).take q.1) (fun q => sn.length - q.1) (0, (none, 0, [])) ⟨rfl, rfl, rfl, rfl, trivial⟩ ⟨Nat.zero_le _, hb1, hb_2, hbd, h, hw, hO, rfl⟩ ?_
    clear hb1 hb_2 hbd hb3 h hw hO hQ
    rintro ⟨i, ⟨sa2, sc2, sn2⟩⟩ w1 ⟨hi, hb1, hb2, hb3, h, hw, hO, hsa⟩
    simp only at hi hb3 hO hsa
    dsimp only
    have lg1 := hb1.lt
    have lg2 := hb2.lt
    have lg3 := hb3.lt
    have hl2 : sn2.length = i := by
      have := congrArg List.length hsa
      rw [sabs_len, List.length_take, sabs_len] at this
      omega
    refine WC.seq (WC.seq (WC.region (WL.move rfl rfl (WL.fieldAddr (fld_25_1) rfl rfl (WL.loadB Try.isAgg22 hb1 rfl rfl rfl (WL.len Try.underlying22 rfl rfl (?_)))))))
    refine WL.lss? rfl rfl rfl (fun h16 => ?_) (fun h16 => ?_)
    ·
      refine WL.nil (WX.then_normal (WC.cond_true rfl (WC.skip (WX.then_normal (WC.seq (WC.block (?_)))))))
      have h20' : (i : Int) < (sn.length : Int) := by omega
      obtain ⟨x, hx⟩ : ∃ x, sn[i]? = some x := ⟨_, List.getElem?_eq_getElem (by omega)⟩
      have hxm := List.mem_of_getElem? hx
      have hxd := hs.inner x hxm
      obtain ⟨b1, o1, rfl⟩ := h.snaps.place hx
      refine WC.drawM ((fun x => w.heap.size ≤ x ∧ x ≠ g_1 ∧ x ≠ g_2)) [0, 2, 3, 4, 5, 6, 7, 9, 10, 11, 12, 13, 14, 19] [1, 8, 15, 16, 17, 18, 20] mixed rfl rfl (fun wd_16 kd_16 zd_16 => ?_)
      have zs_kd_16 := kd_16.size
      replace hb1 := hb1.pure kd_16
      replace hb2 := hb2.pure kd_16
      replace hb3 := hb3.pure kd_16
      replace h := h.pure kd_16
      replace hw := hw.pure kd_16
      replace hO := hO.pure kd_16
      apply DQT.step (E' := [(3, _)])
      case ho => rfl
      case hs => exact ⟨rfl, trivial⟩
      case hk => rfl
      case h1 =>
        intro wq_18 kq_18
        refine WL.fieldAddr (fld_25_1) rfl rfl (?_)
        refine WL.nil ?_
        exact WX.one ⟨rfl, by first | exact Chg.refl _ _ | assumption⟩
      apply DQT.step (E' := [(1, _)])
      case ho => rfl
      case hs => exact ⟨rfl, trivial⟩
      case hk => rfl
      case h1 =>
        intro wq_19 kq_19
        refine WL.fieldAddr (fld_25_1) rfl rfl (?_)
        refine WL.nil ?_
        exact WX.one ⟨rfl, by first | exact Chg.refl _ _ | assumption⟩
      apply DQT.step (E' := [(21, _)])
      case ho => rfl
      case hs => exact ⟨rfl, trivial⟩
      case hk => rfl
      case h1 =>
        intro wq_20 kq_20
        have zs_kq_20 := kq_20.size
        replace hb1 := hb1.chg kq_20 (by first | (intro x h1 h2; exact h2) | (intro x h1 h2; have h3 : _ = _ := h2; subst h3; assumption) | (intro x h1 h2; have h3 : _ = _ := h2; exfalso; omega) | (intro b h1 h2 h3; have h4 : _ = _ := h3; (try dsimp only at h2); exfalso; omega) | (intro h1; have h2 : _ = _ := h1; exfalso; omega) | (intros; exfalso; (try dsimp only at *); omega) | (intro h1; exfalso; have h4 := h1.2; (try dsimp only at *); omega) | (intro x h1 h2; exact h2.1))
        replace hb2 := hb2.chg kq_20 (by first | (intro x h1 h2; exact h2) | (intro x h1 h2; have h3 : _ = _ := h2; subst h3; assumption) | (intro x h1 h2; have h3 : _ = _ := h2; exfalso; omega) | (intro b h1 h2 h3; have h4 : _ = _ := h3; (try dsimp only at h2); exfalso; omega) | (intro h1; have h2 : _ = _ := h1; exfalso; omega) | (intros; exfalso; (try dsimp only at *); omega) | (intro h1; exfalso; have h4 := h1.2; (try dsimp only at *); omega) | (intro x h1 h2; exact h2.1))
        replace h := h.chg kq_20 (by first | (intro x h1 h2; exact h2) | (intro x h1 h2; have h3 : _ = _ := h2; subst h3; assumption) | (intro x h1 h2; have h3 : _ = _ := h2; exfalso; omega) | (intro b h1 h2 h3; have h4 : _ = _ := h3; (try dsimp only at h2); exfalso; omega) | (intro h1; have h2 : _ = _ := h1; exfalso; omega) | (intros; exfalso; (try dsimp only at *); omega) | (intro h1; exfalso; have h4 := h1.2; (try dsimp only at *); omega) | (intro x h1 h2; exact h2.1))
        replace hw := hw.chg kq_20 (by first | (intro x h1 h2; exact h2) | (intro x h1 h2; have h3 : _ = _ := h2; subst h3; assumption) | (intro x h1 h2; have h3 : _ = _ := h2; exfalso; omega) | (intro b h1 h2 h3; have h4 : _ = _ := h3; (try dsimp only at h2); exfalso; omega) | (intro h1; have h2 : _ = _ := h1; exfalso; omega) | (intros; exfalso; (try dsimp only at *); omega) | (intro h1; exfalso; have h4 := h1.2; (try dsimp only at *); omega) | (intro x h1 h2; exact h2.1))
        refine WL.loadB Try.isAgg22 hb1 rfl rfl rfl (?_)
        refine WL.nil ?_
        exact WX.one ⟨rfl, by first | exact Chg.refl _ _ | assumption⟩
      apply DQT.step (E' := [(4, _)])
      case ho => rfl
      case hs => exact ⟨rfl, trivial⟩
      case hk => rfl
      case h1 =>
        intro wq_21 kq_21
        refine WL.move rfl rfl (?_)
        refine WL.nil ?_
        exact WX.one ⟨rfl, by first | exact Chg.refl _ _ | assumption⟩
      apply DQT.step (E' := [(22, _), (23, _)])
      case ho => rfl
      case hs => exact ⟨rfl, rfl, trivial⟩
      case hk => rfl
      case h1 =>
        intro wq_22 kq_22
        have zs_kq_22 := kq_22.size
        replace hb1 := hb1.chg kq_22 (by first | (intro x h1 h2; exact h2) | (intro x h1 h2; have h3 : _ = _ := h2; subst h3; assumption) | (intro x h1 h2; have h3 : _ = _ := h2; exfalso; omega) | (intro b h1 h2 h3; have h4 : _ = _ := h3; (try dsimp only at h2); exfalso; omega) | (intro h1; have h2 : _ = _ := h1; exfalso; omega) | (intros; exfalso; (try dsimp only at *); omega) | (intro h1; exfalso; have h4 := h1.2; (try dsimp only at *); omega) | (intro x h1 h2; exact h2.1))
        replace hb2 := hb2.chg kq_22 (by first | (intro x h1 h2; exact h2) | (intro x h1 h2; have h3 : _ = _ := h2; subst h3; assumption) | (intro x h1 h2; have h3 : _ = _ := h2; exfalso; omega) | (intro b h1 h2 h3; have h4 : _ = _ := h3; (try dsimp only at h2); exfalso; omega) | (intro h1; have h2 : _ = _ := h1; exfalso; omega) | (intros; exfalso; (try dsimp only at *); omega) | (intro h1; exfalso; have h4 := h1.2; (try dsimp only at *); omega) | (intro x h1 h2; exact h2.1))
        replace h := h.chg kq_22 (by first | (intro x h1 h2; exact h2) | (intro x h1 h2; have h3 : _ = _ := h2; subst h3; assumption) | (intro x h1 h2; have h3 : _ = _ := h2; exfalso; omega) | (intro b h1 h2 h3; have h4 : _ = _ := h3; (try dsimp only at h2); exfalso; omega) | (intro h1; have h2 : _ = _ := h1; exfalso; omega) | (intros; exfalso; (try dsimp only at *); omega) | (intro h1; exfalso; have h4 := h1.2; (try dsimp only at *); omega) | (intro x h1 h2; exact h2.1))
        replace hw := hw.chg kq_22 (by first | (intro x h1 h2; exact h2) | (intro x h1 h2; have h3 : _ = _ := h2; subst h3; assumption) | (intro x h1 h2; have h3 : _ = _ := h2; exfalso; omega) | (intro b h1 h2 h3; have h4 : _ = _ := h3; (try dsimp only at h2); exfalso; omega) | (intro h1; have h2 : _ = _ := h1; exfalso; omega) | (intros; exfalso; (try dsimp only at *); omega) | (intro h1; exfalso; have h4 := h1.2; (try dsimp only at *); omega) | (intro x h1 h2; exact h2.1))
        refine WL.indexC (e := esn) h.snaps Try.underlying22 Try.sizeOf72 rfl rfl ⟨hx, rfl⟩ rfl ?_
        refine WL.nil ?_
        exact WX.one ⟨rfl, by first | exact Chg.refl _ _ | assumption⟩
      apply DQT.step (E' := [(24, _)])
      case ho => rfl
      case hs => exact ⟨rfl, trivial⟩
      case hk => rfl
      case h1 =>
        intro wq_23 kq_23
        refine WL.fieldAddr (fld_72_0) rfl rfl (?_)
        refine WL.nil ?_
        exact WX.one ⟨rfl, by first | exact Chg.refl _ _ | assumption⟩
      apply DQT.step (E' := [(25, _)])
      case ho => rfl
      case hs => exact ⟨rfl, trivial⟩
      case hk => rfl
      case h1 =>
        intro wq_24 kq_24
        have zs_kq_24 := kq_24.size
        replace hb1 := hb1.chg kq_24 (by first | (intro x h1 h2; exact h2) | (intro x h1 h2; have h3 : _ = _ := h2; subst h3; assumption) | (intro x h1 h2; have h3 : _ = _ := h2; exfalso; omega) | (intro b h1 h2 h3; have h4 : _ = _ := h3; (try dsimp only at h2); exfalso; omega) | (intro h1; have h2 : _ = _ := h1; exfalso; omega) | (intros; exfalso; (try dsimp only at *); omega) | (intro h1; exfalso; have h4 := h1.2; (try dsimp only at *); omega) | (intro x h1 h2; exact h2.1))
        replace hb2 := hb2.chg kq_24 (by first | (intro x h1 h2; exact h2) | (intro x h1 h2; have h3 : _ = _ := h2; subst h3; assumption) | (intro x h1 h2; have h3 : _ = _ := h2; exfalso; omega) | (intro b h1 h2 h3; have h4 : _ = _ := h3; (try dsimp only at h2); exfalso; omega) | (intro h1; have h2 : _ = _ := h1; exfalso; omega) | (intros; exfalso; (try dsimp only at *); omega) | (intro h1; exfalso; have h4 := h1.2; (try dsimp only at *); omega) | (intro x h1 h2; exact h2.1))
        replace h := h.chg kq_24 (by first | (intro x h1 h2; exact h2) | (intro x h1 h2; have h3 : _ = _ := h2; subst h3; assumption) | (intro x h1 h2; have h3 : _ = _ := h2; exfalso; omega) | (intro b h1 h2 h3; have h4 : _ = _ := h3; (try dsimp only at h2); exfalso; omega) | (intro h1; have h2 : _ = _ := h1; exfalso; omega) | (intros; exfalso; (try dsimp only at *); omega) | (intro h1; exfalso; have h4 := h1.2; (try dsimp only at *); omega) | (intro x h1 h2; exact h2.1))
        replace hw := hw.chg kq_24 (by first | (intro x h1 h2; exact h2) | (intro x h1 h2; have h3 : _ = _ := h2; subst h3; assumption) | (intro x h1 h2; have h3 : _ = _ := h2; exfalso; omega) | (intro b h1 h2 h3; have h4 : _ = _ := h3; (try dsimp only at h2); exfalso; omega) | (intro h1; have h2 : _ = _ := h1; exfalso; omega) | (intros; exfalso; (try dsimp only at *); omega) | (intro h1; exfalso; have h4 := h1.2; (try dsimp only at *); omega) | (intro x h1 h2; exact h2.1))
        refine WL.load Try.isAgg3 rfl (h.snaps.cellsAt hx 0 _ rfl) rfl ?_
        refine WL.nil ?_
        exact WX.one ⟨rfl, by first | exact Chg.refl _ _ | assumption⟩
      apply DQT.step (E' := [(1, _)])
      case ho => rfl
      case hs => exact ⟨rfl, trivial⟩
      case hk => rfl
      case h1 =>
        intro wq_25 kq_25
        refine WL.fieldAddr (fld_25_1) rfl rfl (?_)
        refine WL.nil ?_
        exact WX.one ⟨rfl, by first | exact Chg.refl _ _ | assumption⟩
      apply DQT.step (E' := [(28, _)])
      case ho => rfl
      case hs => exact ⟨rfl, trivial⟩
      case hk => rfl
      case h1 =>
        intro wq_26 kq_26
        have zs_kq_26 := kq_26.size
        replace hb1 := hb1.chg kq_26 (by first | (intro x h1 h2; exact h2) | (intro x h1 h2; have h3 : _ = _ := h2; subst h3; assumption) | (intro x h1 h2; have h3 : _ = _ := h2; exfalso; omega) | (intro b h1 h2 h3; have h4 : _ = _ := h3; (try dsimp only at h2); exfalso; omega) | (intro h1; have h2 : _ = _ := h1; exfalso; omega) | (intros; exfalso; (try dsimp only at *); omega) | (intro h1; exfalso; have h4 := h1.2; (try dsimp only at *); omega) | (intro x h1 h2; exact h2.1))
        replace hb2 := hb2.chg kq_26 (by first | (intro x h1 h2; exact h2) | (intro x h1 h2; have h3 : _ = _ := h2; subst h3; assumption) | (intro x h1 h2; have h3 : _ = _ := h2; exfalso; omega) | (intro b h1 h2 h3; have h4 : _ = _ := h3; (try dsimp only at h2); exfalso; omega) | (intro h1; have h2 : _ = _ := h1; exfalso; omega) | (intros; exfalso; (try dsimp only at *); omega) | (intro h1; exfalso; have h4 := h1.2; (try dsimp only at *); omega) | (intro x h1 h2; exact h2.1))
        replace h := h.chg kq_26 (by first | (intro x h1 h2; exact h2) | (intro x h1 h2; have h3 : _ = _ := h2; subst h3; assumption) | (intro x h1 h2; have h3 : _ = _ := h2; exfalso; omega) | (intro b h1 h2 h3; have h4 : _ = _ := h3; (try dsimp only at h2); exfalso; omega) | (intro h1; have h2 : _ = _ := h1; exfalso; omega) | (intros; exfalso; (try dsimp only at *); omega) | (intro h1; exfalso; have h4 := h1.2; (try dsimp only at *); omega) | (intro x h1 h2; exact h2.1))
        replace hw := hw.chg kq_26 (by first | (intro x h1 h2; exact h2) | (intro x h1 h2; have h3 : _ = _ := h2; subst h3; assumption) | (intro x h1 h2; have h3 : _ = _ := h2; exfalso; omega) | (intro b h1 h2 h3; have h4 : _ = _ := h3; (try dsimp only at h2); exfalso; omega) | (intro h1; have h2 : _ = _ := h1; exfalso; omega) | (intros; exfalso; (try dsimp only at *); omega) | (intro h1; exfalso; have h4 := h1.2; (try dsimp only at *); omega) | (intro x h1 h2; exact h2.1))
        refine WL.loadB Try.isAgg22 hb1 rfl rfl rfl (?_)
        refine WL.nil ?_
        exact WX.one ⟨rfl, by first | exact Chg.refl _ _ | assumption⟩
      apply DQT.step (E' := [(4, _)])
      case ho => rfl
      case hs => exact ⟨rfl, trivial⟩
      case hk => rfl
      case h1 =>
        intro wq_27 kq_27
        refine WL.move rfl rfl (?_)
        refine WL.nil ?_
        exact WX.one ⟨rfl, by first | exact Chg.refl _ _ | assumption⟩
      apply DQT.step (E' := [(29, _), (30, _)])
      case ho => rfl
      case hs => exact ⟨rfl, rfl, trivial⟩
      case hk => rfl
      case h1 =>
        intro wq_28 kq_28
        have zs_kq_28 := kq_28.size
        replace hb1 := hb1.chg kq_28 (by first | (intro x h1 h2; exact h2) | (intro x h1 h2; have h3 : _ = _ := h2; subst h3; assumption) | (intro x h1 h2; have h3 : _ = _ := h2; exfalso; omega) | (intro b h1 h2 h3; have h4 : _ = _ := h3; (try dsimp only at h2); exfalso; omega) | (intro h1; have h2 : _ = _ := h1; exfalso; omega) | (intros; exfalso; (try dsimp only at *); omega) | (intro h1; exfalso; have h4 := h1.2; (try dsimp only at *); omega) | (intro x h1 h2; exact h2.1))
        replace hb2 := hb2.chg kq_28 (by first | (intro x h1 h2; exact h2) | (intro x h1 h2; have h3 : _ = _ := h2; subst h3; assumption) | (intro x h1 h2; have h3 : _ = _ := h2; exfalso; omega) | (intro b h1 h2 h3; have h4 : _ = _ := h3; (try dsimp only at h2); exfalso; omega) | (intro h1; have h2 : _ = _ := h1; exfalso; omega) | (intros; exfalso; (try dsimp only at *); omega) | (intro h1; exfalso; have h4 := h1.2; (try dsimp only at *); omega) | (intro x h1 h2; exact h2.1))
        replace h := h.chg kq_28 (by first | (intro x h1 h2; exact h2) | (intro x h1 h2; have h3 : _ = _ := h2; subst h3; assumption) | (intro x h1 h2; have h3 : _ = _ := h2; exfalso; omega) | (intro b h1 h2 h3; have h4 : _ = _ := h3; (try dsimp only at h2); exfalso; omega) | (intro h1; have h2 : _ = _ := h1; exfalso; omega) | (intros; exfalso; (try dsimp only at *); omega) | (intro h1; exfalso; have h4 := h1.2; (try dsimp only at *); omega) | (intro x h1 h2; exact h2.1))
        replace hw := hw.chg kq_28 (by first | (intro x h1 h2; exact h2) | (intro x h1 h2; have h3 : _ = _ := h2; subst h3; assumption) | (intro x h1 h2; have h3 : _ = _ := h2; exfalso; omega) | (intro b h1 h2 h3; have h4 : _ = _ := h3; (try dsimp only at h2); exfalso; omega) | (intro h1; have h2 : _ = _ := h1; exfalso; omega) | (intros; exfalso; (try dsimp only at *); omega) | (intro h1; exfalso; have h4 := h1.2; (try dsimp only at *); omega) | (intro x h1 h2; exact h2.1))
        refine WL.indexC (e := esn) h.snaps Try.underlying22 Try.sizeOf72 rfl rfl ⟨hx, rfl⟩ rfl ?_
        refine WL.nil ?_
        exact WX.one ⟨rfl, by first | exact Chg.refl _ _ | assumption⟩
      apply DQT.step (E' := [(31, _)])
      case ho => rfl
      case hs => exact ⟨rfl, trivial⟩
      case hk => rfl
      case h1 =>
        intro wq_29 kq_29
        refine WL.fieldAddr (fld_72_1) rfl rfl (?_)
        refine WL.nil ?_
        exact WX.one ⟨rfl, by first | exact Chg.refl _ _ | assumption⟩
      apply DQT.step (E' := [(32, _)])
      case ho => rfl
      case hs => exact ⟨rfl, trivial⟩
      case hk => rfl
      case h1 =>
        intro wq_30 kq_30
        have zs_kq_30 := kq_30.size
        replace hb1 := hb1.chg kq_30 (by first | (intro x h1 h2; exact h2) | (intro x h1 h2; have h3 : _ = _ := h2; subst h3; assumption) | (intro x h1 h2; have h3 : _ = _ := h2; exfalso; omega) | (intro b h1 h2 h3; have h4 : _ = _ := h3; (try dsimp only at h2); exfalso; omega) | (intro h1; have h2 : _ = _ := h1; exfalso; omega) | (intros; exfalso; (try dsimp only at *); omega) | (intro h1; exfalso; have h4 := h1.2; (try dsimp only at *); omega) | (intro x h1 h2; exact h2.1))
        replace hb2 := hb2.chg kq_30 (by first | (intro x h1 h2; exact h2) | (intro x h1 h2; have h3 : _ = _ := h2; subst h3; assumption) | (intro x h1 h2; have h3 : _ = _ := h2; exfalso; omega) | (intro b h1 h2 h3; have h4 : _ = _ := h3; (try dsimp only at h2); exfalso; omega) | (intro h1; have h2 : _ = _ := h1; exfalso; omega) | (intros; exfalso; (try dsimp only at *); omega) | (intro h1; exfalso; have h4 := h1.2; (try dsimp only at *); omega) | (intro x h1 h2; exact h2.1))
        replace h := h.chg kq_30 (by first | (intro x h1 h2; exact h2) | (intro x h1 h2; have h3 : _ = _ := h2; subst h3; assumption) | (intro x h1 h2; have h3 : _ = _ := h2; exfalso; omega) | (intro b h1 h2 h3; have h4 : _ = _ := h3; (try dsimp only at h2); exfalso; omega) | (intro h1; have h2 : _ = _ := h1; exfalso; omega) | (intros; exfalso; (try dsimp only at *); omega) | (intro h1; exfalso; have h4 := h1.2; (try dsimp only at *); omega) | (intro x h1 h2; exact h2.1))
        replace hw := hw.chg kq_30 (by first | (intro x h1 h2; exact h2) | (intro x h1 h2; have h3 : _ = _ := h2; subst h3; assumption) | (intro x h1 h2; have h3 : _ = _ := h2; exfalso; omega) | (intro b h1 h2 h3; have h4 : _ = _ := h3; (try dsimp only at h2); exfalso; omega) | (intro h1; have h2 : _ = _ := h1; exfalso; omega) | (intros; exfalso; (try dsimp only at *); omega) | (intro h1; exfalso; have h4 := h1.2; (try dsimp only at *); omega) | (intro x h1 h2; exact h2.1))
        refine WL.load Try.isAgg23 rfl (h.snaps.cellsAt hx 1 _ rfl) rfl ?_
        refine WL.nil ?_
        exact WX.one ⟨rfl, by first | exact Chg.refl _ _ | assumption⟩
      apply DQT.step (E' := [(3, _)])
      case ho => rfl
      case hs => exact ⟨rfl, trivial⟩
      case hk => rfl
      case h1 =>
        intro wq_31 kq_31
        refine WL.fieldAddr (fld_25_1) rfl rfl (?_)
        refine WL.nil ?_
        exact WX.one ⟨rfl, by first | exact Chg.refl _ _ | assumption⟩
      refine DQT.done (fun hd_17 => ?_)
      refine ⟨?_, ?_, trivial, trivial, trivial, trivial, trivial, trivial⟩
      refine DT.step [(19, _)] rfl ⟨rfl, trivial⟩ rfl (fun wq_32 kq_32 => ?_)
      have zs_kq_32 := kq_32.size
      replace hb1 := hb1.pure kq_32
      replace hb2 := hb2.pure kq_32
      replace hb3 := hb3.pure kq_32
      replace h := h.pure kq_32
      replace hw := hw.pure kq_32
      replace hO := hO.pure kq_32
      replace hd_17 := hd_17.pure kq_32
      refine WL.loadB Try.isAgg22 hb3 rfl rfl rfl (?_)
      refine WL.nil (WX.one ⟨hd_17, ?_⟩)
      refine ⟨?_, trivial, trivial, trivial, trivial, trivial, trivial⟩
      refine DT.step [] rfl trivial rfl (fun wq_33 kq_33 => ?_)
      have zs_kq_33 := kq_33.size
      replace hb1 := hb1.pure kq_33
      replace hb2 := hb2.pure kq_33
      replace hb3 := hb3.pure kq_33
      replace h := h.pure kq_33
      replace hw := hw.pure kq_33
      replace hO := hO.pure kq_33
      replace hd_17 := hd_17.pure kq_33
      obtain ⟨n1, hn1, hO⟩ := hO.now
      refine WL.build (e := ept) [] Try.underlying23 Try.sizeOf27 Try.zeroValue27 rfl rfl rfl (by first | (simp [Value.cells]; done) | (simp [Value.cells] <;> rfl) | (simp [Value.cells, eb, ei, es, ebool, e32, e64]; done)) (by decide) rfl ?_
      intro a_hm w_hm hm l_hm z_hm k_hm
      have zs_k_hm := k_hm.size
      replace hb1 := hb1.pure k_hm
      replace hb2 := hb2.pure k_hm
      replace hb3 := hb3.pure k_hm
      replace h := h.pure k_hm
      replace hw := hw.pure k_hm
      replace hO := hO.pure k_hm
      replace hd_17 := hd_17.pure k_hm
      replace hm := hm.mono (S' := fun b => ((w.heap.size ≤ b ∧ b ≠ g_1 ∧ b ≠ g_2) ∧ b ≠ g3) ∧ n1 ≤ b) (fun b hb => by omega)
      refine WL.nil (WX.one ⟨hd_17, ?_⟩)
      refine ⟨?_, trivial, trivial, trivial, trivial, trivial⟩
      refine DT.step [(27, _), (33, _)] rfl ⟨rfl, rfl, trivial⟩ rfl (fun wq_34 kq_34 => ?_)
      have zs_kq_34 := kq_34.size
      replace hb1 := hb1.pure kq_34
      replace hb2 := hb2.pure kq_34
      replace hb3 := hb3.pure kq_34
      replace h := h.pure kq_34
      replace hw := hw.pure kq_34
      replace hO := hO.pure kq_34
      replace hd_17 := hd_17.pure kq_34
      replace hm := hm.pure kq_34
      refine WL.append (e := ept) (xs := []) info_27 rfl Try.underlying23 rfl rfl hm ((h.inner x hxm).src Try.underlying23) (by show (0 + x.dead.length) * 40 ≤ _ ∧ 0 + x.dead.length ≤ _; constructor <;> omega) (fun x hx => by omega) rfl ?_
      intro ai ci w9 hI gg9 n9
      have gk := gg9.chg.mono (fun x _ hx => hx.2)
      have zs_gk := gk.size
      replace hb1 := hb1.chg gk (by first | (intro x h1 h2; exact h2) | (intro x h1 h2; have h3 : _ = _ := h2; subst h3; assumption) | (intro x h1 h2; have h3 : _ = _ := h2; exfalso; omega) | (intro b h1 h2 h3; have h4 : _ = _ := h3; (try dsimp only at h2); exfalso; omega) | (intro h1; have h2 : _ = _ := h1; exfalso; omega) | (intros; exfalso; (try dsimp only at *); omega) | (intro h1; exfalso; have h4 := h1.2; (try dsimp only at *); omega) | (intro x h1 h2; exact h2.1))
      replace hb2 := hb2.chg gk (by first | (intro x h1 h2; exact h2) | (intro x h1 h2; have h3 : _ = _ := h2; subst h3; assumption) | (intro x h1 h2; have h3 : _ = _ := h2; exfalso; omega) | (intro b h1 h2 h3; have h4 : _ = _ := h3; (try dsimp only at h2); exfalso; omega) | (intro h1; have h2 : _ = _ := h1; exfalso; omega) | (intros; exfalso; (try dsimp only at *); omega) | (intro h1; exfalso; have h4 := h1.2; (try dsimp only at *); omega) | (intro x h1 h2; exact h2.1))
      replace hb3 := hb3.chg gk (by first | (intro x h1 h2; exact h2) | (intro x h1 h2; have h3 : _ = _ := h2; subst h3; assumption) | (intro x h1 h2; have h3 : _ = _ := h2; exfalso; omega) | (intro b h1 h2 h3; have h4 : _ = _ := h3; (try dsimp only at h2); exfalso; omega) | (intro h1; have h2 : _ = _ := h1; exfalso; omega) | (intros; exfalso; (try dsimp only at *); omega) | (intro h1; exfalso; have h4 := h1.2; (try dsimp only at *); omega) | (intro x h1 h2; exact h2.1))
      replace h := h.chg gk (by first | (intro x h1 h2; exact h2) | (intro x h1 h2; have h3 : _ = _ := h2; subst h3; assumption) | (intro x h1 h2; have h3 : _ = _ := h2; exfalso; omega) | (intro b h1 h2 h3; have h4 : _ = _ := h3; (try dsimp only at h2); exfalso; omega) | (intro h1; have h2 : _ = _ := h1; exfalso; omega) | (intros; exfalso; (try dsimp only at *); omega) | (intro h1; exfalso; have h4 := h1.2; (try dsimp only at *); omega) | (intro x h1 h2; exact h2.1))
      replace hw := hw.chg gk (by first | (intro x h1 h2; exact h2) | (intro x h1 h2; have h3 : _ = _ := h2; subst h3; assumption) | (intro x h1 h2; have h3 : _ = _ := h2; exfalso; omega) | (intro b h1 h2 h3; have h4 : _ = _ := h3; (try dsimp only at h2); exfalso; omega) | (intro h1; have h2 : _ = _ := h1; exfalso; omega) | (intros; exfalso; (try dsimp only at *); omega) | (intro h1; exfalso; have h4 := h1.2; (try dsimp only at *); omega) | (intro x h1 h2; exact h2.1))
      replace hO := hO.chg gk (by first | (intro x h1 h2; exact h2) | (intro x h1 h2; have h3 : _ = _ := h2; subst h3; assumption) | (intro x h1 h2; have h3 : _ = _ := h2; exfalso; omega) | (intro b h1 h2 h3; have h4 : _ = _ := h3; (try dsimp only at h2); exfalso; omega) | (intro h1; have h2 : _ = _ := h1; exfalso; omega) | (intros; exfalso; (try dsimp only at *); omega) | (intro h1; exfalso; have h4 := h1.2; (try dsimp only at *); omega) | (intro x h1 h2; exact h2.1))
      replace hd_17 := hd_17.chg gk (by first | (intro x h1 h2; exact h2) | (intro x h1 h2; have h3 : _ = _ := h2; subst h3; assumption) | (intro x h1 h2; have h3 : _ = _ := h2; exfalso; omega) | (intro b h1 h2 h3; have h4 : _ = _ := h3; (try dsimp only at h2); exfalso; omega) | (intro h1; have h2 : _ = _ := h1; exfalso; omega) | (intros; exfalso; (try dsimp only at *); omega) | (intro h1; exfalso; have h4 := h1.2; (try dsimp only at *); omega) | (intro x h1 h2; exact h2.1))
      refine WL.nil (WX.one ⟨hd_17, ?_⟩)
      refine ⟨?_, trivial, trivial, trivial, trivial⟩
      refine DT.step [(26, _), (34, _)] rfl ⟨rfl, rfl, trivial⟩ rfl (fun wq_35 kq_35 => ?_)
      have zs_kq_35 := kq_35.size
      replace hb1 := hb1.pure kq_35
      replace hb2 := hb2.pure kq_35
      replace hb3 := hb3.pure kq_35
      replace h := h.pure kq_35
      replace hw := hw.pure kq_35
      replace hO := hO.pure kq_35
      replace hd_17 := hd_17.pure kq_35
      replace hI := hI.pure kq_35
      refine WL.bld rfl (bld_72_0_1 _ _ _ _) rfl (?_)
      refine WL.nil (WX.one ⟨hd_17, ?_⟩)
      refine ⟨?_, trivial, trivial, trivial⟩
      refine DT.step [(35, _)] rfl ⟨rfl, trivial⟩ rfl (fun wq_36 kq_36 => ?_)
      have zs_kq_36 := kq_36.size
      replace hb1 := hb1.pure kq_36
      replace hb2 := hb2.pure kq_36
      replace hb3 := hb3.pure kq_36
      replace h := h.pure kq_36
      replace hw := hw.pure kq_36
      replace hO := hO.pure kq_36
      replace hd_17 := hd_17.pure kq_36
      replace hI := hI.pure kq_36
      refine WL.build (e := esn) [⟨x.txg, ai, ci, x.dead⟩] Try.underlying22 Try.sizeOf72 Try.zeroValue72 rfl rfl rfl (by first | (simp [Value.cells]; done) | (simp [Value.cells] <;> rfl) | (simp [Value.cells, eb, ei, es, ebool, e32, e64]; done)) (by decide) rfl ?_
      intro a_hq w_hq hq l_hq z_hq k_hq
      have zs_k_hq := k_hq.size
      replace hb1 := hb1.pure k_hq
      replace hb2 := hb2.pure k_hq
      replace hb3 := hb3.pure k_hq
      replace h := h.pure k_hq
      replace hw := hw.pure k_hq
      replace hO := hO.pure k_hq
      replace hd_17 := hd_17.pure k_hq
      replace hI := hI.pure k_hq
      refine WL.nil (WX.one ⟨hd_17, ?_⟩)
      refine ⟨?_, trivial, trivial⟩
      refine DT.step [(20, _), (36, _)] rfl ⟨rfl, rfl, trivial⟩ rfl (fun wq_37 kq_37 => ?_)
      have zs_kq_37 := kq_37.size
      replace hb1 := hb1.pure kq_37
      replace hb2 := hb2.pure kq_37
      replace hb3 := hb3.pure kq_37
      replace h := h.pure kq_37
      replace hw := hw.pure kq_37
      replace hO := hO.pure kq_37
      replace hd_17 := hd_17.pure kq_37
      replace hI := hI.pure kq_37
      replace hq := hq.pure kq_37
      refine WL.append (e := esn) (S := fun b => (w.heap.size ≤ b ∧ b ≠ g_1 ∧ b ≠ g_2) ∧ b ≠ g3) info_72 rfl Try.underlying22 rfl rfl (hO.snaps.mono (fun b hb => hb.1)) (hq.rsl.src Try.underlying22) (by show (sn2.length + 1) * 32 ≤ _ ∧ sn2.length + 1 ≤ _; constructor <;> omega) (fun x hx => by omega) rfl ?_
      intro as9 cs9 w8 hR8 gg8 n8
      have hO8 := LOi.push hO (by decide) hI hR8 gg8
      have gk8 := gg8.chg.mono (fun x _ hx => hx.2)
      have zs_gk8 := gk8.size
      replace hb1 := hb1.chg gk8 (by first | (intro x h1 h2; exact h2) | (intro x h1 h2; have h3 : _ = _ := h2; subst h3; assumption) | (intro x h1 h2; have h3 : _ = _ := h2; exfalso; omega) | (intro b h1 h2 h3; have h4 : _ = _ := h3; (try dsimp only at h2); exfalso; omega) | (intro h1; have h2 : _ = _ := h1; exfalso; omega) | (intros; exfalso; (try dsimp only at *); omega) | (intro h1; exfalso; have h4 := h1.2; (try dsimp only at *); omega) | (intro x h1 h2; exact h2.1))
      replace hb2 := hb2.chg gk8 (by first | (intro x h1 h2; exact h2) | (intro x h1 h2; have h3 : _ = _ := h2; subst h3; assumption) | (intro x h1 h2; have h3 : _ = _ := h2; exfalso; omega) | (intro b h1 h2 h3; have h4 : _ = _ := h3; (try dsimp only at h2); exfalso; omega) | (intro h1; have h2 : _ = _ := h1; exfalso; omega) | (intros; exfalso; (try dsimp only at *); omega) | (intro h1; exfalso; have h4 := h1.2; (try dsimp only at *); omega) | (intro x h1 h2; exact h2.1))
      replace hb3 := hb3.chg gk8 (by first | (intro x h1 h2; exact h2) | (intro x h1 h2; have h3 : _ = _ := h2; subst h3; assumption) | (intro x h1 h2; have h3 : _ = _ := h2; exfalso; omega) | (intro b h1 h2 h3; have h4 : _ = _ := h3; (try dsimp only at h2); exfalso; omega) | (intro h1; have h2 : _ = _ := h1; exfalso; omega) | (intros; exfalso; (try dsimp only at *); omega) | (intro h1; exfalso; have h4 := h1.2; (try dsimp only at *); omega) | (intro x h1 h2; exact h2.1))
      replace h := h.chg gk8 (by first | (intro x h1 h2; exact h2) | (intro x h1 h2; have h3 : _ = _ := h2; subst h3; assumption) | (intro x h1 h2; have h3 : _ = _ := h2; exfalso; omega) | (intro b h1 h2 h3; have h4 : _ = _ := h3; (try dsimp only at h2); exfalso; omega) | (intro h1; have h2 : _ = _ := h1; exfalso; omega) | (intros; exfalso; (try dsimp only at *); omega) | (intro h1; exfalso; have h4 := h1.2; (try dsimp only at *); omega) | (intro x h1 h2; exact h2.1))
      replace hw := hw.chg gk8 (by first | (intro x h1 h2; exact h2) | (intro x h1 h2; have h3 : _ = _ := h2; subst h3; assumption) | (intro x h1 h2; have h3 : _ = _ := h2; exfalso; omega) | (intro b h1 h2 h3; have h4 : _ = _ := h3; (try dsimp only at h2); exfalso; omega) | (intro h1; have h2 : _ = _ := h1; exfalso; omega) | (intros; exfalso; (try dsimp only at *); omega) | (intro h1; exfalso; have h4 := h1.2; (try dsimp only at *); omega) | (intro x h1 h2; exact h2.1))
      replace hd_17 := hd_17.chg gk8 (by first | (intro x h1 h2; exact h2) | (intro x h1 h2; have h3 : _ = _ := h2; subst h3; assumption) | (intro x h1 h2; have h3 : _ = _ := h2; exfalso; omega) | (intro b h1 h2 h3; have h4 : _ = _ := h3; (try dsimp only at h2); exfalso; omega) | (intro h1; have h2 : _ = _ := h1; exfalso; omega) | (intros; exfalso; (try dsimp only at *); omega) | (intro h1; exfalso; have h4 := h1.2; (try dsimp only at *); omega) | (intro x h1 h2; exact h2.1))
      refine WL.nil (WX.one ⟨hd_17, ?_⟩)
      refine ⟨?_, trivial⟩
      refine DT.step [(38, _), (37, _)] rfl ⟨rfl, rfl, trivial⟩ rfl (fun wq_38 kq_38 => ?_)
      have zs_kq_38 := kq_38.size
      replace hb1 := hb1.pure kq_38
      replace hb2 := hb2.pure kq_38
      replace hb3 := hb3.pure kq_38
      replace h := h.pure kq_38
      replace hw := hw.pure kq_38
      replace hd_17 := hd_17.pure kq_38
      replace hO8 := hO8.pure kq_38
      refine WL.store Try.sizeOf22 hb3 rfl rfl rfl rfl ?_
      intro w_39 hs_39 hn_39 k_39
      have zs_k_39 := k_39.size
      replace hb1 := hb1.chg k_39 (by first | (intro x h1 h2; exact h2) | (intro x h1 h2; have h3 : _ = _ := h2; subst h3; assumption) | (intro x h1 h2; have h3 : _ = _ := h2; exfalso; omega) | (intro b h1 h2 h3; have h4 : _ = _ := h3; (try dsimp only at h2); exfalso; omega) | (intro h1; have h2 : _ = _ := h1; exfalso; omega) | (intros; exfalso; (try dsimp only at *); omega) | (intro h1; exfalso; have h4 := h1.2; (try dsimp only at *); omega) | (intro x h1 h2; exact h2.1))
      replace hb2 := hb2.chg k_39 (by first | (intro x h1 h2; exact h2) | (intro x h1 h2; have h3 : _ = _ := h2; subst h3; assumption) | (intro x h1 h2; have h3 : _ = _ := h2; exfalso; omega) | (intro b h1 h2 h3; have h4 : _ = _ := h3; (try dsimp only at h2); exfalso; omega) | (intro h1; have h2 : _ = _ := h1; exfalso; omega) | (intros; exfalso; (try dsimp only at *); omega) | (intro h1; exfalso; have h4 := h1.2; (try dsimp only at *); omega) | (intro x h1 h2; exact h2.1))
      replace h := h.chg k_39 (by first | (intro x h1 h2; exact h2) | (intro x h1 h2; have h3 : _ = _ := h2; subst h3; assumption) | (intro x h1 h2; have h3 : _ = _ := h2; exfalso; omega) | (intro b h1 h2 h3; have h4 : _ = _ := h3; (try dsimp only at h2); exfalso; omega) | (intro h1; have h2 : _ = _ := h1; exfalso; omega) | (intros; exfalso; (try dsimp only at *); omega) | (intro h1; exfalso; have h4 := h1.2; (try dsimp only at *); omega) | (intro x h1 h2; exact h2.1))
      replace hw := hw.chg k_39 (by first | (intro x h1 h2; exact h2) | (intro x h1 h2; have h3 : _ = _ := h2; subst h3; assumption) | (intro x h1 h2; have h3 : _ = _ := h2; exfalso; omega) | (intro b h1 h2 h3; have h4 : _ = _ := h3; (try dsimp only at h2); exfalso; omega) | (intro h1; have h2 : _ = _ := h1; exfalso; omega) | (intros; exfalso; (try dsimp only at *); omega) | (intro h1; exfalso; have h4 := h1.2; (try dsimp only at *); omega) | (intro x h1 h2; exact h2.1))
      replace hd_17 := hd_17.chg k_39 (by first | (intro x h1 h2; exact h2) | (intro x h1 h2; have h3 : _ = _ := h2; subst h3; assumption) | (intro x h1 h2; have h3 : _ = _ := h2; exfalso; omega) | (intro b h1 h2 h3; have h4 : _ = _ := h3; (try dsimp only at h2); exfalso; omega) | (intro h1; have h2 : _ = _ := h1; exfalso; omega) | (intros; exfalso; (try dsimp only at *); omega) | (intro h1; exfalso; have h4 := h1.2; (try dsimp only at *); omega) | (intro x h1 h2; exact h2.1))
      replace hO8 := hO8.chg k_39 (by first | (intro x h1 h2; exact h2) | (intro x h1 h2; have h3 : _ = _ := h2; subst h3; assumption) | (intro x h1 h2; have h3 : _ = _ := h2; exfalso; omega) | (intro b h1 h2 h3; have h4 : _ = _ := h3; (try dsimp only at h2); exfalso; omega) | (intro h1; have h2 : _ = _ := h1; exfalso; omega) | (intros; exfalso; (try dsimp only at *); omega) | (intro h1; exfalso; have h4 := h1.2; (try dsimp only at *); omega) | (intro x h1 h2; exact h2.1))
      replace hb3 := hn_39
      refine WL.nil (WX.one0 (v := undef) ⟨hd_17, ?_⟩)
      refine DT.done (fun we_40 ke_40 => ?_) _
      have zs_ke_40 := ke_40.size
      replace hb1 := hb1.pure ke_40
      replace hb2 := hb2.pure ke_40
      replace hb3 := hb3.pure ke_40
      replace h := h.pure ke_40
      replace hw := hw.pure ke_40
      replace hd_17 := hd_17.pure ke_40
      replace hO8 := hO8.pure ke_40
      rotate_left
      refine DT.step [] rfl trivial rfl (fun wq_32 kq_32 => ?_)
      have zs_kq_32 := kq_32.size
      replace hb1 := hb1.pure kq_32
      replace hb2 := hb2.pure kq_32
      replace hb3 := hb3.pure kq_32
      replace h := h.pure kq_32
      replace hw := hw.pure kq_32
      replace hO := hO.pure kq_32
      replace hd_17 := hd_17.pure kq_32
      obtain ⟨n1, hn1, hO⟩ := hO.now
      refine WL.build (e := ept) [] Try.underlying23 Try.sizeOf27 Try.zeroValue27 rfl rfl rfl (by first | (simp [Value.cells]; done) | (simp [Value.cells] <;> rfl) | (simp [Value.cells, eb, ei, es, ebool, e32, e64]; done)) (by decide) rfl ?_
      intro a_hm w_hm hm l_hm z_hm k_hm
      have zs_k_hm := k_hm.size
      replace hb1 := hb1.pure k_hm
      replace hb2 := hb2.pure k_hm
      replace hb3 := hb3.pure k_hm
      replace h := h.pure k_hm
      replace hw := hw.pure k_hm
      replace hO := hO.pure k_hm
      replace hd_17 := hd_17.pure k_hm
      replace hm := hm.mono (S' := fun b => ((w.heap.size ≤ b ∧ b ≠ g_1 ∧ b ≠ g_2) ∧ b ≠ g3) ∧ n1 ≤ b) (fun b hb => by omega)
      refine WL.nil (WX.one ⟨hd_17, ?_⟩)
      refine ⟨?_, ?_, trivial, trivial, trivial, trivial, trivial⟩
      refine DT.step [(19, _)] rfl ⟨rfl, trivial⟩ rfl (fun wq_33 kq_33 => ?_)
      have zs_kq_33 := kq_33.size
      replace hb1 := hb1.pure kq_33
      replace hb2 := hb2.pure kq_33
      replace hb3 := hb3.pure kq_33
      replace h := h.pure kq_33
      replace hw := hw.pure kq_33
      replace hO := hO.pure kq_33
      replace hd_17 := hd_17.pure kq_33
      replace hm := hm.pure kq_33
      refine WL.loadB Try.isAgg22 hb3 rfl rfl rfl (?_)
      refine WL.nil (WX.one ⟨hd_17, ?_⟩)
      refine ⟨?_, trivial, trivial, trivial, trivial, trivial⟩
      refine DT.step [(27, _), (33, _)] rfl ⟨rfl, rfl, trivial⟩ rfl (fun wq_34 kq_34 => ?_)
      have zs_kq_34 := kq_34.size
      replace hb1 := hb1.pure kq_34
      replace hb2 := hb2.pure kq_34
      replace hb3 := hb3.pure kq_34
      replace h := h.pure kq_34
      replace hw := hw.pure kq_34
      replace hO := hO.pure kq_34
      replace hd_17 := hd_17.pure kq_34
      replace hm := hm.pure kq_34
      refine WL.append (e := ept) (xs := []) info_27 rfl Try.underlying23 rfl rfl hm ((h.inner x hxm).src Try.underlying23) (by show (0 + x.dead.length) * 40 ≤ _ ∧ 0 + x.dead.length ≤ _; constructor <;> omega) (fun x hx => by omega) rfl ?_
      intro ai ci w9 hI gg9 n9
      have gk := gg9.chg.mono (fun x _ hx => hx.2)
      have zs_gk := gk.size
      replace hb1 := hb1.chg gk (by first | (intro x h1 h2; exact h2) | (intro x h1 h2; have h3 : _ = _ := h2; subst h3; assumption) | (intro x h1 h2; have h3 : _ = _ := h2; exfalso; omega) | (intro b h1 h2 h3; have h4 : _ = _ := h3; (try dsimp only at h2); exfalso; omega) | (intro h1; have h2 : _ = _ := h1; exfalso; omega) | (intros; exfalso; (try dsimp only at *); omega) | (intro h1; exfalso; have h4 := h1.2; (try dsimp only at *); omega) | (intro x h1 h2; exact h2.1))
      replace hb2 := hb2.chg gk (by first | (intro x h1 h2; exact h2) | (intro x h1 h2; have h3 : _ = _ := h2; subst h3; assumption) | (intro x h1 h2; have h3 : _ = _ := h2; exfalso; omega) | (intro b h1 h2 h3; have h4 : _ = _ := h3; (try dsimp only at h2); exfalso; omega) | (intro h1; have h2 : _ = _ := h1; exfalso; omega) | (intros; exfalso; (try dsimp only at *); omega) | (intro h1; exfalso; have h4 := h1.2; (try dsimp only at *); omega) | (intro x h1 h2; exact h2.1))
      replace hb3 := hb3.chg gk (by first | (intro x h1 h2; exact h2) | (intro x h1 h2; have h3 : _ = _ := h2; subst h3; assumption) | (intro x h1 h2; have h3 : _ = _ := h2; exfalso; omega) | (intro b h1 h2 h3; have h4 : _ = _ := h3; (try dsimp only at h2); exfalso; omega) | (intro h1; have h2 : _ = _ := h1; exfalso; omega) | (intros; exfalso; (try dsimp only at *); omega) | (intro h1; exfalso; have h4 := h1.2; (try dsimp only at *); omega) | (intro x h1 h2; exact h2.1))
      replace h := h.chg gk (by first | (intro x h1 h2; exact h2) | (intro x h1 h2; have h3 : _ = _ := h2; subst h3; assumption) | (intro x h1 h2; have h3 : _ = _ := h2; exfalso; omega) | (intro b h1 h2 h3; have h4 : _ = _ := h3; (try dsimp only at h2); exfalso; omega) | (intro h1; have h2 : _ = _ := h1; exfalso; omega) | (intros; exfalso; (try dsimp only at *); omega) | (intro h1; exfalso; have h4 := h1.2; (try dsimp only at *); omega) | (intro x h1 h2; exact h2.1))
      replace hw := hw.chg gk (by first | (intro x h1 h2; exact h2) | (intro x h1 h2; have h3 : _ = _ := h2; subst h3; assumption) | (intro x h1 h2; have h3 : _ = _ := h2; exfalso; omega) | (intro b h1 h2 h3; have h4 : _ = _ := h3; (try dsimp only at h2); exfalso; omega) | (intro h1; have h2 : _ = _ := h1; exfalso; omega) | (intros; exfalso; (try dsimp only at *); omega) | (intro h1; exfalso; have h4 := h1.2; (try dsimp only at *); omega) | (intro x h1 h2; exact h2.1))
      replace hO := hO.chg gk (by first | (intro x h1 h2; exact h2) | (intro x h1 h2; have h3 : _ = _ := h2; subst h3; assumption) | (intro x h1 h2; have h3 : _ = _ := h2; exfalso; omega) | (intro b h1 h2 h3; have h4 : _ = _ := h3; (try dsimp only at h2); exfalso; omega) | (intro h1; have h2 : _ = _ := h1; exfalso; omega) | (intros; exfalso; (try dsimp only at *); omega) | (intro h1; exfalso; have h4 := h1.2; (try dsimp only at *); omega) | (intro x h1 h2; exact h2.1))
      replace hd_17 := hd_17.chg gk (by first | (intro x h1 h2; exact h2) | (intro x h1 h2; have h3 : _ = _ := h2; subst h3; assumption) | (intro x h1 h2; have h3 : _ = _ := h2; exfalso; omega) | (intro b h1 h2 h3; have h4 : _ = _ := h3; (try dsimp only at h2); exfalso; omega) | (intro h1; have h2 : _ = _ := h1; exfalso; omega) | (intros; exfalso; (try dsimp only at *); omega) | (intro h1; exfalso; have h4 := h1.2; (try dsimp only at *); omega) | (intro x h1 h2; exact h2.1))
      refine WL.nil (WX.one ⟨hd_17, ?_⟩)
      refine ⟨?_, trivial, trivial, trivial, trivial⟩
      refine DT.step [(26, _), (34, _)] rfl ⟨rfl, rfl, trivial⟩ rfl (fun wq_35 kq_35 => ?_)
      have zs_kq_35 := kq_35.size
      replace hb1 := hb1.pure kq_35
      replace hb2 := hb2.pure kq_35
      replace hb3 := hb3.pure kq_35
      replace h := h.pure kq_35
      replace hw := hw.pure kq_35
      replace hO := hO.pure kq_35
      replace hd_17 := hd_17.pure kq_35
      replace hI := hI.pure kq_35
      refine WL.bld rfl (bld_72_0_1 _ _ _ _) rfl (?_)
      refine WL.nil (WX.one ⟨hd_17, ?_⟩)
      refine ⟨?_, trivial, trivial, trivial⟩
      refine DT.step [(35, _)] rfl ⟨rfl, trivial⟩ rfl (fun wq_36 kq_36 => ?_)
      have zs_kq_36 := kq_36.size
      replace hb1 := hb1.pure kq_36
      replace hb2 := hb2.pure kq_36
      replace hb3 := hb3.pure kq_36
      replace h := h.pure kq_36
      replace hw := hw.pure kq_36
      replace hO := hO.pure kq_36
      replace hd_17 := hd_17.pure kq_36
      replace hI := hI.pure kq_36
      refine WL.build (e := esn) [⟨x.txg, ai, ci, x.dead⟩] Try.underlying22 Try.sizeOf72 Try.zeroValue72 rfl rfl rfl (by first | (simp [Value.cells]; done) | (simp [Value.cells] <;> rfl) | (simp [Value.cells, eb, ei, es, ebool, e32, e64]; done)) (by decide) rfl ?_
      intro a_hq w_hq hq l_hq z_hq k_hq
      have zs_k_hq := k_hq.size
      replace hb1 := hb1.pure k_hq
      replace hb2 := hb2.pure k_hq
      replace hb3 := hb3.pure k_hq
      replace h := h.pure k_hq
      replace hw := hw.pure k_hq
      replace hO := hO.pure k_hq
      replace hd_17 := hd_17.pure k_hq
      replace hI := hI.pure k_hq
      refine WL.nil (WX.one ⟨hd_17, ?_⟩)
      refine ⟨?_, trivial, trivial⟩
      refine DT.step [(20, _), (36, _)] rfl ⟨rfl, rfl, trivial⟩ rfl (fun wq_37 kq_37 => ?_)
      have zs_kq_37 := kq_37.size
      replace hb1 := hb1.pure kq_37
      replace hb2 := hb2.pure kq_37
      replace hb3 := hb3.pure kq_37
      replace h := h.pure kq_37
      replace hw := hw.pure kq_37
      replace hO := hO.pure kq_37
      replace hd_17 := hd_17.pure kq_37
      replace hI := hI.pure kq_37
      replace hq := hq.pure kq_37
      refine WL.append (e := esn) (S := fun b => (w.heap.size ≤ b ∧ b ≠ g_1 ∧ b ≠ g_2) ∧ b ≠ g3) info_72 rfl Try.underlying22 rfl rfl (hO.snaps.mono (fun b hb => hb.1)) (hq.rsl.src Try.underlying22) (by show (sn2.length + 1) * 32 ≤ _ ∧ sn2.length + 1 ≤ _; constructor <;> omega) (fun x hx => by omega) rfl ?_
      intro as9 cs9 w8 hR8 gg8 n8
      have hO8 := LOi.push hO (by decide) hI hR8 gg8
      have gk8 := gg8.chg.mono (fun x _ hx => hx.2)
      have zs_gk8 := gk8.size
      replace hb1 := hb1.chg gk8 (by first | (intro x h1 h2; exact h2) | (intro x h1 h2; have h3 : _ = _ := h2; subst h3; assumption) | (intro x h1 h2; have h3 : _ = _ := h2; exfalso; omega) | (intro b h1 h2 h3; have h4 : _ = _ := h3; (try dsimp only at h2); exfalso; omega) | (intro h1; have h2 : _ = _ := h1; exfalso; omega) | (intros; exfalso; (try dsimp only at *); omega) | (intro h1; exfalso; have h4 := h1.2; (try dsimp only at *); omega) | (intro x h1 h2; exact h2.1))
      replace hb2 := hb2.chg gk8 (by first | (intro x h1 h2; exact h2) | (intro x h1 h2; have h3 : _ = _ := h2; subst h3; assumption) | (intro x h1 h2; have h3 : _ = _ := h2; exfalso; omega) | (intro b h1 h2 h3; have h4 : _ = _ := h3; (try dsimp only at h2); exfalso; omega) | (intro h1; have h2 : _ = _ := h1; exfalso; omega) | (intros; exfalso; (try dsimp only at *); omega) | (intro h1; exfalso; have h4 := h1.2; (try dsimp only at *); omega) | (intro x h1 h2; exact h2.1))
      replace hb3 := hb3.chg gk8 (by first | (intro x h1 h2; exact h2) | (intro x h1 h2; have h3 : _ = _ := h2; subst h3; assumption) | (intro x h1 h2; have h3 : _ = _ := h2; exfalso; omega) | (intro b h1 h2 h3; have h4 : _ = _ := h3; (try dsimp only at h2); exfalso; omega) | (intro h1; have h2 : _ = _ := h1; exfalso; omega) | (intros; exfalso; (try dsimp only at *); omega) | (intro h1; exfalso; have h4 := h1.2; (try dsimp only at *); omega) | (intro x h1 h2; exact h2.1))
      replace h := h.chg gk8 (by first | (intro x h1 h2; exact h2) | (intro x h1 h2; have h3 : _ = _ := h2; subst h3; assumption) | (intro x h1 h2; have h3 : _ = _ := h2; exfalso; omega) | (intro b h1 h2 h3; have h4 : _ = _ := h3; (try dsimp only at h2); exfalso; omega) | (intro h1; have h2 : _ = _ := h1; exfalso; omega) | (intros; exfalso; (try dsimp only at *); omega) | (intro h1; exfalso; have h4 := h1.2; (try dsimp only at *); omega) | (intro x h1 h2; exact h2.1))
      replace hw := hw.chg gk8 (by first | (intro x h1 h2; exact h2) | (intro x h1 h2; have h3 : _ = _ := h2; subst h3; assumption) | (intro x h1 h2; have h3 : _ = _ := h2; exfalso; omega) | (intro b h1 h2 h3; have h4 : _ = _ := h3; (try dsimp only at h2); exfalso; omega) | (intro h1; have h2 : _ = _ := h1; exfalso; omega) | (intros; exfalso; (try dsimp only at *); omega) | (intro h1; exfalso; have h4 := h1.2; (try dsimp only at *); omega) | (intro x h1 h2; exact h2.1))
      replace hd_17 := hd_17.chg gk8 (by first | (intro x h1 h2; exact h2) | (intro x h1 h2; have h3 : _ = _ := h2; subst h3; assumption) | (intro x h1 h2; have h3 : _ = _ := h2; exfalso; omega) | (intro b h1 h2 h3; have h4 : _ = _ := h3; (try dsimp only at h2); exfalso; omega) | (intro h1; have h2 : _ = _ := h1; exfalso; omega) | (intros; exfalso; (try dsimp only at *); omega) | (intro h1; exfalso; have h4 := h1.2; (try dsimp only at *); omega) | (intro x h1 h2; exact h2.1))
      refine WL.nil (WX.one ⟨hd_17, ?_⟩)
      refine ⟨?_, trivial⟩
      refine DT.step [(38, _), (37, _)] rfl ⟨rfl, rfl, trivial⟩ rfl (fun wq_38 kq_38 => ?_)
      have zs_kq_38 := kq_38.size
      replace hb1 := hb1.pure kq_38
      replace hb2 := hb2.pure kq_38
      replace hb3 := hb3.pure kq_38
      replace h := h.pure kq_38
      replace hw := hw.pure kq_38
      replace hd_17 := hd_17.pure kq_38
      replace hO8 := hO8.pure kq_38
      refine WL.store Try.sizeOf22 hb3 rfl rfl rfl rfl ?_
      intro w_39 hs_39 hn_39 k_39
      have zs_k_39 := k_39.size
      replace hb1 := hb1.chg k_39 (by first | (intro x h1 h2; exact h2) | (intro x h1 h2; have h3 : _ = _ := h2; subst h3; assumption) | (intro x h1 h2; have h3 : _ = _ := h2; exfalso; omega) | (intro b h1 h2 h3; have h4 : _ = _ := h3; (try dsimp only at h2); exfalso; omega) | (intro h1; have h2 : _ = _ := h1; exfalso; omega) | (intros; exfalso; (try dsimp only at *); omega) | (intro h1; exfalso; have h4 := h1.2; (try dsimp only at *); omega) | (intro x h1 h2; exact h2.1))
      replace hb2 := hb2.chg k_39 (by first | (intro x h1 h2; exact h2) | (intro x h1 h2; have h3 : _ = _ := h2; subst h3; assumption) | (intro x h1 h2; have h3 : _ = _ := h2; exfalso; omega) | (intro b h1 h2 h3; have h4 : _ = _ := h3; (try dsimp only at h2); exfalso; omega) | (intro h1; have h2 : _ = _ := h1; exfalso; omega) | (intros; exfalso; (try dsimp only at *); omega) | (intro h1; exfalso; have h4 := h1.2; (try dsimp only at *); omega) | (intro x h1 h2; exact h2.1))
      replace h := h.chg k_39 (by first | (intro x h1 h2; exact h2) | (intro x h1 h2; have h3 : _ = _ := h2; subst h3; assumption) | (intro x h1 h2; have h3 : _ = _ := h2; exfalso; omega) | (intro b h1 h2 h3; have h4 : _ = _ := h3; (try dsimp only at h2); exfalso; omega) | (intro h1; have h2 : _ = _ := h1; exfalso; omega) | (intros; exfalso; (try dsimp only at *); omega) | (intro h1; exfalso; have h4 := h1.2; (try dsimp only at *); omega) | (intro x h1 h2; exact h2.1))
      replace hw := hw.chg k_39 (by first | (intro x h1 h2; exact h2) | (intro x h1 h2; have h3 : _ = _ := h2; subst h3; assumption) | (intro x h1 h2; have h3 : _ = _ := h2; exfalso; omega) | (intro b h1 h2 h3; have h4 : _ = _ := h3; (try dsimp only at h2); exfalso; omega) | (intro h1; have h2 : _ = _ := h1; exfalso; omega) | (intros; exfalso; (try dsimp only at *); omega) | (intro h1; exfalso; have h4 := h1.2; (try dsimp only at *); omega) | (intro x h1 h2; exact h2.1))
      replace hd_17 := hd_17.chg k_39 (by first | (intro x h1 h2; exact h2) | (intro x h1 h2; have h3 : _ = _ := h2; subst h3; assumption) | (intro x h1 h2; have h3 : _ = _ := h2; exfalso; omega) | (intro b h1 h2 h3; have h4 : _ = _ := h3; (try dsimp only at h2); exfalso; omega) | (intro h1; have h2 : _ = _ := h1; exfalso; omega) | (intros; exfalso; (try dsimp only at *); omega) | (intro h1; exfalso; have h4 := h1.2; (try dsimp only at *); omega) | (intro x h1 h2; exact h2.1))
      replace hO8 := hO8.chg k_39 (by first | (intro x h1 h2; exact h2) | (intro x h1 h2; have h3 : _ = _ := h2; subst h3; assumption) | (intro x h1 h2; have h3 : _ = _ := h2; exfalso; omega) | (intro b h1 h2 h3; have h4 : _ = _ := h3; (try dsimp only at h2); exfalso; omega) | (intro h1; have h2 : _ = _ := h1; exfalso; omega) | (intros; exfalso; (try dsimp only at *); omega) | (intro h1; exfalso; have h4 := h1.2; (try dsimp only at *); omega) | (intro x h1 h2; exact h2.1))
      replace hb3 := hn_39
      refine WL.nil (WX.one0 (v := undef) ⟨hd_17, ?_⟩)
      refine DT.done (fun we_40 ke_40 => ?_) _
      have zs_ke_40 := ke_40.size
      replace hb1 := hb1.pure ke_40
      replace hb2 := hb2.pure ke_40
      replace hb3 := hb3.pure ke_40
      replace h := h.pure ke_40
      replace hw := hw.pure ke_40
      replace hd_17 := hd_17.pure ke_40
      replace hO8 := hO8.pure ke_40
      rotate_left
      refine DT.step [(27, _), (33, _)] rfl ⟨rfl, rfl, trivial⟩ rfl (fun wq_33 kq_33 => ?_)
      have zs_kq_33 := kq_33.size
      replace hb1 := hb1.pure kq_33
      replace hb2 := hb2.pure kq_33
      replace hb3 := hb3.pure kq_33
      replace h := h.pure kq_33
      replace hw := hw.pure kq_33
      replace hO := hO.pure kq_33
      replace hd_17 := hd_17.pure kq_33
      replace hm := hm.pure kq_33
      refine WL.append (e := ept) (xs := []) info_27 rfl Try.underlying23 rfl rfl hm ((h.inner x hxm).src Try.underlying23) (by show (0 + x.dead.length) * 40 ≤ _ ∧ 0 + x.dead.length ≤ _; constructor <;> omega) (fun x hx => by omega) rfl ?_
      intro ai ci w9 hI gg9 n9
      have gk := gg9.chg.mono (fun x _ hx => hx.2)
      have zs_gk := gk.size
      replace hb1 := hb1.chg gk (by first | (intro x h1 h2; exact h2) | (intro x h1 h2; have h3 : _ = _ := h2; subst h3; assumption) | (intro x h1 h2; have h3 : _ = _ := h2; exfalso; omega) | (intro b h1 h2 h3; have h4 : _ = _ := h3; (try dsimp only at h2); exfalso; omega) | (intro h1; have h2 : _ = _ := h1; exfalso; omega) | (intros; exfalso; (try dsimp only at *); omega) | (intro h1; exfalso; have h4 := h1.2; (try dsimp only at *); omega) | (intro x h1 h2; exact h2.1))
      replace hb2 := hb2.chg gk (by first | (intro x h1 h2; exact h2) | (intro x h1 h2; have h3 : _ = _ := h2; subst h3; assumption) | (intro x h1 h2; have h3 : _ = _ := h2; exfalso; omega) | (intro b h1 h2 h3; have h4 : _ = _ := h3; (try dsimp only at h2); exfalso; omega) | (intro h1; have h2 : _ = _ := h1; exfalso; omega) | (intros; exfalso; (try dsimp only at *); omega) | (intro h1; exfalso; have h4 := h1.2; (try dsimp only at *); omega) | (intro x h1 h2; exact h2.1))
      replace hb3 := hb3.chg gk (by first | (intro x h1 h2; exact h2) | (intro x h1 h2; have h3 : _ = _ := h2; subst h3; assumption) | (intro x h1 h2; have h3 : _ = _ := h2; exfalso; omega) | (intro b h1 h2 h3; have h4 : _ = _ := h3; (try dsimp only at h2); exfalso; omega) | (intro h1; have h2 : _ = _ := h1; exfalso; omega) | (intros; exfalso; (try dsimp only at *); omega) | (intro h1; exfalso; have h4 := h1.2; (try dsimp only at *); omega) | (intro x h1 h2; exact h2.1))
      replace h := h.chg gk (by first | (intro x h1 h2; exact h2) | (intro x h1 h2; have h3 : _ = _ := h2; subst h3; assumption) | (intro x h1 h2; have h3 : _ = _ := h2; exfalso; omega) | (intro b h1 h2 h3; have h4 : _ = _ := h3; (try dsimp only at h2); exfalso; omega) | (intro h1; have h2 : _ = _ := h1; exfalso; omega) | (intros; exfalso; (try dsimp only at *); omega) | (intro h1; exfalso; have h4 := h1.2; (try dsimp only at *); omega) | (intro x h1 h2; exact h2.1))
      replace hw := hw.chg gk (by first | (intro x h1 h2; exact h2) | (intro x h1 h2; have h3 : _ = _ := h2; subst h3; assumption) | (intro x h1 h2; have h3 : _ = _ := h2; exfalso; omega) | (intro b h1 h2 h3; have h4 : _ = _ := h3; (try dsimp only at h2); exfalso; omega) | (intro h1; have h2 : _ = _ := h1; exfalso; omega) | (intros; exfalso; (try dsimp only at *); omega) | (intro h1; exfalso; have h4 := h1.2; (try dsimp only at *); omega) | (intro x h1 h2; exact h2.1))
      replace hO := hO.chg gk (by first | (intro x h1 h2; exact h2) | (intro x h1 h2; have h3 : _ = _ := h2; subst h3; assumption) | (intro x h1 h2; have h3 : _ = _ := h2; exfalso; omega) | (intro b h1 h2 h3; have h4 : _ = _ := h3; (try dsimp only at h2); exfalso; omega) | (intro h1; have h2 : _ = _ := h1; exfalso; omega) | (intros; exfalso; (try dsimp only at *); omega) | (intro h1; exfalso; have h4 := h1.2; (try dsimp only at *); omega) | (intro x h1 h2; exact h2.1))
      replace hd_17 := hd_17.chg gk (by first | (intro x h1 h2; exact h2) | (intro x h1 h2; have h3 : _ = _ := h2; subst h3; assumption) | (intro x h1 h2; have h3 : _ = _ := h2; exfalso; omega) | (intro b h1 h2 h3; have h4 : _ = _ := h3; (try dsimp only at h2); exfalso; omega) | (intro h1; have h2 : _ = _ := h1; exfalso; omega) | (intros; exfalso; (try dsimp only at *); omega) | (intro h1; exfalso; have h4 := h1.2; (try dsimp only at *); omega) | (intro x h1 h2; exact h2.1))
      refine WL.nil (WX.one ⟨hd_17, ?_⟩)
      refine ⟨?_, ?_, trivial, trivial, trivial, trivial⟩
      refine DT.step [(19, _)] rfl ⟨rfl, trivial⟩ rfl (fun wq_34 kq_34 => ?_)
      have zs_kq_34 := kq_34.size
      replace hb1 := hb1.pure kq_34
      replace hb2 := hb2.pure kq_34
      replace hb3 := hb3.pure kq_34
      replace h := h.pure kq_34
      replace hw := hw.pure kq_34
      replace hO := hO.pure kq_34
      replace hd_17 := hd_17.pure kq_34
      replace hI := hI.pure kq_34
      refine WL.loadB Try.isAgg22 hb3 rfl rfl rfl (?_)
      refine WL.nil (WX.one ⟨hd_17, ?_⟩)
      refine ⟨?_, trivial, trivial, trivial, trivial⟩
      refine DT.step [(26, _), (34, _)] rfl ⟨rfl, rfl, trivial⟩ rfl (fun wq_35 kq_35 => ?_)
      have zs_kq_35 := kq_35.size
      replace hb1 := hb1.pure kq_35
      replace hb2 := hb2.pure kq_35
      replace hb3 := hb3.pure kq_35
      replace h := h.pure kq_35
      replace hw := hw.pure kq_35
      replace hO := hO.pure kq_35
      replace hd_17 := hd_17.pure kq_35
      replace hI := hI.pure kq_35
      refine WL.bld rfl (bld_72_0_1 _ _ _ _) rfl (?_)
      refine WL.nil (WX.one ⟨hd_17, ?_⟩)
      refine ⟨?_, trivial, trivial, trivial⟩
      refine DT.step [(35, _)] rfl ⟨rfl, trivial⟩ rfl (fun wq_36 kq_36 => ?_)
      have zs_kq_36 := kq_36.size
      replace hb1 := hb1.pure kq_36
      replace hb2 := hb2.pure kq_36
      replace hb3 := hb3.pure kq_36
      replace h := h.pure kq_36
      replace hw := hw.pure kq_36
      replace hO := hO.pure kq_36
      replace hd_17 := hd_17.pure kq_36
      replace hI := hI.pure kq_36
      refine WL.build (e := esn) [⟨x.txg, ai, ci, x.dead⟩] Try.underlying22 Try.sizeOf72 Try.zeroValue72 rfl rfl rfl (by first | (simp [Value.cells]; done) | (simp [Value.cells] <;> rfl) | (simp [Value.cells, eb, ei, es, ebool, e32, e64]; done)) (by decide) rfl ?_
      intro a_hq w_hq hq l_hq z_hq k_hq
      have zs_k_hq := k_hq.size
      replace hb1 := hb1.pure k_hq
      replace hb2 := hb2.pure k_hq
      replace hb3 := hb3.pure k_hq
      replace h := h.pure k_hq
      replace hw := hw.pure k_hq
      replace hO := hO.pure k_hq
      replace hd_17 := hd_17.pure k_hq
      replace hI := hI.pure k_hq
      refine WL.nil (WX.one ⟨hd_17, ?_⟩)
      refine ⟨?_, trivial, trivial⟩
      refine DT.step [(20, _), (36, _)] rfl ⟨rfl, rfl, trivial⟩ rfl (fun wq_37 kq_37 => ?_)
      have zs_kq_37 := kq_37.size
      replace hb1 := hb1.pure kq_37
      replace hb2 := hb2.pure kq_37
      replace hb3 := hb3.pure kq_37
      replace h := h.pure kq_37
      replace hw := hw.pure kq_37
      replace hO := hO.pure kq_37
      replace hd_17 := hd_17.pure kq_37
      replace hI := hI.pure kq_37
      replace hq := hq.pure kq_37
      refine WL.append (e := esn) (S := fun b => (w.heap.size ≤ b ∧ b ≠ g_1 ∧ b ≠ g_2) ∧ b ≠ g3) info_72 rfl Try.underlying22 rfl rfl (hO.snaps.mono (fun b hb => hb.1)) (hq.rsl.src Try.underlying22) (by show (sn2.length + 1) * 32 ≤ _ ∧ sn2.length + 1 ≤ _; constructor <;> omega) (fun x hx => by omega) rfl ?_
      intro as9 cs9 w8 hR8 gg8 n8
      have hO8 := LOi.push hO (by decide) hI hR8 gg8
      have gk8 := gg8.chg.mono (fun x _ hx => hx.2)
      have zs_gk8 := gk8.size
      replace hb1 := hb1.chg gk8 (by first | (intro x h1 h2; exact h2) | (intro x h1 h2; have h3 : _ = _ := h2; subst h3; assumption) | (intro x h1 h2; have h3 : _ = _ := h2; exfalso; omega) | (intro b h1 h2 h3; have h4 : _ = _ := h3; (try dsimp only at h2); exfalso; omega) | (intro h1; have h2 : _ = _ := h1; exfalso; omega) | (intros; exfalso; (try dsimp only at *); omega) | (intro h1; exfalso; have h4 := h1.2; (try dsimp only at *); omega) | (intro x h1 h2; exact h2.1))
      replace hb2 := hb2.chg gk8 (by first | (intro x h1 h2; exact h2) | (intro x h1 h2; have h3 : _ = _ := h2; subst h3; assumption) | (intro x h1 h2; have h3 : _ = _ := h2; exfalso; omega) | (intro b h1 h2 h3; have h4 : _ = _ := h3; (try dsimp only at h2); exfalso; omega) | (intro h1; have h2 : _ = _ := h1; exfalso; omega) | (intros; exfalso; (try dsimp only at *); omega) | (intro h1; exfalso; have h4 := h1.2; (try dsimp only at *); omega) | (intro x h1 h2; exact h2.1))
      replace hb3 := hb3.chg gk8 (by first | (intro x h1 h2; exact h2) | (intro x h1 h2; have h3 : _ = _ := h2; subst h3; assumption) | (intro x h1 h2; have h3 : _ = _ := h2; exfalso; omega) | (intro b h1 h2 h3; have h4 : _ = _ := h3; (try dsimp only at h2); exfalso; omega) | (intro h1; have h2 : _ = _ := h1; exfalso; omega) | (intros; exfalso; (try dsimp only at *); omega) | (intro h1; exfalso; have h4 := h1.2; (try dsimp only at *); omega) | (intro x h1 h2; exact h2.1))
      replace h := h.chg gk8 (by first | (intro x h1 h2; exact h2) | (intro x h1 h2; have h3 : _ = _ := h2; subst h3; assumption) | (intro x h1 h2; have h3 : _ = _ := h2; exfalso; omega) | (intro b h1 h2 h3; have h4 : _ = _ := h3; (try dsimp only at h2); exfalso; omega) | (intro h1; have h2 : _ = _ := h1; exfalso; omega) | (intros; exfalso; (try dsimp only at *); omega) | (intro h1; exfalso; have h4 := h1.2; (try dsimp only at *); omega) | (intro x h1 h2; exact h2.1))
      replace hw := hw.chg gk8 (by first | (intro x h1 h2; exact h2) | (intro x h1 h2; have h3 : _ = _ := h2; subst h3; assumption) | (intro x h1 h2; have h3 : _ = _ := h2; exfalso; omega) | (intro b h1 h2 h3; have h4 : _ = _ := h3; (try dsimp only at h2); exfalso; omega) | (intro h1; have h2 : _ = _ := h1; exfalso; omega) | (intros; exfalso; (try dsimp only at *); omega) | (intro h1; exfalso; have h4 := h1.2; (try dsimp only at *); omega) | (intro x h1 h2; exact h2.1))
      replace hd_17 := hd_17.chg gk8 (by first | (intro x h1 h2; exact h2) | (intro x h1 h2; have h3 : _ = _ := h2; subst h3; assumption) | (intro x h1 h2; have h3 : _ = _ := h2; exfalso; omega) | (intro b h1 h2 h3; have h4 : _ = _ := h3; (try dsimp only at h2); exfalso; omega) | (intro h1; have h2 : _ = _ := h1; exfalso; omega) | (intros; exfalso; (try dsimp only at *); omega) | (intro h1; exfalso; have h4 := h1.2; (try dsimp only at *); omega) | (intro x h1 h2; exact h2.1))
      refine WL.nil (WX.one ⟨hd_17, ?_⟩)
      refine ⟨?_, trivial⟩
      refine DT.step [(38, _), (37, _)] rfl ⟨rfl, rfl, trivial⟩ rfl (fun wq_38 kq_38 => ?_)
      have zs_kq_38 := kq_38.size
      replace hb1 := hb1.pure kq_38
      replace hb2 := hb2.pure kq_38
      replace hb3 := hb3.pure kq_38
      replace h := h.pure kq_38
      replace hw := hw.pure kq_38
      replace hd_17 := hd_17.pure kq_38
      replace hO8 := hO8.pure kq_38
      refine WL.store Try.sizeOf22 hb3 rfl rfl rfl rfl ?_
      intro w_39 hs_39 hn_39 k_39
      have zs_k_39 := k_39.size
      replace hb1 := hb1.chg k_39 (by first | (intro x h1 h2; exact h2) | (intro x h1 h2; have h3 : _ = _ := h2; subst h3; assumption) | (intro x h1 h2; have h3 : _ = _ := h2; exfalso; omega) | (intro b h1 h2 h3; have h4 : _ = _ := h3; (try dsimp only at h2); exfalso; omega) | (intro h1; have h2 : _ = _ := h1; exfalso; omega) | (intros; exfalso; (try dsimp only at *); omega) | (intro h1; exfalso; have h4 := h1.2; (try dsimp only at *); omega) | (intro x h1 h2; exact h2.1))
      replace hb2 := hb2.chg k_39 (by first | (intro x h1 h2; exact h2) | (intro x h1 h2; have h3 : _ = _ := h2; subst h3; assumption) | (intro x h1 h2; have h3 : _ = _ := h2; exfalso; omega) | (intro b h1 h2 h3; have h4 : _ = _ := h3; (try dsimp only at h2); exfalso; omega) | (intro h1; have h2 : _ = _ := h1; exfalso; omega) | (intros; exfalso; (try dsimp only at *); omega) | (intro h1; exfalso; have h4 := h1.2; (try dsimp only at *); omega) | (intro x h1 h2; exact h2.1))
      replace h := h.chg k_39 (by first | (intro x h1 h2; exact h2) | (intro x h1 h2; have h3 : _ = _ := h2; subst h3; assumption) | (intro x h1 h2; have h3 : _ = _ := h2; exfalso; omega) | (intro b h1 h2 h3; have h4 : _ = _ := h3; (try dsimp only at h2); exfalso; omega) | (intro h1; have h2 : _ = _ := h1; exfalso; omega) | (intros; exfalso; (try dsimp only at *); omega) | (intro h1; exfalso; have h4 := h1.2; (try dsimp only at *); omega) | (intro x h1 h2; exact h2.1))
      replace hw := hw.chg k_39 (by first | (intro x h1 h2; exact h2) | (intro x h1 h2; have h3 : _ = _ := h2; subst h3; assumption) | (intro x h1 h2; have h3 : _ = _ := h2; exfalso; omega) | (intro b h1 h2 h3; have h4 : _ = _ := h3; (try dsimp only at h2); exfalso; omega) | (intro h1; have h2 : _ = _ := h1; exfalso; omega) | (intros; exfalso; (try dsimp only at *); omega) | (intro h1; exfalso; have h4 := h1.2; (try dsimp only at *); omega) | (intro x h1 h2; exact h2.1))
      replace hd_17 := hd_17.chg k_39 (by first | (intro x h1 h2; exact h2) | (intro x h1 h2; have h3 : _ = _ := h2; subst h3; assumption) | (intro x h1 h2; have h3 : _ = _ := h2; exfalso; omega) | (intro b h1 h2 h3; have h4 : _ = _ := h3; (try dsimp only at h2); exfalso; omega) | (intro h1; have h2 : _ = _ := h1; exfalso; omega) | (intros; exfalso; (try dsimp only at *); omega) | (intro h1; exfalso; have h4 := h1.2; (try dsimp only at *); omega) | (intro x h1 h2; exact h2.1))
      replace hO8 := hO8.chg k_39 (by first | (intro x h1 h2; exact h2) | (intro x h1 h2; have h3 : _ = _ := h2; subst h3; assumption) | (intro x h1 h2; have h3 : _ = _ := h2; exfalso; omega) | (intro b h1 h2 h3; have h4 : _ = _ := h3; (try dsimp only at h2); exfalso; omega) | (intro h1; have h2 : _ = _ := h1; exfalso; omega) | (intros; exfalso; (try dsimp only at *); omega) | (intro h1; exfalso; have h4 := h1.2; (try dsimp only at *); omega) | (intro x h1 h2; exact h2.1))
      replace hb3 := hn_39
      refine WL.nil (WX.one0 (v := undef) ⟨hd_17, ?_⟩)
      refine DT.done (fun we_40 ke_40 => ?_) _
      have zs_ke_40 := ke_40.size
      replace hb1 := hb1.pure ke_40
      replace hb2 := hb2.pure ke_40
      replace hb3 := hb3.pure ke_40
      replace h := h.pure ke_40
      replace hw := hw.pure ke_40
      replace hd_17 := hd_17.pure ke_40
      replace hO8 := hO8.pure ke_40
      rotate_left
      refine DT.step [(26, _), (34, _)] rfl ⟨rfl, rfl, trivial⟩ rfl (fun wq_34 kq_34 => ?_)
      have zs_kq_34 := kq_34.size
      replace hb1 := hb1.pure kq_34
      replace hb2 := hb2.pure kq_34
      replace hb3 := hb3.pure kq_34
      replace h := h.pure kq_34
      replace hw := hw.pure kq_34
      replace hO := hO.pure kq_34
      replace hd_17 := hd_17.pure kq_34
      replace hI := hI.pure kq_34
      refine WL.bld rfl (bld_72_0_1 _ _ _ _) rfl (?_)
      refine WL.nil (WX.one ⟨hd_17, ?_⟩)
      refine ⟨?_, ?_, trivial, trivial, trivial⟩
      refine DT.step [(19, _)] rfl ⟨rfl, trivial⟩ rfl (fun wq_35 kq_35 => ?_)
      have zs_kq_35 := kq_35.size
      replace hb1 := hb1.pure kq_35
      replace hb2 := hb2.pure kq_35
      replace hb3 := hb3.pure kq_35
      replace h := h.pure kq_35
      replace hw := hw.pure kq_35
      replace hO := hO.pure kq_35
      replace hd_17 := hd_17.pure kq_35
      replace hI := hI.pure kq_35
      refine WL.loadB Try.isAgg22 hb3 rfl rfl rfl (?_)
      refine WL.nil (WX.one ⟨hd_17, ?_⟩)
      refine ⟨?_, trivial, trivial, trivial⟩
      refine DT.step [(35, _)] rfl ⟨rfl, trivial⟩ rfl (fun wq_36 kq_36 => ?_)
      have zs_kq_36 := kq_36.size
      replace hb1 := hb1.pure kq_36
      replace hb2 := hb2.pure kq_36
      replace hb3 := hb3.pure kq_36
      replace h := h.pure kq_36
      replace hw := hw.pure kq_36
      replace hO := hO.pure kq_36
      replace hd_17 := hd_17.pure kq_36
      replace hI := hI.pure kq_36
      refine WL.build (e := esn) [⟨x.txg, ai, ci, x.dead⟩] Try.underlying22 Try.sizeOf72 Try.zeroValue72 rfl rfl rfl (by first | (simp [Value.cells]; done) | (simp [Value.cells] <;> rfl) | (simp [Value.cells, eb, ei, es, ebool, e32, e64]; done)) (by decide) rfl ?_
      intro a_hq w_hq hq l_hq z_hq k_hq
      have zs_k_hq := k_hq.size
      replace hb1 := hb1.pure k_hq
      replace hb2 := hb2.pure k_hq
      replace hb3 := hb3.pure k_hq
      replace h := h.pure k_hq
      replace hw := hw.pure k_hq
      replace hO := hO.pure k_hq
      replace hd_17 := hd_17.pure k_hq
      replace hI := hI.pure k_hq
      refine WL.nil (WX.one ⟨hd_17, ?_⟩)
      refine ⟨?_, trivial, trivial⟩
      refine DT.step [(20, _), (36, _)] rfl ⟨rfl, rfl, trivial⟩ rfl (fun wq_37 kq_37 => ?_)
      have zs_kq_37 := kq_37.size
      replace hb1 := hb1.pure kq_37
      replace hb2 := hb2.pure kq_37
      replace hb3 := hb3.pure kq_37
      replace h := h.pure kq_37
      replace hw := hw.pure kq_37
      replace hO := hO.pure kq_37
      replace hd_17 := hd_17.pure kq_37
      replace hI := hI.pure kq_37
      replace hq := hq.pure kq_37
      refine WL.append (e := esn) (S := fun b => (w.heap.size ≤ b ∧ b ≠ g_1 ∧ b ≠ g_2) ∧ b ≠ g3) info_72 rfl Try.underlying22 rfl rfl (hO.snaps.mono (fun b hb => hb.1)) (hq.rsl.src Try.underlying22) (by show (sn2.length + 1) * 32 ≤ _ ∧ sn2.length + 1 ≤ _; constructor <;> omega) (fun x hx => by omega) rfl ?_
      intro as9 cs9 w8 hR8 gg8 n8
      have hO8 := LOi.push hO (by decide) hI hR8 gg8
      have gk8 := gg8.chg.mono (fun x _ hx => hx.2)
      have zs_gk8 := gk8.size
      replace hb1 := hb1.chg gk8 (by first | (intro x h1 h2; exact h2) | (intro x h1 h2; have h3 : _ = _ := h2; subst h3; assumption) | (intro x h1 h2; have h3 : _ = _ := h2; exfalso; omega) | (intro b h1 h2 h3; have h4 : _ = _ := h3; (try dsimp only at h2); exfalso; omega) | (intro h1; have h2 : _ = _ := h1; exfalso; omega) | (intros; exfalso; (try dsimp only at *); omega) | (intro h1; exfalso; have h4 := h1.2; (try dsimp only at *); omega) | (intro x h1 h2; exact h2.1))
      replace hb2 := hb2.chg gk8 (by first | (intro x h1 h2; exact h2) | (intro x h1 h2; have h3 : _ = _ := h2; subst h3; assumption) | (intro x h1 h2; have h3 : _ = _ := h2; exfalso; omega) | (intro b h1 h2 h3; have h4 : _ = _ := h3; (try dsimp only at h2); exfalso; omega) | (intro h1; have h2 : _ = _ := h1; exfalso; omega) | (intros; exfalso; (try dsimp only at *); omega) | (intro h1; exfalso; have h4 := h1.2; (try dsimp only at *); omega) | (intro x h1 h2; exact h2.1))
      replace hb3 := hb3.chg gk8 (by first | (intro x h1 h2; exact h2) | (intro x h1 h2; have h3 : _ = _ := h2; subst h3; assumption) | (intro x h1 h2; have h3 : _ = _ := h2; exfalso; omega) | (intro b h1 h2 h3; have h4 : _ = _ := h3; (try dsimp only at h2); exfalso; omega) | (intro h1; have h2 : _ = _ := h1; exfalso; omega) | (intros; exfalso; (try dsimp only at *); omega) | (intro h1; exfalso; have h4 := h1.2; (try dsimp only at *); omega) | (intro x h1 h2; exact h2.1))
      replace h := h.chg gk8 (by first | (intro x h1 h2; exact h2) | (intro x h1 h2; have h3 : _ = _ := h2; subst h3; assumption) | (intro x h1 h2; have h3 : _ = _ := h2; exfalso; omega) | (intro b h1 h2 h3; have h4 : _ = _ := h3; (try dsimp only at h2); exfalso; omega) | (intro h1; have h2 : _ = _ := h1; exfalso; omega) | (intros; exfalso; (try dsimp only at *); omega) | (intro h1; exfalso; have h4 := h1.2; (try dsimp only at *); omega) | (intro x h1 h2; exact h2.1))
      replace hw := hw.chg gk8 (by first | (intro x h1 h2; exact h2) | (intro x h1 h2; have h3 : _ = _ := h2; subst h3; assumption) | (intro x h1 h2; have h3 : _ = _ := h2; exfalso; omega) | (intro b h1 h2 h3; have h4 : _ = _ := h3; (try dsimp only at h2); exfalso; omega) | (intro h1; have h2 : _ = _ := h1; exfalso; omega) | (intros; exfalso; (try dsimp only at *); omega) | (intro h1; exfalso; have h4 := h1.2; (try dsimp only at *); omega) | (intro x h1 h2; exact h2.1))
      replace hd_17 := hd_17.chg gk8 (by first | (intro x h1 h2; exact h2) | (intro x h1 h2; have h3 : _ = _ := h2; subst h3; assumption) | (intro x h1 h2; have h3 : _ = _ := h2; exfalso; omega) | (intro b h1 h2 h3; have h4 : _ = _ := h3; (try dsimp only at h2); exfalso; omega) | (intro h1; have h2 : _ = _ := h1; exfalso; omega) | (intros; exfalso; (try dsimp only at *); omega) | (intro h1; exfalso; have h4 := h1.2; (try dsimp only at *); omega) | (intro x h1 h2; exact h2.1))
      refine WL.nil (WX.one ⟨hd_17, ?_⟩)
      refine ⟨?_, trivial⟩
      refine DT.step [(38, _), (37, _)] rfl ⟨rfl, rfl, trivial⟩ rfl (fun wq_38 kq_38 => ?_)
      have zs_kq_38 := kq_38.size
      replace hb1 := hb1.pure kq_38
      replace hb2 := hb2.pure kq_38
      replace hb3 := hb3.pure kq_38
      replace h := h.pure kq_38
      replace hw := hw.pure kq_38
      replace hd_17 := hd_17.pure kq_38
      replace hO8 := hO8.pure kq_38
      refine WL.store Try.sizeOf22 hb3 rfl rfl rfl rfl ?_
      intro w_39 hs_39 hn_39 k_39
      have zs_k_39 := k_39.size
      replace hb1 := hb1.chg k_39 (by first | (intro x h1 h2; exact h2) | (intro x h1 h2; have h3 : _ = _ := h2; subst h3; assumption) | (intro x h1 h2; have h3 : _ = _ := h2; exfalso; omega) | (intro b h1 h2 h3; have h4 : _ = _ := h3; (try dsimp only at h2); exfalso; omega) | (intro h1; have h2 : _ = _ := h1; exfalso; omega) | (intros; exfalso; (try dsimp only at *); omega) | (intro h1; exfalso; have h4 := h1.2; (try dsimp only at *); omega) | (intro x h1 h2; exact h2.1))
      replace hb2 := hb2.chg k_39 (by first | (intro x h1 h2; exact h2) | (intro x h1 h2; have h3 : _ = _ := h2; subst h3; assumption) | (intro x h1 h2; have h3 : _ = _ := h2; exfalso; omega) | (intro b h1 h2 h3; have h4 : _ = _ := h3; (try dsimp only at h2); exfalso; omega) | (intro h1; have h2 : _ = _ := h1; exfalso; omega) | (intros; exfalso; (try dsimp only at *); omega) | (intro h1; exfalso; have h4 := h1.2; (try dsimp only at *); omega) | (intro x h1 h2; exact h2.1))
      replace h := h.chg k_39 (by first | (intro x h1 h2; exact h2) | (intro x h1 h2; have h3 : _ = _ := h2; subst h3; assumption) | (intro x h1 h2; have h3 : _ = _ := h2; exfalso; omega) | (intro b h1 h2 h3; have h4 : _ = _ := h3; (try dsimp only at h2); exfalso; omega) | (intro h1; have h2 : _ = _ := h1; exfalso; omega) | (intros; exfalso; (try dsimp only at *); omega) | (intro h1; exfalso; have h4 := h1.2; (try dsimp only at *); omega) | (intro x h1 h2; exact h2.1))
      replace hw := hw.chg k_39 (by first | (intro x h1 h2; exact h2) | (intro x h1 h2; have h3 : _ = _ := h2; subst h3; assumption) | (intro x h1 h2; have h3 : _ = _ := h2; exfalso; omega) | (intro b h1 h2 h3; have h4 : _ = _ := h3; (try dsimp only at h2); exfalso; omega) | (intro h1; have h2 : _ = _ := h1; exfalso; omega) | (intros; exfalso; (try dsimp only at *); omega) | (intro h1; exfalso; have h4 := h1.2; (try dsimp only at *); omega) | (intro x h1 h2; exact h2.1))
      replace hd_17 := hd_17.chg k_39 (by first | (intro x h1 h2; exact h2) | (intro x h1 h2; have h3 : _ = _ := h2; subst h3; assumption) | (intro x h1 h2; have h3 : _ = _ := h2; exfalso; omega) | (intro b h1 h2 h3; have h4 : _ = _ := h3; (try dsimp only at h2); exfalso; omega) | (intro h1; have h2 : _ = _ := h1; exfalso; omega) | (intros; exfalso; (try dsimp only at *); omega) | (intro h1; exfalso; have h4 := h1.2; (try dsimp only at *); omega) | (intro x h1 h2; exact h2.1))
      replace hO8 := hO8.chg k_39 (by first | (intro x h1 h2; exact h2) | (intro x h1 h2; have h3 : _ = _ := h2; subst h3; assumption) | (intro x h1 h2; have h3 : _ = _ := h2; exfalso; omega) | (intro b h1 h2 h3; have h4 : _ = _ := h3; (try dsimp only at h2); exfalso; omega) | (intro h1; have h2 : _ = _ := h1; exfalso; omega) | (intros; exfalso; (try dsimp only at *); omega) | (intro h1; exfalso; have h4 := h1.2; (try dsimp only at *); omega) | (intro x h1 h2; exact h2.1))
      replace hb3 := hn_39
      refine WL.nil (WX.one0 (v := undef) ⟨hd_17, ?_⟩)
      refine DT.done (fun we_40 ke_40 => ?_) _
      have zs_ke_40 := ke_40.size
      replace hb1 := hb1.pure ke_40
      replace hb2 := hb2.pure ke_40
      replace hb3 := hb3.pure ke_40
      replace h := h.pure ke_40
      replace hw := hw.pure ke_40
      replace hd_17 := hd_17.pure ke_40
      replace hO8 := hO8.pure ke_40
      rotate_left
      refine DT.step [(35, _)] rfl ⟨rfl, trivial⟩ rfl (fun wq_35 kq_35 => ?_)
      have zs_kq_35 := kq_35.size
      replace hb1 := hb1.pure kq_35
      replace hb2 := hb2.pure kq_35
      replace hb3 := hb3.pure kq_35
      replace h := h.pure kq_35
      replace hw := hw.pure kq_35
      replace hO := hO.pure kq_35
      replace hd_17 := hd_17.pure kq_35
      replace hI := hI.pure kq_35
      refine WL.build (e := esn) [⟨x.txg, ai, ci, x.dead⟩] Try.underlying22 Try.sizeOf72 Try.zeroValue72 rfl rfl rfl (by first | (simp [Value.cells]; done) | (simp [Value.cells] <;> rfl) | (simp [Value.cells, eb, ei, es, ebool, e32, e64]; done)) (by decide) rfl ?_
      intro a_hq w_hq hq l_hq z_hq k_hq
      have zs_k_hq := k_hq.size
      replace hb1 := hb1.pure k_hq
      replace hb2 := hb2.pure k_hq
      replace hb3 := hb3.pure k_hq
      replace h := h.pure k_hq
      replace hw := hw.pure k_hq
      replace hO := hO.pure k_hq
      replace hd_17 := hd_17.pure k_hq
      replace hI := hI.pure k_hq
      refine WL.nil (WX.one ⟨hd_17, ?_⟩)
      refine ⟨?_, trivial, trivial, trivial⟩
      refine DT.step [(19, _)] rfl ⟨rfl, trivial⟩ rfl (fun wq_36 kq_36 => ?_)
      have zs_kq_36 := kq_36.size
      replace hb1 := hb1.pure kq_36
      replace hb2 := hb2.pure kq_36
      replace hb3 := hb3.pure kq_36
      replace h := h.pure kq_36
      replace hw := hw.pure kq_36
      replace hO := hO.pure kq_36
      replace hd_17 := hd_17.pure kq_36
      replace hI := hI.pure kq_36
      replace hq := hq.pure kq_36
      refine WL.loadB Try.isAgg22 hb3 rfl rfl rfl (?_)
      refine WL.nil (WX.one ⟨hd_17, ?_⟩)
      refine ⟨?_, trivial, trivial⟩
      refine DT.step [(20, _), (36, _)] rfl ⟨rfl, rfl, trivial⟩ rfl (fun wq_37 kq_37 => ?_)
      have zs_kq_37 := kq_37.size
      replace hb1 := hb1.pure kq_37
      replace hb2 := hb2.pure kq_37
      replace hb3 := hb3.pure kq_37
      replace h := h.pure kq_37
      replace hw := hw.pure kq_37
      replace hO := hO.pure kq_37
      replace hd_17 := hd_17.pure kq_37
      replace hI := hI.pure kq_37
      replace hq := hq.pure kq_37
      refine WL.append (e := esn) (S := fun b => (w.heap.size ≤ b ∧ b ≠ g_1 ∧ b ≠ g_2) ∧ b ≠ g3) info_72 rfl Try.underlying22 rfl rfl (hO.snaps.mono (fun b hb => hb.1)) (hq.rsl.src Try.underlying22) (by show (sn2.length + 1) * 32 ≤ _ ∧ sn2.length + 1 ≤ _; constructor <;> omega) (fun x hx => by omega) rfl ?_
      intro as9 cs9 w8 hR8 gg8 n8
      have hO8 := LOi.push hO (by decide) hI hR8 gg8
      have gk8 := gg8.chg.mono (fun x _ hx => hx.2)
      have zs_gk8 := gk8.size
      replace hb1 := hb1.chg gk8 (by first | (intro x h1 h2; exact h2) | (intro x h1 h2; have h3 : _ = _ := h2; subst h3; assumption) | (intro x h1 h2; have h3 : _ = _ := h2; exfalso; omega) | (intro b h1 h2 h3; have h4 : _ = _ := h3; (try dsimp only at h2); exfalso; omega) | (intro h1; have h2 : _ = _ := h1; exfalso; omega) | (intros; exfalso; (try dsimp only at *); omega) | (intro h1; exfalso; have h4 := h1.2; (try dsimp only at *); omega) | (intro x h1 h2; exact h2.1))
      replace hb2 := hb2.chg gk8 (by first | (intro x h1 h2; exact h2) | (intro x h1 h2; have h3 : _ = _ := h2; subst h3; assumption) | (intro x h1 h2; have h3 : _ = _ := h2; exfalso; omega) | (intro b h1 h2 h3; have h4 : _ = _ := h3; (try dsimp only at h2); exfalso; omega) | (intro h1; have h2 : _ = _ := h1; exfalso; omega) | (intros; exfalso; (try dsimp only at *); omega) | (intro h1; exfalso; have h4 := h1.2; (try dsimp only at *); omega) | (intro x h1 h2; exact h2.1))
      replace hb3 := hb3.chg gk8 (by first | (intro x h1 h2; exact h2) | (intro x h1 h2; have h3 : _ = _ := h2; subst h3; assumption) | (intro x h1 h2; have h3 : _ = _ := h2; exfalso; omega) | (intro b h1 h2 h3; have h4 : _ = _ := h3; (try dsimp only at h2); exfalso; omega) | (intro h1; have h2 : _ = _ := h1; exfalso; omega) | (intros; exfalso; (try dsimp only at *); omega) | (intro h1; exfalso; have h4 := h1.2; (try dsimp only at *); omega) | (intro x h1 h2; exact h2.1))
      replace h := h.chg gk8 (by first | (intro x h1 h2; exact h2) | (intro x h1 h2; have h3 : _ = _ := h2; subst h3; assumption) | (intro x h1 h2; have h3 : _ = _ := h2; exfalso; omega) | (intro b h1 h2 h3; have h4 : _ = _ := h3; (try dsimp only at h2); exfalso; omega) | (intro h1; have h2 : _ = _ := h1; exfalso; omega) | (intros; exfalso; (try dsimp only at *); omega) | (intro h1; exfalso; have h4 := h1.2; (try dsimp only at *); omega) | (intro x h1 h2; exact h2.1))
      replace hw := hw.chg gk8 (by first | (intro x h1 h2; exact h2) | (intro x h1 h2; have h3 : _ = _ := h2; subst h3; assumption) | (intro x h1 h2; have h3 : _ = _ := h2; exfalso; omega) | (intro b h1 h2 h3; have h4 : _ = _ := h3; (try dsimp only at h2); exfalso; omega) | (intro h1; have h2 : _ = _ := h1; exfalso; omega) | (intros; exfalso; (try dsimp only at *); omega) | (intro h1; exfalso; have h4 := h1.2; (try dsimp only at *); omega) | (intro x h1 h2; exact h2.1))
      replace hd_17 := hd_17.chg gk8 (by first | (intro x h1 h2; exact h2) | (intro x h1 h2; have h3 : _ = _ := h2; subst h3; assumption) | (intro x h1 h2; have h3 : _ = _ := h2; exfalso; omega) | (intro b h1 h2 h3; have h4 : _ = _ := h3; (try dsimp only at h2); exfalso; omega) | (intro h1; have h2 : _ = _ := h1; exfalso; omega) | (intros; exfalso; (try dsimp only at *); omega) | (intro h1; exfalso; have h4 := h1.2; (try dsimp only at *); omega) | (intro x h1 h2; exact h2.1))
      refine WL.nil (WX.one ⟨hd_17, ?_⟩)
      refine ⟨?_, trivial⟩
      refine DT.step [(38, _), (37, _)] rfl ⟨rfl, rfl, trivial⟩ rfl (fun wq_38 kq_38 => ?_)
      have zs_kq_38 := kq_38.size
      replace hb1 := hb1.pure kq_38
      replace hb2 := hb2.pure kq_38
      replace hb3 := hb3.pure kq_38
      replace h := h.pure kq_38
      replace hw := hw.pure kq_38
      replace hd_17 := hd_17.pure kq_38
      replace hO8 := hO8.pure kq_38
      refine WL.store Try.sizeOf22 hb3 rfl rfl rfl rfl ?_
      intro w_39 hs_39 hn_39 k_39
      have zs_k_39 := k_39.size
      replace hb1 := hb1.chg k_39 (by first | (intro x h1 h2; exact h2) | (intro x h1 h2; have h3 : _ = _ := h2; subst h3; assumption) | (intro x h1 h2; have h3 : _ = _ := h2; exfalso; omega) | (intro b h1 h2 h3; have h4 : _ = _ := h3; (try dsimp only at h2); exfalso; omega) | (intro h1; have h2 : _ = _ := h1; exfalso; omega) | (intros; exfalso; (try dsimp only at *); omega) | (intro h1; exfalso; have h4 := h1.2; (try dsimp only at *); omega) | (intro x h1 h2; exact h2.1))
      replace hb2 := hb2.chg k_39 (by first | (intro x h1 h2; exact h2) | (intro x h1 h2; have h3 : _ = _ := h2; subst h3; assumption) | (intro x h1 h2; have h3 : _ = _ := h2; exfalso; omega) | (intro b h1 h2 h3; have h4 : _ = _ := h3; (try dsimp only at h2); exfalso; omega) | (intro h1; have h2 : _ = _ := h1; exfalso; omega) | (intros; exfalso; (try dsimp only at *); omega) | (intro h1; exfalso; have h4 := h1.2; (try dsimp only at *); omega) | (intro x h1 h2; exact h2.1))
      replace h := h.chg k_39 (by first | (intro x h1 h2; exact h2) | (intro x h1 h2; have h3 : _ = _ := h2; subst h3; assumption) | (intro x h1 h2; have h3 : _ = _ := h2; exfalso; omega) | (intro b h1 h2 h3; have h4 : _ = _ := h3; (try dsimp only at h2); exfalso; omega) | (intro h1; have h2 : _ = _ := h1; exfalso; omega) | (intros; exfalso; (try dsimp only at *); omega) | (intro h1; exfalso; have h4 := h1.2; (try dsimp only at *); omega) | (intro x h1 h2; exact h2.1))
      replace hw := hw.chg k_39 (by first | (intro x h1 h2; exact h2) | (intro x h1 h2; have h3 : _ = _ := h2; subst h3; assumption) | (intro x h1 h2; have h3 : _ = _ := h2; exfalso; omega) | (intro b h1 h2 h3; have h4 : _ = _ := h3; (try dsimp only at h2); exfalso; omega) | (intro h1; have h2 : _ = _ := h1; exfalso; omega) | (intros; exfalso; (try dsimp only at *); omega) | (intro h1; exfalso; have h4 := h1.2; (try dsimp only at *); omega) | (intro x h1 h2; exact h2.1))
      replace hd_17 := hd_17.chg k_39 (by first | (intro x h1 h2; exact h2) | (intro x h1 h2; have h3 : _ = _ := h2; subst h3; assumption) | (intro x h1 h2; have h3 : _ = _ := h2; exfalso; omega) | (intro b h1 h2 h3; have h4 : _ = _ := h3; (try dsimp only at h2); exfalso; omega) | (intro h1; have h2 : _ = _ := h1; exfalso; omega) | (intros; exfalso; (try dsimp only at *); omega) | (intro h1; exfalso; have h4 := h1.2; (try dsimp only at *); omega) | (intro x h1 h2; exact h2.1))
      replace hO8 := hO8.chg k_39 (by first | (intro x h1 h2; exact h2) | (intro x h1 h2; have h3 : _ = _ := h2; subst h3; assumption) | (intro x h1 h2; have h3 : _ = _ := h2; exfalso; omega) | (intro b h1 h2 h3; have h4 : _ = _ := h3; (try dsimp only at h2); exfalso; omega) | (intro h1; have h2 : _ = _ := h1; exfalso; omega) | (intros; exfalso; (try dsimp only at *); omega) | (intro h1; exfalso; have h4 := h1.2; (try dsimp only at *); omega) | (intro x h1 h2; exact h2.1))
      replace hb3 := hn_39
      refine WL.nil (WX.one0 (v := undef) ⟨hd_17, ?_⟩)
      refine DT.done (fun we_40 ke_40 => ?_) _
      have zs_ke_40 := ke_40.size
      replace hb1 := hb1.pure ke_40
      replace hb2 := hb2.pure ke_40
      replace hb3 := hb3.pure ke_40
      replace h := h.pure ke_40
      replace hw := hw.pure ke_40
      replace hd_17 := hd_17.pure ke_40
      replace hO8 := hO8.pure ke_40
      rotate_left
      all_goals
        refine WX.block_normal (WX.then_normal (WC.region (WL.move rfl rfl (WL.add64 rfl rfl (by first | omega | (constructor <;> omega)) rfl (WL.assign rfl rfl (WL.nil (?_)))))))
        refine WX.loop_next (i + 1, (as9, cs9, sn2 ++ [(⟨x.txg, ai, ci, x.dead⟩ : SnV)])) ⟨rfl, rfl, rfl, rfl, trivial⟩ ⟨by show i + 1 ≤ _; omega, hb1, hb2, hb3, h, hw, hO8, ?_⟩ (by show sn.length - (i + 1) < sn.length - i; omega)
        show sabs (sn2 ++ [⟨x.txg, ai, ci, x.dead⟩]) = (sabs sn).take (i + 1)
        rw [List.take_add_one, sabs_at hx, ← hsa]
        simp [sabs]
    ·
      refine WL.nil (WX.then_normal (WC.cond_false rfl (WC.exit (WX.then_exit (WX.then_exit (WX.block_here (WX.then_normal (?_))))))))
      refine WC.seq (WC.region (WL.loadsB Try.isAgg25 Try.sizeOf25 hb3 rfl (by first | (simp; done) | (simp; omega) | rfl) rfl (?_)))
      refine WL.stores Try.sizeOf25 hb2 rfl rfl (by first | (simp; done) | (simp; omega) | rfl) (by first | exact Enc.one _ _ | (intro u hu; obtain ⟨x, _, rfl⟩ := List.mem_map.1 hu; rfl) | (simp [Value.oneCell']; done) | (simp [Value.oneCell', Value.cells]; done)) (by first | (simp; done) | (simp; omega) | (simp [Value.cells]; done) | (simp [Value.cells]; omega) | exact Nat.le_of_ble_eq_true rfl) rfl ?_
      intro w_16 hs_16 hn_16 k_16
      have zs_k_16 := k_16.size
      replace hb1 := hb1.chg k_16 (by first | (intro x h1 h2; exact h2) | (intro x h1 h2; have h3 : _ = _ := h2; subst h3; assumption) | (intro x h1 h2; have h3 : _ = _ := h2; exfalso; omega) | (intro b h1 h2 h3; have h4 : _ = _ := h3; (try dsimp only at h2); exfalso; omega) | (intro h1; have h2 : _ = _ := h1; exfalso; omega) | (intros; exfalso; (try dsimp only at *); omega) | (intro h1; exfalso; have h4 := h1.2; (try dsimp only at *); omega) | (intro x h1 h2; exact h2.1))
      replace hb3 := hb3.chg k_16 (by first | (intro x h1 h2; exact h2) | (intro x h1 h2; have h3 : _ = _ := h2; subst h3; assumption) | (intro x h1 h2; have h3 : _ = _ := h2; exfalso; omega) | (intro b h1 h2 h3; have h4 : _ = _ := h3; (try dsimp only at h2); exfalso; omega) | (intro h1; have h2 : _ = _ := h1; exfalso; omega) | (intros; exfalso; (try dsimp only at *); omega) | (intro h1; exfalso; have h4 := h1.2; (try dsimp only at *); omega) | (intro x h1 h2; exact h2.1))
      replace h := h.chg k_16 (by first | (intro x h1 h2; exact h2) | (intro x h1 h2; have h3 : _ = _ := h2; subst h3; assumption) | (intro x h1 h2; have h3 : _ = _ := h2; exfalso; omega) | (intro b h1 h2 h3; have h4 : _ = _ := h3; (try dsimp only at h2); exfalso; omega) | (intro h1; have h2 : _ = _ := h1; exfalso; omega) | (intros; exfalso; (try dsimp only at *); omega) | (intro h1; exfalso; have h4 := h1.2; (try dsimp only at *); omega) | (intro x h1 h2; exact h2.1))
      replace hw := hw.chg k_16 (by first | (intro x h1 h2; exact h2) | (intro x h1 h2; have h3 : _ = _ := h2; subst h3; assumption) | (intro x h1 h2; have h3 : _ = _ := h2; exfalso; omega) | (intro b h1 h2 h3; have h4 : _ = _ := h3; (try dsimp only at h2); exfalso; omega) | (intro h1; have h2 : _ = _ := h1; exfalso; omega) | (intros; exfalso; (try dsimp only at *); omega) | (intro h1; exfalso; have h4 := h1.2; (try dsimp only at *); omega) | (intro x h1 h2; exact h2.1))
      replace hO := hO.chg k_16 (by first | (intro x h1 h2; exact h2) | (intro x h1 h2; have h3 : _ = _ := h2; subst h3; assumption) | (intro x h1 h2; have h3 : _ = _ := h2; exfalso; omega) | (intro b h1 h2 h3; have h4 : _ = _ := h3; (try dsimp only at h2); exfalso; omega) | (intro h1; have h2 : _ = _ := h1; exfalso; omega) | (intros; exfalso; (try dsimp only at *); omega) | (intro h1; exfalso; have h4 := h1.2; (try dsimp only at *); omega) | (intro x h1 h2; exact h2.1))
      replace hb2 := hn_16
      refine WL.nil (WX.then_normal (WC.ret (?_)))
      refine WX.ret1c (.inl rfl) Try.results29 Try.isAgg25 Try.sizeOf25 hb2 rfl (by first | (simp; done) | (simp; omega) | rfl) ?_
      have hil : i = sn.length := by omega
      subst hil
      refine ⟨_, rfl, ⟨⟨ba, sa2, sc2, sn2, aq, cq, de⟩, rfl, hO.mono (fun x hx => hx.1.1), ?_⟩, hw⟩
      show LA.mk ba (sabs sn2) de = LA.mk ba (sabs sn) de
      rw [hsa, List.take_of_length_le (by rw [sabs_len]; omega)]
end Go.Proofs.Ytgmkoieemmglpaa
