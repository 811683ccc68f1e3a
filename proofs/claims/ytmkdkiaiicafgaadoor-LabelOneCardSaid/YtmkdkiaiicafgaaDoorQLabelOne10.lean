import Derived.Test.YtmkdkiaiicafgaaDoorQLabelOne9
namespace Go.HL
open Go.RowKit
theorem partN {P : Program} {w : World} {t : TypeId} {cs ds : List Value} {o k : Nat} (hs : ∀ w, (sizeOf t).run P w = .ok k w) (hg : ∀ w, (isAgg t).run P w = .ok true w) (hv : (cs.drop o).take k = ds) : (part t cs.toArray o).run P w = .ok (.agg ds.toArray) w := by
  simp [part, hs, hg, hv]
end Go.HL
namespace Go.Proofs.YtmkdkiaiicafgaaDoor
open Go.RowKit Go.HL
set_option maxRecDepth 100000

theorem eqg_ub : Tryd.prog.eqGuardType Tryd.prog.depth 34 = false := by kernel_rfl
theorem eq_ptr9 (a b : PtrV) (w : World) : (Op.equalIn 9999 31 (.agg (ept.f a).toArray) (.agg (ept.f b).toArray)).run Tryd.prog w = .ok (decide (a = b)) w := by
  refine eqA_of (d := 9998) Tryd.underlying31 (by kernel_rfl) ?_
  have h3 : (decide (a.a = b.a) && (decide (a.z = b.z) && (decide (a.b = b.b) && (decide (a.s = b.s) && true)))) = decide (a = b) := by
    have : decide (a = b) = decide (a.a = b.a ∧ a.z = b.z ∧ a.b = b.b ∧ a.s = b.s) := decide_eq_decide.2 (PtrV.eq_iff a b).symm
    rw [this]
    simp [Bool.decide_and]
  rw [← h3]
  refine eqf_cons rfl (part1 Tryd.sizeOf3 Tryd.isAgg3 rfl) (part1 Tryd.sizeOf3 Tryd.isAgg3 rfl) (run_equalIn_int w 9997 _ _ _ _ _ Tryd.underlying3) ?_
  refine eqf_cons rfl (part1 Tryd.sizeOf3 Tryd.isAgg3 rfl) (part1 Tryd.sizeOf3 Tryd.isAgg3 rfl) (run_equalIn_int w 9997 _ _ _ _ _ Tryd.underlying3) ?_
  refine eqf_cons rfl (part1 Tryd.sizeOf3 Tryd.isAgg3 rfl) (part1 Tryd.sizeOf3 Tryd.isAgg3 rfl) (run_equalIn_int w 9997 _ _ _ _ _ Tryd.underlying3) ?_
  refine eqf_cons rfl (part1 Tryd.sizeOf9 Tryd.isAgg9 rfl) (part1 Tryd.sizeOf9 Tryd.isAgg9 rfl) (by rw [← beq_bytes]; exact run_equalIn_string w 9997 _ _ _ Tryd.underlying9) eqf_nil
theorem eq_ub (a b : UbV) (w : World) : (Op.equalIn 10000 34 (.agg (eub.f a).toArray) (.agg (eub.f b).toArray)).run Tryd.prog w = .ok (decide (a = b)) w := by
  refine eqA_of (d := 9999) Tryd.underlying34 (by kernel_rfl) ?_
  have h3 : (decide (a.t = b.t) && (decide (a.p = b.p) && true)) = decide (a = b) := by
    have : decide (a = b) = decide (a.t = b.t ∧ a.p = b.p) := decide_eq_decide.2 (UbV.eq_iff a b).symm
    rw [this]
    simp [Bool.decide_and]
  rw [← h3]
  refine eqf_cons rfl (part1 Tryd.sizeOf3 Tryd.isAgg3 rfl) (part1 Tryd.sizeOf3 Tryd.isAgg3 rfl) (run_equalIn_int w 9998 _ _ _ _ _ Tryd.underlying3) ?_
  exact eqf_cons rfl (partN (ds := ept.f a.p) Tryd.sizeOf31 Tryd.isAgg31 rfl) (partN (ds := ept.f b.p) Tryd.sizeOf31 Tryd.isAgg31 rfl) (eq_ptr9 a.p b.p w) eqf_nil
/-- the record with a number and the pointer of a number -/
def ubV (t n : Int) : UbV := ⟨t, ptrV n⟩
theorem ubV_wf {t n : Int} (h : 1 ≤ t ∧ t ≤ 1000000) : WfU (ubV t n) := ⟨by show _ ≤ t ∧ t ≤ _; omega, ptrV_wf n⟩
theorem ubV_enc {t n : Int} (h : 1 ≤ t ∧ t ≤ 1000000) : encE (ubV t n) = 0 := encE_ok (ptrV_right n) h.1 (ubV_wf h)
/-- a powered rack on which no drive is gone -/
theorem errD_up {s : RA} (h : Up s) (d : Int) (hg : goneS s d = false) : errD s d = 0 := by
  rw [errD, if_neg (by rw [hg]; decide), if_neg (by rw [h.off]; decide)]
theorem downS_up {s : RA} (h : Up s) : downS s = false := down_no (fun d _ => by
  unfold errD
  split
  · decide
  · rw [if_neg (by rw [h.off]; decide)]; decide)
theorem cntD_all {s : RA} (h : ∀ d, goneS s d = false) (k : Nat) : cntD s k = k := by
  induction k with
  | zero => rfl
  | succ k ih => rw [cntD, if_neg (by rw [h]; decide), ih]
theorem lwS_facts {s : RA} (h : Up s) (hs : 8 < s.sn) {u : UbV} (hE : encE u = 0) : Up (lwS s u) ∧ (lwS s u).dn = s.dn ∧ (lwS s u).sn = s.sn ∧ (∀ d, goneS (lwS s u) d = goneS s d) ∧ (lwS s u).last = s.last ∧ (lwS s u).waits.length ≤ s.waits.length + s.dn := by
  obtain ⟨e1, -, -⟩ := lw_up h hs hE
  have hd := lwR_dn s (u.t % 8) (encB u) s.dn
  have h4 : (lwS s u).waits.length ≤ s.waits.length + s.dn := by
    rw [lwS, if_pos ⟨hs, hE⟩]
    exact hd.2.2.2.1
  obtain ⟨a1, a2, a3, a4, a5, a6⟩ := addAll_dn s (u.t % 8) (encB u) s.dn
  refine ⟨?_, ?_, ?_, fun d => ?_, ?_, h4⟩
  · rw [e1]; exact addAll_up h _ _ _
  · rw [e1]; exact a1
  · rw [e1]; exact a2
  · rw [e1]; exact addAll_gone _ _ _ _ _
  · rw [e1]; exact a6
theorem lwS_held {s : RA} (h : Up s) (hs : 8 < s.sn) {u : UbV} (hE : encE u = 0) (d : Nat) (hd : d < s.dn) (a : Nat) : heldS (lwS s u) (d, a) = if (a : Int) = u.t % 8 ∧ goneS s d = false then encB u else heldS s (d, a) := by
  obtain ⟨e1, -, -⟩ := lw_up h hs hE
  rw [e1, addAll_held]
  have : (∃ d', d' < s.dn ∧ (((d : Int), (a : Int)) : Pl) = (((d' : Nat) : Int), u.t % 8) ∧ goneS s (d' : Nat) = false) ↔ ((a : Int) = u.t % 8 ∧ goneS s d = false) := by
    constructor
    · rintro ⟨d', h1, h2, h3⟩
      injection h2 with h4 h5
      have : d = d' := by omega
      subst this
      exact ⟨h5, h3⟩
    · rintro ⟨h1, h2⟩
      exact ⟨d, hd, by rw [h1], h2⟩
  simp only [this]
theorem lwS_slot {s : RA} (h : Up s) (hs : 8 < s.sn) {u : UbV} (hE : encE u = 0) (hw : WfU u) (d : Nat) (hd : d < s.dn) (a : Nat) : slotU (lwS s u) d a = if (a : Int) = u.t % 8 ∧ goneS s d = false then u else slotU s d a := by
  have hh := lwS_held h hs hE d hd a
  by_cases hc : (a : Int) = u.t % 8 ∧ goneS s d = false
  · rw [if_pos hc] at hh ⊢
    exact slot_enc hh hE hw hc.1.symm
  · rw [if_neg hc] at hh ⊢
    rw [slotU, slotU, hh]
/-- on a fresh rack -/
theorem fresh_slot {s : RA} (h : ∀ q, heldS s q = zeros) (d : Int) (a : Nat) : slotU s d a = ⟨-1, zeroP⟩ := slot_zeros (h _)
theorem newest_is {s : RA} (h : Up s) (hs : 8 < s.sn) {u : UbV} (h0 : 0 < u.t) (h1 : ∃ d, d < s.dn ∧ goneS s (d : Nat) = false ∧ ∃ a, a < 8 ∧ slotU s (d : Nat) a = u)
    (h2 : ∀ d, d < s.dn → goneS s (d : Nat) = false → ∀ a, a < 8 → (slotU s (d : Nat) a).t ≤ u.t ∧ ((slotU s (d : Nat) a).t = u.t → slotU s (d : Nat) a = u)) : nwU s = u ∧ nwE s = 0 := by
  have hb : bestR s s.dn = u := by
    refine best_is h0 ?_ (fun d hd he a ha => h2 d hd ?_ a ha)
    · obtain ⟨d, hd, hg, ha⟩ := h1
      exact ⟨d, hd, errD_up h d hg, ha⟩
    · unfold errD at he
      cases hg : goneS s (d : Nat) with
      | false => rfl
      | true => rw [if_pos hg] at he; cases he
  obtain ⟨e1, e2⟩ := nw_some hs (downS_up h) (by rw [hb]; omega)
  exact ⟨e2.trans hb, e1⟩
theorem newest_fresh {s : RA} (h : Up s) (hs : 8 < s.sn) (hd : 0 < s.dn) (hg : ∀ d, goneS s d = false) (hz : ∀ q, heldS s q = zeros) {u : UbV} (hE : encE u = 0) (hw : WfU u) : nwU (lwS s u) = u ∧ nwE (lwS s u) = 0 := by
  obtain ⟨f1, f2, f3, f4, f5, f6⟩ := lwS_facts h hs hE
  obtain ⟨t1, t2, t3, t4⟩ := encE_t hE
  refine newest_is f1 (by rw [f3]; exact hs) (by omega) ⟨0, by rw [f2]; exact hd, by rw [f4]; exact hg _, (u.t % 8).toNat, by omega, ?_⟩ (fun d hdd _ a ha => ?_)
  · rw [lwS_slot h hs hE hw 0 hd, if_pos ⟨by omega, hg _⟩]
  · rw [lwS_slot h hs hE hw d (by rw [← f2]; exact hdd)]
    split
    · exact ⟨Int.le_refl _, fun _ => rfl⟩
    · rw [fresh_slot hz]
      exact ⟨by show (-1 : Int) ≤ _; omega, fun h9 => by have : (-1 : Int) = u.t := h9; omega⟩
set_option maxHeartbeats 1000000 in
theorem known8_calls (w : World) : Calls Tryd.prog 8 [].toArray w (Ret fun v w' => v = .bool true ∧ Chg Nob w w') := by
  have hw := Chg.refl Nob w
  obtain ⟨s0, sd, sn, u0, sg, sh, sl, sw, hNew⟩ := new_all 5 9 (by decide) (by decide)
  have sw0 : s0.waits.length = 0 := by rw [sw]; rfl
  have hE : encE (ubV 5 9) = 0 := ubV_enc (by omega)
  have hwf : WfU (ubV 5 9) := ubV_wf (by omega)
  obtain ⟨e1, e2, e3⟩ := lw_up u0 (by omega) hE
  have hc : cntD s0 s0.dn = 5 := by rw [cntD_all sg, sd]
  rw [hc] at e2 e3
  rw [if_neg (by decide)] at e3
  refine Calls.of_WC Tryd.func8 rfl Tryd.ntmps8 (by simp) ?_
  refine WC.seq (WC.region (WL.assign rfl rfl (WL.nil (WX.then_normal (WC.seq (WC.region (?_)))))))
  refine WL.call eg_9 rfl rfl (hNew _) ?_
  rintro v w1 ⟨⟨R, rfl, hR⟩, k1⟩
  have zs_k1 := k1.size
  replace hw := hw.pure k1
  refine WL.move rfl rfl (WL.extract rfl rfl rfl (WL.extract rfl rfl rfl (WL.assign rfl rfl (WL.assign rfl rfl (WL.nil (WX.then_normal (WC.seq (?_))))))))
  refine WC.region (WL.move rfl rfl (?_))
  refine WL.call eg_11 rfl rfl (lptr_calls 9 (by omega) _) ?_
  rintro v w2 ⟨rfl, k2⟩
  have zs_k2 := k2.size
  replace hw := hw.pure k2
  replace hR := hR.pure k2
  refine WL.bld rfl (bld_34_0_1 _ _ _ _ _) rfl (?_)
  refine WL.call eg_10 rfl rfl (lWrite_calls hR (ubV 5 9) hwf (by omega)) ?_
  rintro v w3 ⟨rfl, hR3, k3⟩
  rw [e2, e3]
  have zs_k3 := k3.size
  replace hw := hw.chg k3 (by first | (intro x h1 h2; exact h2) | (intro x h0 h1 h2; exact hS x h1 h2) | (intro x h0 h1 h2; have h3 : _ = _ := h2; subst h3; exact hSR h1.1) | (intro x h1 h2; have h3 : _ = _ := h2; subst h3; assumption) | (intro x h1 h2; have h3 : _ = _ := h2; exfalso; omega) | (intro b h1 h2 h3; have h4 : _ = _ := h3; (try dsimp only at h2); exfalso; omega) | (intro h1; have h2 : _ = _ := h1; exfalso; omega) | (intro h1; have h2 : _ ≤ _ := h1; exfalso; omega) | (intros; exfalso; (try dsimp only at *); omega) | (intro b h1 h2 h3; exfalso; have h4 := h3.2; (try dsimp only at *); omega) | (intro h1; exfalso; have h4 := h1.2; (try dsimp only at *); omega) | (intro x h1 h2; exfalso; have h4 := h2.2; (try dsimp only at *); omega) | (intro x h1 h2; exact ⟨_, rfl, h2⟩) | (intro x h1 h2; have h4 := h2.1; have h5 := h2.2; exfalso; omega) | (intro x h1 h2; exact h2.1) | (intro x h1 h2; rcases h2.1 with h3 | h3; exact h3; exfalso; omega) | (intro x h1 h2; rcases h2 with h3 | h3; exact h3; exfalso; omega))
  refine WL.move rfl rfl (WL.extract rfl rfl rfl (WL.extract rfl rfl rfl (WL.assign rfl rfl (WL.assign rfl rfl (WL.nil (WX.then_normal (WC.seq (?_))))))))
  refine WC.region (WL.move rfl rfl (?_))
  refine WL.call eg_13 rfl rfl (lNewest_calls hR3) ?_
  rintro v w4 ⟨rfl, k4⟩
  obtain ⟨n1, n2⟩ := newest_fresh u0 (by omega) (by omega) sg sh hE hwf
  rw [n1, n2]
  have zs_k4 := k4.size
  replace hw := hw.pure k4
  refine WL.move rfl rfl (WL.extract rfl rfl rfl (WL.extract rfl rfl rfl (?_)))
  refine WL.alloc Tryd.zeroValue34 rfl ?_
  intro g_1 w_1 hge_1 hlt_1 hb_1 k_1
  have zs_k_1 := k_1.size
  replace hw := hw.pure k_1
  refine WL.stores Tryd.sizeOf34 hb_1 rfl rfl (by first | (simp; done) | (simp; omega) | rfl) (by first | exact Enc.one _ _ | (intro u hu; obtain ⟨x, _, rfl⟩ := List.mem_map.1 hu; rfl) | (simp [Value.oneCell']; done) | (simp [Value.oneCell', Value.cells]; done)) (by first | (simp; done) | (simp; omega) | (simp [Value.cells]; done) | (simp [Value.cells]; omega) | exact Nat.le_of_ble_eq_true rfl) rfl ?_
  intro w_2 hs_2 hn_2 k_2
  have zs_k_2 := k_2.size
  replace hw := hw.chg k_2 (by first | (intro x h1 h2; exact h2) | (intro x h0 h1 h2; exact hS x h1 h2) | (intro x h0 h1 h2; have h3 : _ = _ := h2; subst h3; exact hSR h1.1) | (intro x h1 h2; have h3 : _ = _ := h2; subst h3; assumption) | (intro x h1 h2; have h3 : _ = _ := h2; exfalso; omega) | (intro b h1 h2 h3; have h4 : _ = _ := h3; (try dsimp only at h2); exfalso; omega) | (intro h1; have h2 : _ = _ := h1; exfalso; omega) | (intro h1; have h2 : _ ≤ _ := h1; exfalso; omega) | (intros; exfalso; (try dsimp only at *); omega) | (intro b h1 h2 h3; exfalso; have h4 := h3.2; (try dsimp only at *); omega) | (intro h1; exfalso; have h4 := h1.2; (try dsimp only at *); omega) | (intro x h1 h2; exfalso; have h4 := h2.2; (try dsimp only at *); omega) | (intro x h1 h2; exact ⟨_, rfl, h2⟩) | (intro x h1 h2; have h4 := h2.1; have h5 := h2.2; exfalso; omega) | (intro x h1 h2; exact h2.1) | (intro x h1 h2; rcases h2.1 with h3 | h3; exact h3; exfalso; omega) | (intro x h1 h2; rcases h2 with h3 | h3; exact h3; exfalso; omega))
  replace hb_1 := hn_2
  refine WL.assign rfl rfl (WL.nil (WX.then_normal (WC.seq (?_))))
  refine WC.draw (Nob) [0, 1, 2, 3, 4, 5, 6, 7, 8, 9, 10, 11, 12, 13, 14, 15] [16, 17, 18, 19, 20] mixed rfl rfl (fun wd_3 kd_3 zd_3 => ?_)
  have zs_kd_3 := kd_3.size
  replace hw := hw.pure kd_3
  replace hb_1 := hb_1.pure kd_3
  apply DQ.step (E' := [(2, _)])
  case ho => rfl
  case hs => exact ⟨rfl, trivial⟩
  case hk => rfl
  case h1 =>
    intro wq_5 kq_5
    refine WL.move rfl rfl (?_)
    refine WL.nil ?_
    exact WX.one ⟨rfl, by first | exact Chg.refl _ _ | assumption⟩
  apply DQ.split (E' := [(23, _)])
  case ho => rfl
  case hs => exact ⟨rfl, trivial⟩
  case hk => rfl
  case h1 =>
    intro wq_6 kq_6
    refine WL.eql rfl rfl rfl ?_
    refine WL.nil ?_
    exact WX.one ⟨rfl, by first | exact Chg.refl _ _ | assumption⟩
  case ht =>
    intro h24
    replace h24 := of_decide_eq_true h24
    apply DQ.step (E' := [(24, _)])
    case ho => rfl
    case hs => exact ⟨rfl, trivial⟩
    case hk => rfl
    case h1 =>
      intro wq_7 kq_7
      refine WL.move rfl rfl (?_)
      refine WL.nil ?_
      exact WX.one ⟨rfl, by first | exact Chg.refl _ _ | assumption⟩
    apply DQ.step (E' := [(4, _), (25, _)])
    case ho => rfl
    case hs => exact ⟨rfl, rfl, trivial⟩
    case hk => rfl
    case h1 =>
      intro wq_8 kq_8
      refine WL.want rfl rfl rfl (WL.move rfl rfl (?_))
      refine WL.nil ?_
      exact WX.one ⟨rfl, by first | exact Chg.refl _ _ | assumption⟩
    apply DQ.split (E' := [(26, _), (25, _)])
    case ho => rfl
    case hs => exact ⟨rfl, rfl, trivial⟩
    case hk => rfl
    case h1 =>
      intro wq_9 kq_9
      refine WL.want rfl rfl rfl (?_)
      refine WL.eql rfl rfl rfl ?_
      refine WL.nil ?_
      exact WX.one ⟨rfl, by first | exact Chg.refl _ _ | assumption⟩
    case ht =>
      intro h27
      replace h27 := of_decide_eq_true h27
      apply DQ.step (E' := [(25, _), (27, _)])
      case ho => rfl
      case hs => exact ⟨rfl, rfl, trivial⟩
      case hk => rfl
      case h1 =>
        intro wq_10 kq_10
        refine WL.pickT rfl rfl rfl (?_)
        refine WL.nil ?_
        exact WX.one ⟨rfl, by first | exact Chg.refl _ _ | assumption⟩
      apply DQ.step (E' := [(28, _)])
      case ho => rfl
      case hs => exact ⟨rfl, trivial⟩
      case hk => rfl
      case h1 =>
        intro wq_11 kq_11
        refine WL.move rfl rfl (?_)
        refine WL.nil ?_
        exact WX.one ⟨rfl, by first | exact Chg.refl _ _ | assumption⟩
      apply DQ.step (E' := [(3, _), (29, _)])
      case ho => rfl
      case hs => exact ⟨rfl, rfl, trivial⟩
      case hk => rfl
      case h1 =>
        intro wq_12 kq_12
        refine WL.want rfl rfl rfl (WL.move rfl rfl (?_))
        refine WL.nil ?_
        exact WX.one ⟨rfl, by first | exact Chg.refl _ _ | assumption⟩
      apply DQ.split (E' := [(30, _), (29, _)])
      case ho => rfl
      case hs => exact ⟨rfl, rfl, trivial⟩
      case hk => rfl
      case h1 =>
        intro wq_13 kq_13
        refine WL.want rfl rfl rfl (?_)
        refine WL.eql rfl rfl rfl ?_
        refine WL.nil ?_
        exact WX.one ⟨rfl, by first | exact Chg.refl _ _ | assumption⟩
      case ht =>
        intro h31
        replace h31 := of_decide_eq_true h31
        apply DQ.step (E' := [(29, _), (31, _)])
        case ho => rfl
        case hs => exact ⟨rfl, rfl, trivial⟩
        case hk => rfl
        case h1 =>
          intro wq_14 kq_14
          refine WL.pickT rfl rfl rfl (?_)
          refine WL.nil ?_
          exact WX.one ⟨rfl, by first | exact Chg.refl _ _ | assumption⟩
        apply DQ.step (E' := [(32, _)])
        case ho => rfl
        case hs => exact ⟨rfl, trivial⟩
        case hk => rfl
        case h1 =>
          intro wq_15 kq_15
          refine WL.move rfl rfl (?_)
          refine WL.nil ?_
          exact WX.one ⟨rfl, by first | exact Chg.refl _ _ | assumption⟩
        apply DQ.step (E' := [(6, _), (33, _)])
        case ho => rfl
        case hs => exact ⟨rfl, rfl, trivial⟩
        case hk => rfl
        case h1 =>
          intro wq_16 kq_16
          refine WL.want rfl rfl rfl (WL.move rfl rfl (?_))
          refine WL.nil ?_
          exact WX.one ⟨rfl, by first | exact Chg.refl _ _ | assumption⟩
        apply DQ.split (E' := [(34, _), (33, _)])
        case ho => rfl
        case hs => exact ⟨rfl, rfl, trivial⟩
        case hk => rfl
        case h1 =>
          intro wq_17 kq_17
          refine WL.want rfl rfl rfl (?_)
          refine WL.eql rfl rfl rfl ?_
          refine WL.nil ?_
          exact WX.one ⟨rfl, by first | exact Chg.refl _ _ | assumption⟩
        case ht =>
          intro h35
          replace h35 := of_decide_eq_true h35
          apply DQ.step (E' := [(33, _), (35, _)])
          case ho => rfl
          case hs => exact ⟨rfl, rfl, trivial⟩
          case hk => rfl
          case h1 =>
            intro wq_18 kq_18
            refine WL.pickT rfl rfl rfl (?_)
            refine WL.nil ?_
            exact WX.one ⟨rfl, by first | exact Chg.refl _ _ | assumption⟩
          apply DQ.step (E' := [(36, _)])
          case ho => rfl
          case hs => exact ⟨rfl, trivial⟩
          case hk => rfl
          case h1 =>
            intro wq_19 kq_19
            refine WL.move rfl rfl (?_)
            refine WL.nil ?_
            exact WX.one ⟨rfl, by first | exact Chg.refl _ _ | assumption⟩
          apply DQ.step (E' := [(5, _), (37, _)])
          case ho => rfl
          case hs => exact ⟨rfl, rfl, trivial⟩
          case hk => rfl
          case h1 =>
            intro wq_20 kq_20
            have zs_kq_20 := kq_20.size
            replace hw := hw.pure kq_20
            replace hb_1 := hb_1.pure kq_20
            refine WL.want rfl rfl rfl (?_)
            have hb5 := Blk.eqc (cs' := eub.f (ubV 5 9)) hb_1 rfl
            refine WL.loads (eub.f (ubV 5 9)) Tryd.isAgg34 Tryd.sizeOf34 rfl (fun j v hj => by rw [Nat.zero_add]; exact hb5.cell hj) rfl rfl ?_
            refine WL.nil ?_
            exact WX.one ⟨rfl, by first | exact Chg.refl _ _ | assumption⟩
          refine DQ.done (fun hd_4 => ?_)
          refine DL.step [(37, _)] rfl ⟨rfl, trivial⟩ rfl (fun wq_21 kq_21 => ?_)
          have zs_kq_21 := kq_21.size
          replace hw := hw.pure kq_21
          replace hb_1 := hb_1.pure kq_21
          replace hd_4 := hd_4.pure kq_21
          refine WL.want rfl rfl rfl (?_)
          refine WL.call eg_11 rfl rfl (lptr_calls 9 (by omega) _) ?_
          rintro v w5 ⟨rfl, k5⟩
          have zs_k5 := k5.size
          replace hw := hw.pure k5
          replace hb_1 := hb_1.pure k5
          replace hd_4 := hd_4.pure k5
          refine WL.nil ?_
          refine WX.one ⟨hd_4, ?_⟩
          refine DL.step [(39, _), (37, _)] rfl ⟨rfl, rfl, trivial⟩ rfl (fun wq_22 kq_22 => ?_)
          have zs_kq_22 := kq_22.size
          replace hw := hw.pure kq_22
          replace hb_1 := hb_1.pure kq_22
          replace hd_4 := hd_4.pure kq_22
          refine WL.want rfl rfl rfl (WL.bld rfl (bld_34_0_1 _ _ _ _ _) rfl (?_))
          refine WL.nil ?_
          refine WX.one ⟨hd_4, ?_⟩
          refine DL.step [(38, _), (40, _), (37, _)] rfl ⟨rfl, rfl, rfl, trivial⟩ rfl (fun wq_23 kq_23 => ?_)
          have zs_kq_23 := kq_23.size
          replace hw := hw.pure kq_23
          replace hb_1 := hb_1.pure kq_23
          replace hd_4 := hd_4.pure kq_23
          refine WL.want rfl rfl rfl (WL.aeql eqg_ub (eq_ub (ubV 5 9) (ubV 5 9)) rfl rfl rfl (?_))
          refine WL.nil ?_
          refine WX.one ⟨hd_4, ?_⟩
          refine DL.step [(37, _), (41, _)] rfl ⟨rfl, rfl, trivial⟩ rfl (fun wq_24 kq_24 => ?_)
          have zs_kq_24 := kq_24.size
          replace hw := hw.pure kq_24
          replace hb_1 := hb_1.pure kq_24
          replace hd_4 := hd_4.pure kq_24
          refine WL.pickT rfl rfl rfl (?_)
          refine WL.nil ?_
          refine WX.one ⟨hd_4, ?_⟩
          refine DL.step [(42, _)] rfl ⟨rfl, trivial⟩ rfl (fun wq_25 kq_25 => ?_)
          have zs_kq_25 := kq_25.size
          replace hw := hw.pure kq_25
          replace hb_1 := hb_1.pure kq_25
          replace hd_4 := hd_4.pure kq_25
          refine WL.assign rfl rfl (?_)
          refine WL.nil ?_
          refine WX.one ⟨hd_4, ?_⟩
          refine DL.done (fun we_26 ke_26 => ?_)
          have zs_ke_26 := ke_26.size
          replace hw := hw.pure ke_26
          replace hb_1 := hb_1.pure ke_26
          replace hd_4 := hd_4.pure ke_26
          refine WX.then_normal (WC.ret (?_))
          refine WX.ret1 (.inl rfl) Tryd.results8 rfl ?_
          first
            | exact ⟨_, rfl, rfl, hw⟩
            | (refine ⟨_, rfl, ?_, hw⟩
               exact congrArg Value.bool (decide_eq_true rfl))
            | (exfalso; omega)
        case hf =>
          intro h35
          replace h35 := of_decide_eq_false h35
          apply DQ.step (E' := [(33, _), (35, _)])
          case ho => rfl
          case hs => exact ⟨rfl, rfl, trivial⟩
          case hk => rfl
          case h1 =>
            intro wq_18 kq_18
            refine WL.pickT rfl rfl rfl (?_)
            refine WL.nil ?_
            exact WX.one ⟨rfl, by first | exact Chg.refl _ _ | assumption⟩
          apply DQ.step (E' := [(36, _)])
          case ho => rfl
          case hs => exact ⟨rfl, trivial⟩
          case hk => rfl
          case h1 =>
            intro wq_19 kq_19
            refine WL.move rfl rfl (?_)
            refine WL.nil ?_
            exact WX.one ⟨rfl, by first | exact Chg.refl _ _ | assumption⟩
          apply DQ.step (E' := [(5, _), (37, _)])
          case ho => rfl
          case hs => exact ⟨rfl, rfl, trivial⟩
          case hk => rfl
          case h1 =>
            intro wq_20 kq_20
            have zs_kq_20 := kq_20.size
            replace hw := hw.pure kq_20
            replace hb_1 := hb_1.pure kq_20
            refine WL.pass rfl rfl rfl rfl (WL.nil (?_))
            exact WX.one ⟨rfl, by first | exact Chg.refl _ _ | assumption⟩
          refine DQ.done (fun hd_4 => ?_)
          refine DL.step [(37, _)] rfl ⟨rfl, trivial⟩ rfl (fun wq_21 kq_21 => ?_)
          have zs_kq_21 := kq_21.size
          replace hw := hw.pure kq_21
          replace hb_1 := hb_1.pure kq_21
          replace hd_4 := hd_4.pure kq_21
          refine WL.pass rfl rfl rfl rfl (WL.nil (?_))
          refine WX.one ⟨hd_4, ?_⟩
          refine DL.step [(39, _), (37, _)] rfl ⟨rfl, rfl, trivial⟩ rfl (fun wq_22 kq_22 => ?_)
          have zs_kq_22 := kq_22.size
          replace hw := hw.pure kq_22
          replace hb_1 := hb_1.pure kq_22
          replace hd_4 := hd_4.pure kq_22
          refine WL.pass rfl rfl rfl rfl (WL.nil (?_))
          refine WX.one ⟨hd_4, ?_⟩
          refine DL.step [(38, _), (40, _), (37, _)] rfl ⟨rfl, rfl, rfl, trivial⟩ rfl (fun wq_23 kq_23 => ?_)
          have zs_kq_23 := kq_23.size
          replace hw := hw.pure kq_23
          replace hb_1 := hb_1.pure kq_23
          replace hd_4 := hd_4.pure kq_23
          refine WL.pass rfl rfl rfl rfl (WL.nil (?_))
          refine WX.one ⟨hd_4, ?_⟩
          refine DL.step [(37, _), (41, _)] rfl ⟨rfl, rfl, trivial⟩ rfl (fun wq_24 kq_24 => ?_)
          have zs_kq_24 := kq_24.size
          replace hw := hw.pure kq_24
          replace hb_1 := hb_1.pure kq_24
          replace hd_4 := hd_4.pure kq_24
          refine WL.pickF rfl rfl rfl (?_)
          refine WL.nil ?_
          refine WX.one ⟨hd_4, ?_⟩
          refine DL.step [(42, _)] rfl ⟨rfl, trivial⟩ rfl (fun wq_25 kq_25 => ?_)
          have zs_kq_25 := kq_25.size
          replace hw := hw.pure kq_25
          replace hb_1 := hb_1.pure kq_25
          replace hd_4 := hd_4.pure kq_25
          refine WL.assign rfl rfl (?_)
          refine WL.nil ?_
          refine WX.one ⟨hd_4, ?_⟩
          refine DL.done (fun we_26 ke_26 => ?_)
          have zs_ke_26 := ke_26.size
          replace hw := hw.pure ke_26
          replace hb_1 := hb_1.pure ke_26
          replace hd_4 := hd_4.pure ke_26
          refine WX.then_normal (WC.ret (?_))
          refine WX.ret1 (.inl rfl) Tryd.results8 rfl ?_
          first
            | exact ⟨_, rfl, rfl, hw⟩
            | (refine ⟨_, rfl, ?_, hw⟩
               exact congrArg Value.bool (decide_eq_true rfl))
            | (exfalso; omega)
      case hf =>
        intro h31
        replace h31 := of_decide_eq_false h31
        apply DQ.step (E' := [(29, _), (31, _)])
        case ho => rfl
        case hs => exact ⟨rfl, rfl, trivial⟩
        case hk => rfl
        case h1 =>
          intro wq_14 kq_14
          refine WL.pickT rfl rfl rfl (?_)
          refine WL.nil ?_
          exact WX.one ⟨rfl, by first | exact Chg.refl _ _ | assumption⟩
        apply DQ.step (E' := [(32, _)])
        case ho => rfl
        case hs => exact ⟨rfl, trivial⟩
        case hk => rfl
        case h1 =>
          intro wq_15 kq_15
          refine WL.move rfl rfl (?_)
          refine WL.nil ?_
          exact WX.one ⟨rfl, by first | exact Chg.refl _ _ | assumption⟩
        apply DQ.step (E' := [(6, _), (33, _)])
        case ho => rfl
        case hs => exact ⟨rfl, rfl, trivial⟩
        case hk => rfl
        case h1 =>
          intro wq_16 kq_16
          refine WL.pass rfl rfl rfl rfl (WL.nil (?_))
          exact WX.one ⟨rfl, by first | exact Chg.refl _ _ | assumption⟩
        apply DQ.step (E' := [(34, _), (33, _)])
        case ho => rfl
        case hs => exact ⟨rfl, rfl, trivial⟩
        case hk => rfl
        case h1 =>
          intro wq_17 kq_17
          refine WL.pass rfl rfl rfl rfl (WL.nil (?_))
          exact WX.one ⟨rfl, by first | exact Chg.refl _ _ | assumption⟩
        apply DQ.step (E' := [(33, _), (35, _)])
        case ho => rfl
        case hs => exact ⟨rfl, rfl, trivial⟩
        case hk => rfl
        case h1 =>
          intro wq_18 kq_18
          refine WL.pickF rfl rfl rfl (?_)
          refine WL.nil ?_
          exact WX.one ⟨rfl, by first | exact Chg.refl _ _ | assumption⟩
        apply DQ.step (E' := [(36, _)])
        case ho => rfl
        case hs => exact ⟨rfl, trivial⟩
        case hk => rfl
        case h1 =>
          intro wq_19 kq_19
          refine WL.move rfl rfl (?_)
          refine WL.nil ?_
          exact WX.one ⟨rfl, by first | exact Chg.refl _ _ | assumption⟩
        apply DQ.step (E' := [(5, _), (37, _)])
        case ho => rfl
        case hs => exact ⟨rfl, rfl, trivial⟩
        case hk => rfl
        case h1 =>
          intro wq_20 kq_20
          have zs_kq_20 := kq_20.size
          replace hw := hw.pure kq_20
          replace hb_1 := hb_1.pure kq_20
          refine WL.pass rfl rfl rfl rfl (WL.nil (?_))
          exact WX.one ⟨rfl, by first | exact Chg.refl _ _ | assumption⟩
        refine DQ.done (fun hd_4 => ?_)
        refine DL.step [(37, _)] rfl ⟨rfl, trivial⟩ rfl (fun wq_21 kq_21 => ?_)
        have zs_kq_21 := kq_21.size
        replace hw := hw.pure kq_21
        replace hb_1 := hb_1.pure kq_21
        replace hd_4 := hd_4.pure kq_21
        refine WL.pass rfl rfl rfl rfl (WL.nil (?_))
        refine WX.one ⟨hd_4, ?_⟩
        refine DL.step [(39, _), (37, _)] rfl ⟨rfl, rfl, trivial⟩ rfl (fun wq_22 kq_22 => ?_)
        have zs_kq_22 := kq_22.size
        replace hw := hw.pure kq_22
        replace hb_1 := hb_1.pure kq_22
        replace hd_4 := hd_4.pure kq_22
        refine WL.pass rfl rfl rfl rfl (WL.nil (?_))
        refine WX.one ⟨hd_4, ?_⟩
        refine DL.step [(38, _), (40, _), (37, _)] rfl ⟨rfl, rfl, rfl, trivial⟩ rfl (fun wq_23 kq_23 => ?_)
        have zs_kq_23 := kq_23.size
        replace hw := hw.pure kq_23
        replace hb_1 := hb_1.pure kq_23
        replace hd_4 := hd_4.pure kq_23
        refine WL.pass rfl rfl rfl rfl (WL.nil (?_))
        refine WX.one ⟨hd_4, ?_⟩
        refine DL.step [(37, _), (41, _)] rfl ⟨rfl, rfl, trivial⟩ rfl (fun wq_24 kq_24 => ?_)
        have zs_kq_24 := kq_24.size
        replace hw := hw.pure kq_24
        replace hb_1 := hb_1.pure kq_24
        replace hd_4 := hd_4.pure kq_24
        refine WL.pickF rfl rfl rfl (?_)
        refine WL.nil ?_
        refine WX.one ⟨hd_4, ?_⟩
        refine DL.step [(42, _)] rfl ⟨rfl, trivial⟩ rfl (fun wq_25 kq_25 => ?_)
        have zs_kq_25 := kq_25.size
        replace hw := hw.pure kq_25
        replace hb_1 := hb_1.pure kq_25
        replace hd_4 := hd_4.pure kq_25
        refine WL.assign rfl rfl (?_)
        refine WL.nil ?_
        refine WX.one ⟨hd_4, ?_⟩
        refine DL.done (fun we_26 ke_26 => ?_)
        have zs_ke_26 := ke_26.size
        replace hw := hw.pure ke_26
        replace hb_1 := hb_1.pure ke_26
        replace hd_4 := hd_4.pure ke_26
        refine WX.then_normal (WC.ret (?_))
        refine WX.ret1 (.inl rfl) Tryd.results8 rfl ?_
        first
          | exact ⟨_, rfl, rfl, hw⟩
          | (refine ⟨_, rfl, ?_, hw⟩
             exact congrArg Value.bool (decide_eq_true rfl))
          | (exfalso; omega)
    case hf =>
      intro h27
      replace h27 := of_decide_eq_false h27
      apply DQ.step (E' := [(25, _), (27, _)])
      case ho => rfl
      case hs => exact ⟨rfl, rfl, trivial⟩
      case hk => rfl
      case h1 =>
        intro wq_10 kq_10
        refine WL.pickT rfl rfl rfl (?_)
        refine WL.nil ?_
        exact WX.one ⟨rfl, by first | exact Chg.refl _ _ | assumption⟩
      apply DQ.step (E' := [(28, _)])
      case ho => rfl
      case hs => exact ⟨rfl, trivial⟩
      case hk => rfl
      case h1 =>
        intro wq_11 kq_11
        refine WL.move rfl rfl (?_)
        refine WL.nil ?_
        exact WX.one ⟨rfl, by first | exact Chg.refl _ _ | assumption⟩
      apply DQ.step (E' := [(3, _), (29, _)])
      case ho => rfl
      case hs => exact ⟨rfl, rfl, trivial⟩
      case hk => rfl
      case h1 =>
        intro wq_12 kq_12
        refine WL.pass rfl rfl rfl rfl (WL.nil (?_))
        exact WX.one ⟨rfl, by first | exact Chg.refl _ _ | assumption⟩
      apply DQ.step (E' := [(30, _), (29, _)])
      case ho => rfl
      case hs => exact ⟨rfl, rfl, trivial⟩
      case hk => rfl
      case h1 =>
        intro wq_13 kq_13
        refine WL.pass rfl rfl rfl rfl (WL.nil (?_))
        exact WX.one ⟨rfl, by first | exact Chg.refl _ _ | assumption⟩
      apply DQ.step (E' := [(29, _), (31, _)])
      case ho => rfl
      case hs => exact ⟨rfl, rfl, trivial⟩
      case hk => rfl
      case h1 =>
        intro wq_14 kq_14
        refine WL.pickF rfl rfl rfl (?_)
        refine WL.nil ?_
        exact WX.one ⟨rfl, by first | exact Chg.refl _ _ | assumption⟩
      apply DQ.step (E' := [(32, _)])
      case ho => rfl
      case hs => exact ⟨rfl, trivial⟩
      case hk => rfl
      case h1 =>
        intro wq_15 kq_15
        refine WL.move rfl rfl (?_)
        refine WL.nil ?_
        exact WX.one ⟨rfl, by first | exact Chg.refl _ _ | assumption⟩
      apply DQ.step (E' := [(6, _), (33, _)])
      case ho => rfl
      case hs => exact ⟨rfl, rfl, trivial⟩
      case hk => rfl
      case h1 =>
        intro wq_16 kq_16
        refine WL.pass rfl rfl rfl rfl (WL.nil (?_))
        exact WX.one ⟨rfl, by first | exact Chg.refl _ _ | assumption⟩
      apply DQ.step (E' := [(34, _), (33, _)])
      case ho => rfl
      case hs => exact ⟨rfl, rfl, trivial⟩
      case hk => rfl
      case h1 =>
        intro wq_17 kq_17
        refine WL.pass rfl rfl rfl rfl (WL.nil (?_))
        exact WX.one ⟨rfl, by first | exact Chg.refl _ _ | assumption⟩
      apply DQ.step (E' := [(33, _), (35, _)])
      case ho => rfl
      case hs => exact ⟨rfl, rfl, trivial⟩
      case hk => rfl
      case h1 =>
        intro wq_18 kq_18
        refine WL.pickF rfl rfl rfl (?_)
        refine WL.nil ?_
        exact WX.one ⟨rfl, by first | exact Chg.refl _ _ | assumption⟩
      apply DQ.step (E' := [(36, _)])
      case ho => rfl
      case hs => exact ⟨rfl, trivial⟩
      case hk => rfl
      case h1 =>
        intro wq_19 kq_19
        refine WL.move rfl rfl (?_)
        refine WL.nil ?_
        exact WX.one ⟨rfl, by first | exact Chg.refl _ _ | assumption⟩
      apply DQ.step (E' := [(5, _), (37, _)])
      case ho => rfl
      case hs => exact ⟨rfl, rfl, trivial⟩
      case hk => rfl
      case h1 =>
        intro wq_20 kq_20
        have zs_kq_20 := kq_20.size
        replace hw := hw.pure kq_20
        replace hb_1 := hb_1.pure kq_20
        refine WL.pass rfl rfl rfl rfl (WL.nil (?_))
        exact WX.one ⟨rfl, by first | exact Chg.refl _ _ | assumption⟩
      refine DQ.done (fun hd_4 => ?_)
      refine DL.step [(37, _)] rfl ⟨rfl, trivial⟩ rfl (fun wq_21 kq_21 => ?_)
      have zs_kq_21 := kq_21.size
      replace hw := hw.pure kq_21
      replace hb_1 := hb_1.pure kq_21
      replace hd_4 := hd_4.pure kq_21
      refine WL.pass rfl rfl rfl rfl (WL.nil (?_))
      refine WX.one ⟨hd_4, ?_⟩
      refine DL.step [(39, _), (37, _)] rfl ⟨rfl, rfl, trivial⟩ rfl (fun wq_22 kq_22 => ?_)
      have zs_kq_22 := kq_22.size
      replace hw := hw.pure kq_22
      replace hb_1 := hb_1.pure kq_22
      replace hd_4 := hd_4.pure kq_22
      refine WL.pass rfl rfl rfl rfl (WL.nil (?_))
      refine WX.one ⟨hd_4, ?_⟩
      refine DL.step [(38, _), (40, _), (37, _)] rfl ⟨rfl, rfl, rfl, trivial⟩ rfl (fun wq_23 kq_23 => ?_)
      have zs_kq_23 := kq_23.size
      replace hw := hw.pure kq_23
      replace hb_1 := hb_1.pure kq_23
      replace hd_4 := hd_4.pure kq_23
      refine WL.pass rfl rfl rfl rfl (WL.nil (?_))
      refine WX.one ⟨hd_4, ?_⟩
      refine DL.step [(37, _), (41, _)] rfl ⟨rfl, rfl, trivial⟩ rfl (fun wq_24 kq_24 => ?_)
      have zs_kq_24 := kq_24.size
      replace hw := hw.pure kq_24
      replace hb_1 := hb_1.pure kq_24
      replace hd_4 := hd_4.pure kq_24
      refine WL.pickF rfl rfl rfl (?_)
      refine WL.nil ?_
      refine WX.one ⟨hd_4, ?_⟩
      refine DL.step [(42, _)] rfl ⟨rfl, trivial⟩ rfl (fun wq_25 kq_25 => ?_)
      have zs_kq_25 := kq_25.size
      replace hw := hw.pure kq_25
      replace hb_1 := hb_1.pure kq_25
      replace hd_4 := hd_4.pure kq_25
      refine WL.assign rfl rfl (?_)
      refine WL.nil ?_
      refine WX.one ⟨hd_4, ?_⟩
      refine DL.done (fun we_26 ke_26 => ?_)
      have zs_ke_26 := ke_26.size
      replace hw := hw.pure ke_26
      replace hb_1 := hb_1.pure ke_26
      replace hd_4 := hd_4.pure ke_26
      refine WX.then_normal (WC.ret (?_))
      refine WX.ret1 (.inl rfl) Tryd.results8 rfl ?_
      first
        | exact ⟨_, rfl, rfl, hw⟩
        | (refine ⟨_, rfl, ?_, hw⟩
           exact congrArg Value.bool (decide_eq_true rfl))
        | (exfalso; omega)
  case hf =>
    intro h24
    replace h24 := of_decide_eq_false h24
    apply DQ.step (E' := [(24, _)])
    case ho => rfl
    case hs => exact ⟨rfl, trivial⟩
    case hk => rfl
    case h1 =>
      intro wq_7 kq_7
      refine WL.move rfl rfl (?_)
      refine WL.nil ?_
      exact WX.one ⟨rfl, by first | exact Chg.refl _ _ | assumption⟩
    apply DQ.step (E' := [(4, _), (25, _)])
    case ho => rfl
    case hs => exact ⟨rfl, rfl, trivial⟩
    case hk => rfl
    case h1 =>
      intro wq_8 kq_8
      refine WL.pass rfl rfl rfl rfl (WL.nil (?_))
      exact WX.one ⟨rfl, by first | exact Chg.refl _ _ | assumption⟩
    apply DQ.step (E' := [(26, _), (25, _)])
    case ho => rfl
    case hs => exact ⟨rfl, rfl, trivial⟩
    case hk => rfl
    case h1 =>
      intro wq_9 kq_9
      refine WL.pass rfl rfl rfl rfl (WL.nil (?_))
      exact WX.one ⟨rfl, by first | exact Chg.refl _ _ | assumption⟩
    apply DQ.step (E' := [(25, _), (27, _)])
    case ho => rfl
    case hs => exact ⟨rfl, rfl, trivial⟩
    case hk => rfl
    case h1 =>
      intro wq_10 kq_10
      refine WL.pickF rfl rfl rfl (?_)
      refine WL.nil ?_
      exact WX.one ⟨rfl, by first | exact Chg.refl _ _ | assumption⟩
    apply DQ.step (E' := [(28, _)])
    case ho => rfl
    case hs => exact ⟨rfl, trivial⟩
    case hk => rfl
    case h1 =>
      intro wq_11 kq_11
      refine WL.move rfl rfl (?_)
      refine WL.nil ?_
      exact WX.one ⟨rfl, by first | exact Chg.refl _ _ | assumption⟩
    apply DQ.step (E' := [(3, _), (29, _)])
    case ho => rfl
    case hs => exact ⟨rfl, rfl, trivial⟩
    case hk => rfl
    case h1 =>
      intro wq_12 kq_12
      refine WL.pass rfl rfl rfl rfl (WL.nil (?_))
      exact WX.one ⟨rfl, by first | exact Chg.refl _ _ | assumption⟩
    apply DQ.step (E' := [(30, _), (29, _)])
    case ho => rfl
    case hs => exact ⟨rfl, rfl, trivial⟩
    case hk => rfl
    case h1 =>
      intro wq_13 kq_13
      refine WL.pass rfl rfl rfl rfl (WL.nil (?_))
      exact WX.one ⟨rfl, by first | exact Chg.refl _ _ | assumption⟩
    apply DQ.step (E' := [(29, _), (31, _)])
    case ho => rfl
    case hs => exact ⟨rfl, rfl, trivial⟩
    case hk => rfl
    case h1 =>
      intro wq_14 kq_14
      refine WL.pickF rfl rfl rfl (?_)
      refine WL.nil ?_
      exact WX.one ⟨rfl, by first | exact Chg.refl _ _ | assumption⟩
    apply DQ.step (E' := [(32, _)])
    case ho => rfl
    case hs => exact ⟨rfl, trivial⟩
    case hk => rfl
    case h1 =>
      intro wq_15 kq_15
      refine WL.move rfl rfl (?_)
      refine WL.nil ?_
      exact WX.one ⟨rfl, by first | exact Chg.refl _ _ | assumption⟩
    apply DQ.step (E' := [(6, _), (33, _)])
    case ho => rfl
    case hs => exact ⟨rfl, rfl, trivial⟩
    case hk => rfl
    case h1 =>
      intro wq_16 kq_16
      refine WL.pass rfl rfl rfl rfl (WL.nil (?_))
      exact WX.one ⟨rfl, by first | exact Chg.refl _ _ | assumption⟩
    apply DQ.step (E' := [(34, _), (33, _)])
    case ho => rfl
    case hs => exact ⟨rfl, rfl, trivial⟩
    case hk => rfl
    case h1 =>
      intro wq_17 kq_17
      refine WL.pass rfl rfl rfl rfl (WL.nil (?_))
      exact WX.one ⟨rfl, by first | exact Chg.refl _ _ | assumption⟩
    apply DQ.step (E' := [(33, _), (35, _)])
    case ho => rfl
    case hs => exact ⟨rfl, rfl, trivial⟩
    case hk => rfl
    case h1 =>
      intro wq_18 kq_18
      refine WL.pickF rfl rfl rfl (?_)
      refine WL.nil ?_
      exact WX.one ⟨rfl, by first | exact Chg.refl _ _ | assumption⟩
    apply DQ.step (E' := [(36, _)])
    case ho => rfl
    case hs => exact ⟨rfl, trivial⟩
    case hk => rfl
    case h1 =>
      intro wq_19 kq_19
      refine WL.move rfl rfl (?_)
      refine WL.nil ?_
      exact WX.one ⟨rfl, by first | exact Chg.refl _ _ | assumption⟩
    apply DQ.step (E' := [(5, _), (37, _)])
    case ho => rfl
    case hs => exact ⟨rfl, rfl, trivial⟩
    case hk => rfl
    case h1 =>
      intro wq_20 kq_20
      have zs_kq_20 := kq_20.size
      replace hw := hw.pure kq_20
      replace hb_1 := hb_1.pure kq_20
      refine WL.pass rfl rfl rfl rfl (WL.nil (?_))
      exact WX.one ⟨rfl, by first | exact Chg.refl _ _ | assumption⟩
    refine DQ.done (fun hd_4 => ?_)
    refine DL.step [(37, _)] rfl ⟨rfl, trivial⟩ rfl (fun wq_21 kq_21 => ?_)
    have zs_kq_21 := kq_21.size
    replace hw := hw.pure kq_21
    replace hb_1 := hb_1.pure kq_21
    replace hd_4 := hd_4.pure kq_21
    refine WL.pass rfl rfl rfl rfl (WL.nil (?_))
    refine WX.one ⟨hd_4, ?_⟩
    refine DL.step [(39, _), (37, _)] rfl ⟨rfl, rfl, trivial⟩ rfl (fun wq_22 kq_22 => ?_)
    have zs_kq_22 := kq_22.size
    replace hw := hw.pure kq_22
    replace hb_1 := hb_1.pure kq_22
    replace hd_4 := hd_4.pure kq_22
    refine WL.pass rfl rfl rfl rfl (WL.nil (?_))
    refine WX.one ⟨hd_4, ?_⟩
    refine DL.step [(38, _), (40, _), (37, _)] rfl ⟨rfl, rfl, rfl, trivial⟩ rfl (fun wq_23 kq_23 => ?_)
    have zs_kq_23 := kq_23.size
    replace hw := hw.pure kq_23
    replace hb_1 := hb_1.pure kq_23
    replace hd_4 := hd_4.pure kq_23
    refine WL.pass rfl rfl rfl rfl (WL.nil (?_))
    refine WX.one ⟨hd_4, ?_⟩
    refine DL.step [(37, _), (41, _)] rfl ⟨rfl, rfl, trivial⟩ rfl (fun wq_24 kq_24 => ?_)
    have zs_kq_24 := kq_24.size
    replace hw := hw.pure kq_24
    replace hb_1 := hb_1.pure kq_24
    replace hd_4 := hd_4.pure kq_24
    refine WL.pickF rfl rfl rfl (?_)
    refine WL.nil ?_
    refine WX.one ⟨hd_4, ?_⟩
    refine DL.step [(42, _)] rfl ⟨rfl, trivial⟩ rfl (fun wq_25 kq_25 => ?_)
    have zs_kq_25 := kq_25.size
    replace hw := hw.pure kq_25
    replace hb_1 := hb_1.pure kq_25
    replace hd_4 := hd_4.pure kq_25
    refine WL.assign rfl rfl (?_)
    refine WL.nil ?_
    refine WX.one ⟨hd_4, ?_⟩
    refine DL.done (fun we_26 ke_26 => ?_)
    have zs_ke_26 := ke_26.size
    replace hw := hw.pure ke_26
    replace hb_1 := hb_1.pure ke_26
    replace hd_4 := hd_4.pure ke_26
    refine WX.then_normal (WC.ret (?_))
    refine WX.ret1 (.inl rfl) Tryd.results8 rfl ?_
    first
      | exact ⟨_, rfl, rfl, hw⟩
      | (refine ⟨_, rfl, ?_, hw⟩
         exact congrArg Value.bool (decide_eq_true rfl))
      | (exfalso; omega)
end Go.Proofs.YtmkdkiaiicafgaaDoor
namespace Go.Proofs.YtmkdkiaiicafgaaDoor
open Go.RowKit Go.HL
set_option maxRecDepth 100000

/-! the slots of a drive -/
def slE (s : RA) (d : Int) : Int := if 8 < s.sn ∧ 0 ≤ d ∧ d < s.dn then errD s d else 1
def slL (s : RA) (d : Int) : List Int := if slE s d = 0 then (wholeL s d).map (·.t) else []
set_option maxHeartbeats 2000000 in
theorem slots_calls {A : Nat → Prop} {w : World} {R : Nat} {s : RA} (h : RK A w R s) (d : Int) :
    Calls Tryd.prog 12 [ptr R, vi d].toArray w (Ret fun v w' => (∃ (ao : Option Addr) (c : Nat), v = .tuple #[.slice ao (slL s d).length c, vi (slE s d)] ∧ Row (w.heap.size ≤ ·) w' 3 ei ao c (slL s d)) ∧ Chg Nob w w') := by
  have hw := Chg.refl Nob w
  have hdn := h.ok.dn
  replace h : RK (fun x => x < w.heap.size) w R s := h.old.mono (fun x hx => hx.2)
  refine Calls.of_WC Tryd.func12 rfl Tryd.ntmps12 (by simp) ?_
  refine WC.seq (WC.region (WL.assign rfl rfl (WL.assign rfl rfl (WL.nil (WX.then_normal (WC.seq (WC.seq (?_))))))))
  refine WC.region (WL.move rfl rfl (?_))
  refine WL.call eg_23 rfl rfl (right_calls h) ?_
  rintro v w1 ⟨rfl, k1⟩
  have zs_k1 := k1.size
  replace h := h.pure k1
  replace hw := hw.pure k1
  by_cases h12 : 8 < s.sn
  ·
    rw [decide_eq_true h12]
    refine WL.not rfl rfl (WL.move rfl rfl (WL.want rfl rfl rfl (WL.move rfl rfl (WL.want rfl rfl rfl (?_)))))
    refine WL.lss? rfl rfl rfl (fun h16 => ?_) (fun h16 => ?_)
    ·
      refine WL.pickF rfl rfl rfl (WL.move rfl rfl (WL.pass rfl rfl rfl rfl (WL.pass rfl rfl rfl rfl (WL.pass rfl rfl rfl rfl (WL.pass rfl rfl rfl rfl (WL.pickT rfl rfl rfl (WL.nil (?_))))))))
      refine WX.then_normal (WC.cond_true rfl (WC.seq (WC.region (WL.assign rfl rfl (WL.assign rfl rfl (WL.nil (WX.then_normal (?_))))))))
      refine WC.ret (WX.then_ret (?_))
      refine WX.ret2 (.inl rfl) Tryd.results12 rfl rfl ?_
      first
        | (have hz : 0 ≤ d ∧ d < (s.dn : Int) := hsd
           have e1 : slE s d = errD s d := by rw [slE, if_pos ⟨h12, hz.1, hz.2⟩]
           first
             | (have hz2 : errD s d = 0 := h31
                have hjl : j = L.length := by omega
                have e2 : slL s d = (L.take j).map (·.t) := by rw [slL, if_pos (e1.trans hz2), hjl, List.take_length, eL]
                rw [e1, e2, hz2]
                exact ⟨_, rfl, ⟨a8, c8, rfl, h8.mono (fun x hx => by omega)⟩, hw⟩)
             | (have hz2 : errD s d ≠ 0 := h31
                have e2 : slL s d = [] := by rw [slL, if_neg (by rw [e1]; exact hz2)]
                rw [e1, e2]
                exact ⟨_, rfl, ⟨none, 0, rfl, Row.nil _ _ _ _⟩, hw⟩))
        | (have e1 : slE s d = 1 := by
             rw [slE, if_neg]
             rintro ⟨g1, g2, g3⟩
             first
               | omega
               | exact h12 g1
           have e2 : slL s d = [] := by rw [slL, if_neg (by rw [e1]; decide)]
           rw [e1, e2]
           exact ⟨_, rfl, ⟨none, 0, rfl, Row.nil _ _ _ _⟩, hw⟩)
    ·
      refine WL.pickF rfl rfl rfl (WL.move rfl rfl (WL.want rfl rfl rfl (WL.move rfl rfl (WL.want rfl rfl rfl (WL.move rfl rfl (WL.want rfl rfl rfl (?_)))))))
      refine WL.call eg_24 rfl rfl (Drives_calls h) ?_
      rintro v w4 ⟨rfl, k4⟩
      have zs_k4 := k4.size
      replace h := h.pure k4
      replace hw := hw.pure k4
      refine WL.want rfl rfl rfl (?_)
      refine WL.geq? rfl rfl rfl (fun h22 => ?_) (fun h22 => ?_)
      ·
        refine WL.pickF rfl rfl rfl (WL.nil (WX.then_normal (WC.cond_true rfl (WC.seq (WC.region (WL.assign rfl rfl (WL.assign rfl rfl (?_))))))))
        refine WL.nil (WX.then_normal (WC.ret (WX.then_ret (?_))))
        refine WX.ret2 (.inl rfl) Tryd.results12 rfl rfl ?_
        first
          | (have hz : 0 ≤ d ∧ d < (s.dn : Int) := hsd
             have e1 : slE s d = errD s d := by rw [slE, if_pos ⟨h12, hz.1, hz.2⟩]
             first
               | (have hz2 : errD s d = 0 := h31
                  have hjl : j = L.length := by omega
                  have e2 : slL s d = (L.take j).map (·.t) := by rw [slL, if_pos (e1.trans hz2), hjl, List.take_length, eL]
                  rw [e1, e2, hz2]
                  exact ⟨_, rfl, ⟨a8, c8, rfl, h8.mono (fun x hx => by omega)⟩, hw⟩)
               | (have hz2 : errD s d ≠ 0 := h31
                  have e2 : slL s d = [] := by rw [slL, if_neg (by rw [e1]; exact hz2)]
                  rw [e1, e2]
                  exact ⟨_, rfl, ⟨none, 0, rfl, Row.nil _ _ _ _⟩, hw⟩))
          | (have e1 : slE s d = 1 := by
               rw [slE, if_neg]
               rintro ⟨g1, g2, g3⟩
               first
                 | omega
                 | exact h12 g1
             have e2 : slL s d = [] := by rw [slL, if_neg (by rw [e1]; decide)]
             rw [e1, e2]
             exact ⟨_, rfl, ⟨none, 0, rfl, Row.nil _ _ _ _⟩, hw⟩)
      ·
        refine WL.pickF rfl rfl rfl (WL.nil (WX.then_normal (WC.cond_false rfl (WC.skip (WX.then_normal (WC.seq (WC.region (?_))))))))
        refine WL.move rfl rfl (WL.move rfl rfl (?_))
        have hsd : isS s d := ⟨by omega, by omega⟩
        refine WL.call eg_26 rfl rfl (whole_calls h hsd h12) ?_
        rintro v w5 ⟨⟨ao, c, rfl, hq⟩, k5⟩
        obtain ⟨L, eL⟩ : ∃ L, L = wholeL s d := ⟨_, rfl⟩
        have hLl : L.length ≤ 8 := by rw [eL, wholeL]; split; rw [outK_len]; omega; simp
        rw [← eL] at hq ⊢
        have zs_k5 := k5.size
        replace h := h.pure k5
        replace hw := hw.pure k5
        replace hq := hq.lt
        refine WL.move rfl rfl (WL.extract rfl rfl rfl (WL.extract rfl rfl rfl (WL.assign rfl rfl (WL.assign rfl rfl (WL.nil (WX.then_normal (WC.seq (?_))))))))
        refine WC.seq (WC.region (WL.move rfl rfl (?_)))
        refine WL.neq? rfl rfl rfl (fun h31 => ?_) (fun h31 => ?_)
        ·
          refine WL.nil (WX.then_normal (WC.cond_true rfl (WC.seq (WC.region (WL.move rfl rfl (WL.assign rfl rfl (WL.assign rfl rfl (?_))))))))
          refine WL.nil (WX.then_normal (WC.ret (WX.then_ret (?_))))
          refine WX.ret2 (.inl rfl) Tryd.results12 rfl rfl ?_
          first
            | (have hz : 0 ≤ d ∧ d < (s.dn : Int) := hsd
               have e1 : slE s d = errD s d := by rw [slE, if_pos ⟨h12, hz.1, hz.2⟩]
               first
                 | (have hz2 : errD s d = 0 := h31
                    have hjl : j = L.length := by omega
                    have e2 : slL s d = (L.take j).map (·.t) := by rw [slL, if_pos (e1.trans hz2), hjl, List.take_length, eL]
                    rw [e1, e2, hz2]
                    exact ⟨_, rfl, ⟨a8, c8, rfl, h8.mono (fun x hx => by omega)⟩, hw⟩)
                 | (have hz2 : errD s d ≠ 0 := h31
                    have e2 : slL s d = [] := by rw [slL, if_neg (by rw [e1]; exact hz2)]
                    rw [e1, e2]
                    exact ⟨_, rfl, ⟨none, 0, rfl, Row.nil _ _ _ _⟩, hw⟩))
            | (have e1 : slE s d = 1 := by
                 rw [slE, if_neg]
                 rintro ⟨g1, g2, g3⟩
                 first
                   | omega
                   | exact h12 g1
               have e2 : slL s d = [] := by rw [slL, if_neg (by rw [e1]; decide)]
               rw [e1, e2]
               exact ⟨_, rfl, ⟨none, 0, rfl, Row.nil _ _ _ _⟩, hw⟩)
        ·
          refine WL.nil (WX.then_normal (WC.cond_false rfl (WC.skip (WX.then_normal (WC.seq (WC.region (WL.assign rfl rfl (?_))))))))
          refine WL.nil (WX.then_normal (WC.seq (WC.seq (WC.region (WL.move rfl rfl (WL.len Tryd.underlying66 rfl rfl (WL.move rfl rfl (?_))))))))
          refine WL.nil (WX.then_normal (WC.block (?_)))
          obtain ⟨n5, en5⟩ : ∃ n5, n5 = w5.heap.size := ⟨_, rfl⟩
          refine WC.loop (σ := Nat × Option Addr × Nat) (fun q => [(0, ptr R), (1, vi d), (8, .slice q.2.1 ((L.take q.1).map (·.t)).length q.2.2), (33, .slice ao L.length c), (34, vi (L.length : Int)), (35, vi (q.1 : Int))])
            (fun q w' => q.1 ≤ L.length ∧ Row (fun x => w.heap.size ≤ x ∧ x < n5) w' 34 eub ao c L ∧ n5 ≤ w'.heap.size ∧ Row (fun x => n5 ≤ x) w' 3 ei q.2.1 q.2.2 ((L.take q.1).map (·.t)) ∧ Chg Nob w w') (fun q => L.length - q.1) (0, none, 0) ⟨rfl, rfl, rfl, rfl, rfl, rfl, trivial⟩
            ⟨Nat.zero_le _, hq.mono (fun x hx => by omega), by omega, Row.nil _ _ _ _, hw⟩ ?_
          clear hq h hw
          rintro ⟨j, a8, c8⟩ w6 ⟨hj, hq, hn5, h8, hw⟩
          dsimp only at hj hq hn5 h8 hw ⊢
          replace h8 := h8.lt
          have hml : ((L.take j).map (·.t)).length = j := by rw [List.length_map, List.length_take]; omega
          refine WC.seq (WC.region (?_))
          refine WL.lss? rfl rfl rfl (fun h36 => ?_) (fun h36 => ?_)
          ·
            refine WL.nil (WX.then_normal (WC.seq (WC.cond_true rfl (WC.skip (WX.then_normal (WC.seq (WC.block (?_))))))))
            refine WC.seq (WC.region (?_))
            obtain ⟨u, hu⟩ : ∃ u, L[j]? = some u := ⟨_, List.getElem?_eq_getElem (by omega)⟩
            refine WL.indexT Tryd.underlying66 Tryd.sizeOf34 hq.rsl rfl rfl ⟨hu, rfl⟩ rfl ?_
            intro b_1 o_1 hc_1
            refine WL.loads _ Tryd.isAgg34 Tryd.sizeOf34 rfl hc_1 rfl rfl (?_)
            refine WL.alloc Tryd.zeroValue34 rfl ?_
            intro g_2 w_2 hge_2 hlt_2 hb_2 k_2
            have zs_k_2 := k_2.size
            replace hq := hq.pure k_2
            replace h8 := h8.pure k_2
            replace hw := hw.pure k_2
            refine WL.stores Tryd.sizeOf34 hb_2 rfl rfl (by first | (simp; done) | (simp; omega) | rfl) (by first | exact Enc.one _ _ | (intro u hu; obtain ⟨x, _, rfl⟩ := List.mem_map.1 hu; rfl) | (simp [Value.oneCell']; done) | (simp [Value.oneCell', Value.cells]; done)) (by first | (simp; done) | (simp; omega) | (simp [Value.cells]; done) | (simp [Value.cells]; omega) | exact Nat.le_of_ble_eq_true rfl) rfl ?_
            intro w_3 hs_3 hn_3 k_3
            have zs_k_3 := k_3.size
            replace hq := hq.chg k_3 (by first | (intro x h1 h2; exact h2) | (intro x h0 h1 h2; exact hS x h1 h2) | (intro x h0 h1 h2; have h3 : _ = _ := h2; subst h3; exact hSR h1.1) | (intro x h1 h2; have h3 : _ = _ := h2; subst h3; assumption) | (intro x h1 h2; have h3 : _ = _ := h2; exfalso; omega) | (intro b h1 h2 h3; have h4 : _ = _ := h3; (try dsimp only at h2); exfalso; omega) | (intro h1; have h2 : _ = _ := h1; exfalso; omega) | (intro h1; have h2 : _ ≤ _ := h1; exfalso; omega) | (intros; exfalso; (try dsimp only at *); omega) | (intro b h1 h2 h3; exfalso; have h4 := h3.2; (try dsimp only at *); omega) | (intro h1; exfalso; have h4 := h1.2; (try dsimp only at *); omega) | (intro x h1 h2; exfalso; have h4 := h2.2; (try dsimp only at *); omega) | (intro x h1 h2; exact ⟨_, rfl, h2⟩) | (intro x h1 h2; have h4 := h2.1; have h5 := h2.2; exfalso; omega) | (intro x h1 h2; exact h2.1) | (intro x h1 h2; rcases h2.1 with h3 | h3; exact h3; exfalso; omega) | (intro x h1 h2; rcases h2 with h3 | h3; exact h3; exfalso; omega))
            replace h8 := h8.chg k_3 (by first | (intro x h1 h2; exact h2) | (intro x h0 h1 h2; exact hS x h1 h2) | (intro x h0 h1 h2; have h3 : _ = _ := h2; subst h3; exact hSR h1.1) | (intro x h1 h2; have h3 : _ = _ := h2; subst h3; assumption) | (intro x h1 h2; have h3 : _ = _ := h2; exfalso; omega) | (intro b h1 h2 h3; have h4 : _ = _ := h3; (try dsimp only at h2); exfalso; omega) | (intro h1; have h2 : _ = _ := h1; exfalso; omega) | (intro h1; have h2 : _ ≤ _ := h1; exfalso; omega) | (intros; exfalso; (try dsimp only at *); omega) | (intro b h1 h2 h3; exfalso; have h4 := h3.2; (try dsimp only at *); omega) | (intro h1; exfalso; have h4 := h1.2; (try dsimp only at *); omega) | (intro x h1 h2; exfalso; have h4 := h2.2; (try dsimp only at *); omega) | (intro x h1 h2; exact ⟨_, rfl, h2⟩) | (intro x h1 h2; have h4 := h2.1; have h5 := h2.2; exfalso; omega) | (intro x h1 h2; exact h2.1) | (intro x h1 h2; rcases h2.1 with h3 | h3; exact h3; exfalso; omega) | (intro x h1 h2; rcases h2 with h3 | h3; exact h3; exfalso; omega))
            replace hw := hw.chg k_3 (by first | (intro x h1 h2; exact h2) | (intro x h0 h1 h2; exact hS x h1 h2) | (intro x h0 h1 h2; have h3 : _ = _ := h2; subst h3; exact hSR h1.1) | (intro x h1 h2; have h3 : _ = _ := h2; subst h3; assumption) | (intro x h1 h2; have h3 : _ = _ := h2; exfalso; omega) | (intro b h1 h2 h3; have h4 : _ = _ := h3; (try dsimp only at h2); exfalso; omega) | (intro h1; have h2 : _ = _ := h1; exfalso; omega) | (intro h1; have h2 : _ ≤ _ := h1; exfalso; omega) | (intros; exfalso; (try dsimp only at *); omega) | (intro b h1 h2 h3; exfalso; have h4 := h3.2; (try dsimp only at *); omega) | (intro h1; exfalso; have h4 := h1.2; (try dsimp only at *); omega) | (intro x h1 h2; exfalso; have h4 := h2.2; (try dsimp only at *); omega) | (intro x h1 h2; exact ⟨_, rfl, h2⟩) | (intro x h1 h2; have h4 := h2.1; have h5 := h2.2; exfalso; omega) | (intro x h1 h2; exact h2.1) | (intro x h1 h2; rcases h2.1 with h3 | h3; exact h3; exfalso; omega) | (intro x h1 h2; rcases h2 with h3 | h3; exact h3; exfalso; omega))
            replace hb_2 := hn_3
            refine WL.nil (WX.then_normal (WC.region (WL.move rfl rfl (WL.fieldAddr (fld_34_0) rfl rfl (?_)))))
            have hb9 := Blk.eqc (cs' := eub.f u) hb_2 rfl
            refine WL.loadB Tryd.isAgg3 hb9 rfl rfl rfl ?_
            refine WL.build (e := ei) [u.t] Tryd.underlying35 Tryd.sizeOf3 Tryd.zeroValue3 rfl rfl rfl (by first | (simp [Value.cells]; done) | (simp [Value.cells] <;> rfl) | (simp [Value.cells, eb, ei, es, ebool, e32, e64]; done)) (by decide) rfl ?_
            intro a_hn w_hn hn l_hn z_hn k_hn
            have zs_k_hn := k_hn.size
            replace hq := hq.pure k_hn
            replace h8 := h8.pure k_hn
            replace hw := hw.pure k_hn
            replace h8 := h8.mono (S' := fun x => n5 ≤ x) (fun x hx => hx.1)
            refine WL.append (e := ei) info_3 rfl Tryd.underlying35 rfl rfl h8 (hn.rsl.src Tryd.underlying35) (by (try simp only [List.length_append, List.length_cons, List.length_nil] at *); omega) (by intro b hb; first | (apply hS; omega) | ((try dsimp only); omega)) rfl ?_
            intro a_hq9 c_hq9 w_hq9 hq9 g_hq9 n_hq9
            have z_hq9 := g_hq9.chg.size
            have zs_g_hq9_chg := g_hq9.chg.size
            replace hq := hq.chg g_hq9.chg (by first | (intro x h1 h2; exact h2) | (intro x h0 h1 h2; exact hS x h1 h2) | (intro x h0 h1 h2; have h3 : _ = _ := h2; subst h3; exact hSR h1.1) | (intro x h1 h2; have h3 : _ = _ := h2; subst h3; assumption) | (intro x h1 h2; have h3 : _ = _ := h2; exfalso; omega) | (intro b h1 h2 h3; have h4 : _ = _ := h3; (try dsimp only at h2); exfalso; omega) | (intro h1; have h2 : _ = _ := h1; exfalso; omega) | (intro h1; have h2 : _ ≤ _ := h1; exfalso; omega) | (intros; exfalso; (try dsimp only at *); omega) | (intro b h1 h2 h3; exfalso; have h4 := h3.2; (try dsimp only at *); omega) | (intro h1; exfalso; have h4 := h1.2; (try dsimp only at *); omega) | (intro x h1 h2; exfalso; have h4 := h2.2; (try dsimp only at *); omega) | (intro x h1 h2; exact ⟨_, rfl, h2⟩) | (intro x h1 h2; have h4 := h2.1; have h5 := h2.2; exfalso; omega) | (intro x h1 h2; exact h2.1) | (intro x h1 h2; rcases h2.1 with h3 | h3; exact h3; exfalso; omega) | (intro x h1 h2; rcases h2 with h3 | h3; exact h3; exfalso; omega))
            replace hw := hw.chg g_hq9.chg (by first | (intro x h1 h2; exact h2) | (intro x h0 h1 h2; exact hS x h1 h2) | (intro x h0 h1 h2; have h3 : _ = _ := h2; subst h3; exact hSR h1.1) | (intro x h1 h2; have h3 : _ = _ := h2; subst h3; assumption) | (intro x h1 h2; have h3 : _ = _ := h2; exfalso; omega) | (intro b h1 h2 h3; have h4 : _ = _ := h3; (try dsimp only at h2); exfalso; omega) | (intro h1; have h2 : _ = _ := h1; exfalso; omega) | (intro h1; have h2 : _ ≤ _ := h1; exfalso; omega) | (intros; exfalso; (try dsimp only at *); omega) | (intro b h1 h2 h3; exfalso; have h4 := h3.2; (try dsimp only at *); omega) | (intro h1; exfalso; have h4 := h1.2; (try dsimp only at *); omega) | (intro x h1 h2; exfalso; have h4 := h2.2; (try dsimp only at *); omega) | (intro x h1 h2; exact ⟨_, rfl, h2⟩) | (intro x h1 h2; have h4 := h2.1; have h5 := h2.2; exfalso; omega) | (intro x h1 h2; exact h2.1) | (intro x h1 h2; rcases h2.1 with h3 | h3; exact h3; exfalso; omega) | (intro x h1 h2; rcases h2 with h3 | h3; exact h3; exfalso; omega))
            refine WL.assign rfl rfl (WL.nil (WX.block_normal (WX.then_normal (WC.region (WL.add64 rfl rfl (by first | omega | (constructor <;> omega)) rfl (WL.move rfl rfl (WL.nil (?_))))))))
            have e1 : (L.take (j + 1)).map (·.t) = (L.take j).map (·.t) ++ [u.t] := by
              rw [List.take_add_one, hu, List.map_append]
              rfl
            refine WX.loop_next (j + 1, a_hq9, c_hq9) ⟨rfl, rfl, ?_, rfl, rfl, rfl, trivial⟩ ⟨by dsimp only; omega, hq, by omega, ?_, hw⟩ (by show _ - _ < _ - _; omega)
            ·
              dsimp only; rw [e1]; rfl
            ·
              dsimp only; rw [e1]; exact hq9
          ·
            refine WL.nil (WX.then_normal (WC.seq (WC.cond_false rfl (WC.exit (WX.then_exit (WX.then_exit (WX.block_here (?_))))))))
            refine WX.then_normal (WC.seq (WC.region (WL.move rfl rfl (WL.assign rfl rfl (WL.assign rfl rfl (WL.nil (WX.then_normal (?_))))))))
            refine WC.ret (?_)
            refine WX.ret2 (.inl rfl) Tryd.results12 rfl rfl ?_
            first
              | (have hz : 0 ≤ d ∧ d < (s.dn : Int) := hsd
                 have e1 : slE s d = errD s d := by rw [slE, if_pos ⟨h12, hz.1, hz.2⟩]
                 first
                   | (have hz2 : errD s d = 0 := h31
                      have hjl : j = L.length := by omega
                      have e2 : slL s d = (L.take j).map (·.t) := by rw [slL, if_pos (e1.trans hz2), hjl, List.take_length, eL]
                      rw [e1, e2, hz2]
                      exact ⟨_, rfl, ⟨a8, c8, rfl, h8.mono (fun x hx => by omega)⟩, hw⟩)
                   | (have hz2 : errD s d ≠ 0 := h31
                      have e2 : slL s d = [] := by rw [slL, if_neg (by rw [e1]; exact hz2)]
                      rw [e1, e2]
                      exact ⟨_, rfl, ⟨none, 0, rfl, Row.nil _ _ _ _⟩, hw⟩))
              | (have e1 : slE s d = 1 := by
                   rw [slE, if_neg]
                   rintro ⟨g1, g2, g3⟩
                   first
                     | omega
                     | exact h12 g1
                 have e2 : slL s d = [] := by rw [slL, if_neg (by rw [e1]; decide)]
                 rw [e1, e2]
                 exact ⟨_, rfl, ⟨none, 0, rfl, Row.nil _ _ _ _⟩, hw⟩)
  ·
    rw [decide_eq_false h12]
    refine WL.not rfl rfl (WL.move rfl rfl (WL.pass rfl rfl rfl rfl (WL.pass rfl rfl rfl rfl (WL.pickT rfl rfl rfl (WL.move rfl rfl (WL.pass rfl rfl rfl rfl (WL.pass rfl rfl rfl rfl (?_))))))))
    refine WL.pass rfl rfl rfl rfl (WL.pass rfl rfl rfl rfl (WL.pickT rfl rfl rfl (WL.nil (WX.then_normal (WC.cond_true rfl (WC.seq (WC.region (?_))))))))
    refine WL.assign rfl rfl (WL.assign rfl rfl (WL.nil (WX.then_normal (WC.ret (WX.then_ret (?_))))))
    refine WX.ret2 (.inl rfl) Tryd.results12 rfl rfl ?_
    first
      | (have hz : 0 ≤ d ∧ d < (s.dn : Int) := hsd
         have e1 : slE s d = errD s d := by rw [slE, if_pos ⟨h12, hz.1, hz.2⟩]
         first
           | (have hz2 : errD s d = 0 := h31
              have hjl : j = L.length := by omega
              have e2 : slL s d = (L.take j).map (·.t) := by rw [slL, if_pos (e1.trans hz2), hjl, List.take_length, eL]
              rw [e1, e2, hz2]
              exact ⟨_, rfl, ⟨a8, c8, rfl, h8.mono (fun x hx => by omega)⟩, hw⟩)
           | (have hz2 : errD s d ≠ 0 := h31
              have e2 : slL s d = [] := by rw [slL, if_neg (by rw [e1]; exact hz2)]
              rw [e1, e2]
              exact ⟨_, rfl, ⟨none, 0, rfl, Row.nil _ _ _ _⟩, hw⟩))
      | (have e1 : slE s d = 1 := by
           rw [slE, if_neg]
           rintro ⟨g1, g2, g3⟩
           first
             | omega
             | exact h12 g1
         have e2 : slL s d = [] := by rw [slL, if_neg (by rw [e1]; decide)]
         rw [e1, e2]
         exact ⟨_, rfl, ⟨none, 0, rfl, Row.nil _ _ _ _⟩, hw⟩)
end Go.Proofs.YtmkdkiaiicafgaaDoor
namespace Go.Proofs.YtmkdkiaiicafgaaDoor
open Go.RowKit Go.HL
set_option maxRecDepth 100000

/-! a drive that is lost, one that is replaced -/
theorem loseS_gone {s : RA} (h : s.ok) {d : Int} (hd : isS s d) (b : Bool) {x : Int} (hx : 0 ≤ x) : goneS (loseS s d b) x = if x = d then b else goneS s x := by
  have h1 := hd.1
  have h2 := hd.2
  have hl : d.toNat < s.gone.length := by rw [h.gl]; omega
  rw [goneS, show (loseS s d b).gone = s.gone.set d.toNat b from rfl, List.getD_eq_getElem?_getD, List.getElem?_set, goneS, List.getD_eq_getElem?_getD]
  by_cases e : x = d
  · subst e
    simp [hl]
  · have : ¬ d.toNat = x.toNat := by omega
    simp [e, this]
theorem LoseU {A : Nat → Prop} {w : World} {R : Nat} {s : RA} (h : RK A w R s) {d : Int} (hd : isS s d) :
    Calls Tryd.prog 21 [ptr R, vi d].toArray w (Ret fun v w' => v = vi 0 ∧ RK A w' R (loseS s d true) ∧ Chg A w w') := by
  refine (Lose_calls h d).mono ?_
  rintro e w' ⟨v, rfl, rfl, hR, k⟩
  rw [if_pos hd] at hR
  exact ⟨_, rfl, by rw [if_pos hd], hR, k⟩
/-! behind Arm -/
structure Arms (n i : Nat) (s : RA) : Prop where
  dn : s.dn = 3
  sn : s.sn = 4
  g0 : goneS s 0 = false
  g1 : goneS s 1 = true
  g2 : goneS s 2 = false
  armed : s.armed = true
  off : offS s = decide (n ≤ i)
  left : i < n → s.left = (n : Int) - i ∧ s.off = false
  len : s.waits.length ≤ i
theorem Arms.step {n i : Nat} {s t : RA} (h : Arms n i s) (e1 : t.dn = s.dn) (e2 : t.sn = s.sn) (e3 : t.gone = s.gone) (e4 : t.armed = (spendS s).armed) (e5 : t.off = (spendS s).off) (e6 : t.left = (spendS s).left) (hl : t.waits.length ≤ i + 1) : Arms n (i + 1) t := by
  have hg : ∀ d, goneS t d = goneS s d := fun d => by rw [goneS, goneS, e3]
  have h1 := h.armed
  have h2 := h.off
  have h3 : (spendS s).armed = true := by unfold spendS; split <;> exact h1
  by_cases hi : i < n
  · obtain ⟨h4, h5⟩ := h.left hi
    have h6 : offS s = false := by rw [h2]; simp; omega
    have h7 : spendS s = { s with left := s.left - 1 } := by
      unfold spendS
      rw [h6, h1]
      rfl
    rw [h7] at e4 e5 e6
    have e5' : t.off = false := e5.trans h5
    have e6' : t.left = (n : Int) - i - 1 := e6.trans (by show s.left - 1 = _; rw [h4])
    refine ⟨e1.trans h.dn, e2.trans h.sn, (hg 0).trans h.g0, (hg 1).trans h.g1, (hg 2).trans h.g2, e4.trans h1, ?_, fun h8 => ⟨?_, e5'⟩, hl⟩
    · unfold offS
      rw [e5', e4.trans h1, e6']
      simp
      omega
    · rw [e6']
      omega
  · have h6 : offS s = true := by rw [h2]; simp; omega
    have h7 : spendS s = { s with off := true } := by
      unfold spendS
      rw [h6]
      rfl
    rw [h7] at e4 e5
    refine ⟨e1.trans h.dn, e2.trans h.sn, (hg 0).trans h.g0, (hg 1).trans h.g1, (hg 2).trans h.g2, e4.trans h1, ?_, fun h8 => by omega, hl⟩
    unfold offS
    rw [show t.off = true from e5]
    simp
    omega
theorem Arms.flush {n i : Nat} {s : RA} (h : Arms n i s) : Arms n (i + 1) (flushS s) := by
  have hl := h.len
  unfold flushS
  split
  · exact h.step (spendS_dn s) (spendS_sn s) (spendS_gone s) rfl rfl rfl (by rw [spendS_waits]; omega)
  · exact h.step (spendS_dn s) (spendS_sn s) (spendS_gone s) rfl rfl rfl (Nat.zero_le _)
theorem Arms.write {n i : Nat} {s : RA} (h : Arms n i s) {d a : Int} {b : List UInt8} (hi : inS s d a) (hg : goneS s d = false) (hb : b.length = 128) : Arms n (i + 1) (writeS s d a b) ∧ writeE s d a b.length = (if offS s = true then 16 else 0) := by
  have hl := h.len
  have he : writeE s d a b.length = (if offS s = true then 16 else 0) := by
    rw [hb]
    simp [writeE, hi, hg]
  refine ⟨?_, he⟩
  unfold writeS
  rw [he]
  by_cases ho : offS s = true
  · rw [if_pos ho, if_neg (by decide), if_pos rfl]
    exact h.step (spendS_dn s) (spendS_sn s) (spendS_gone s) rfl rfl rfl (by rw [spendS_waits]; omega)
  · rw [if_neg ho, if_pos rfl]
    exact h.step (spendS_dn s) (spendS_sn s) (spendS_gone s) rfl rfl rfl (by
      show (s.waits ++ [_]).length ≤ _
      rw [List.length_append]
      simpa using hl)
end Go.Proofs.YtmkdkiaiicafgaaDoor
namespace Go.Proofs.YtmkdkiaiicafgaaDoor
open Go.RowKit Go.HL
set_option maxRecDepth 100000

theorem loseS_up {s : RA} (h : Up s) (d : Int) (b : Bool) : Up (loseS s d b) := ⟨h.off, h.armed⟩
/-- what is wanted of a sector -/
def wantV (B : Int → List UInt8) (v : Int) : List UInt8 := if 0 < v then B (v - 1) else zeros
/-- the last write to each of forty sectors: one more of it, or nought -/
structure Lasts (B : Int → List UInt8) (L : List Int) (s : RA) : Prop where
  dn : s.dn = 5
  sn : s.sn = 8
  up : Up s
  gone : ∀ d, goneS s d = false
  len : L.length = 40
  held : ∀ d a : Nat, d < 5 → a < 8 → heldS s ((d : Int), (a : Int)) = wantV B (L.getD (d * 8 + a) 0)
  val : ∀ j, 0 ≤ L.getD j 0 ∧ L.getD j 0 ≤ 100000
theorem Lasts.write {B : Int → List UInt8} {L : List Int} {s : RA} (h : Lasts B L s) {d a : Nat} (hd : d < 5) (ha : a < 8) {f : Int} (hf : 0 ≤ f ∧ f < 100000) : Lasts B (L.set (d * 8 + a) (1 + f)) (addS s ((d : Int), (a : Int)) (B f)) := by
  have hlen := h.len
  refine ⟨h.dn, h.sn, addS_up h.up _ _, h.gone, by rw [List.length_set, hlen], fun d2 a2 h2 h3 => ?_, fun j => ?_⟩
  · rw [addS_held, List.getD_eq_getElem?_getD, List.getElem?_set]
    by_cases e : d * 8 + a = d2 * 8 + a2
    · have e1 : d = d2 := by omega
      have e2 : a = a2 := by omega
      subst e1; subst e2
      rw [if_pos rfl, if_pos rfl, if_pos (by omega)]
      show B f = wantV B (1 + f)
      rw [wantV, if_pos (by omega), show 1 + f - 1 = f from by omega]
    · rw [if_neg (fun e2 => e (by injection e2 with e3 e4; have e3' : (d2 : Int) = d := e3; have e4' : (a2 : Int) = a := e4; omega)), if_neg e, h.held d2 a2 h2 h3, List.getD_eq_getElem?_getD]
  · rw [List.getD_eq_getElem?_getD, List.getElem?_set]
    split
    · split
      · show 0 ≤ 1 + f ∧ 1 + f ≤ 100000
        omega
      · show 0 ≤ (0 : Int) ∧ (0 : Int) ≤ 100000
        omega
    · rw [← List.getD_eq_getElem?_getD]
      exact h.val j
end Go.Proofs.YtmkdkiaiicafgaaDoor
namespace Go.Proofs.YtmkdkiaiicafgaaDoor
open Go.RowKit Go.HL
set_option maxRecDepth 100000

/-! drives that are lost -/
theorem newV_stay {V : Type} (d : Int) (q : Pl) (hq : q.1 ≠ d) : ∀ (n : Nat) (ws : List (Pl × V)), ws.length = n → newV (stay d ws) q = newV ws q
  | 0, ws, h => by
    have : ws = [] := List.eq_nil_of_length_eq_zero h
    subst this
    rfl
  | n + 1, ws, h => by
    obtain ⟨ws', x, rfl⟩ : ∃ ws' x, ws = ws' ++ [x] := by
      refine ⟨ws.dropLast, ws.getLast (by intro e; subst e; cases h), (List.dropLast_concat_getLast _).symm⟩
    have ih := newV_stay d q hq n ws' (by simpa using h)
    have e1 : stay d (ws' ++ [x]) = if x.1.1 = d then stay d ws' else stay d ws' ++ [x] := by
      unfold stay
      rw [List.filter_append]
      by_cases hx : x.1.1 = d <;> simp [hx]
    rw [e1, newV_snoc (b := x.2)]
    split
    · rename_i hx
      rw [ih, if_neg (fun e => hq (by rw [e, hx]))]
    · rw [newV_snoc (b := x.2), ih]
theorem lose_held (s : RA) {d : Int} {b : Bool} {q : Pl} (hq : q.1 ≠ d) : heldS (loseS s d b) q = heldS s q := by
  rw [heldS_eq, heldS_eq, show (loseS s d b).waits = stay d s.waits from rfl, newV_stay d q hq _ _ rfl]
  rfl
theorem lose_slot (s : RA) {d : Int} {b : Bool} {x : Int} (hx : x ≠ d) (a : Nat) : slotU (loseS s d b) x a = slotU s x a := by
  rw [slotU, slotU, lose_held s (q := (x, (a : Int))) hx]
theorem cntD_one {s : RA} {l : Nat} (h : ∀ d : Nat, d < s.dn → goneS s (d : Nat) = decide (d ≠ l)) (k : Nat) (hk : k ≤ s.dn) : cntD s k = if l < k then 1 else 0 := by
  induction k with
  | zero => rfl
  | succ k ih =>
    have ih := ih (by omega)
    rw [cntD, h k (by omega), ih]
    by_cases hl : k = l
    · subst hl
      simp
    · simp only [ne_eq, hl, not_false_eq_true, decide_true, if_true]
      split <;> split <;> omega
theorem cntD_none {s : RA} (h : ∀ d : Nat, d < s.dn → goneS s (d : Nat) = true) (k : Nat) (hk : k ≤ s.dn) : cntD s k = 0 := by
  induction k with
  | zero => rfl
  | succ k ih => rw [cntD, if_pos (h k (by omega)), ih (by omega)]
theorem newest_gone {s : RA} (h : Up s) (hs : 8 < s.sn) (hg : ∀ d : Nat, d < s.dn → goneS s (d : Nat) = true) : nwU s = zeroU ∧ nwE s = 7 := by
  have hb : bestR s s.dn = zeroU := best_none (fun d hd he => by
    exfalso
    rw [errD, if_pos (hg d hd)] at he
    cases he)
  obtain ⟨e1, e2⟩ := nw_none hs (downS_up h) (by rw [hb]; rfl)
  exact ⟨e2, e1⟩
end Go.Proofs.YtmkdkiaiicafgaaDoor
namespace Go.Proofs.YtmkdkiaiicafgaaDoor
open Go.RowKit Go.HL
set_option maxRecDepth 100000

/-- behind the loss of the first i drives but l -/
structure OneI (u : UbV) (l i : Nat) (s : RA) : Prop where
  dn : s.dn = 5
  sn : s.sn = 9
  up : Up s
  gone : ∀ d : Nat, d < 5 → goneS s (d : Nat) = decide (d < i ∧ d ≠ l)
  slot : ∀ a : Nat, slotU s (l : Nat) a = if (a : Int) = u.t % 8 then u else ⟨-1, zeroP⟩
  len : s.waits.length ≤ 100
theorem newest_one {s : RA} (h : Up s) (hs : 8 < s.sn) {u : UbV} (h0 : 0 < u.t) {l : Nat} (hl : l < s.dn) (hg : ∀ d : Nat, d < s.dn → goneS s (d : Nat) = decide (d ≠ l)) (hsl : ∀ a : Nat, slotU s (l : Nat) a = if (a : Int) = u.t % 8 then u else ⟨-1, zeroP⟩) : nwU s = u ∧ nwE s = 0 := by
  refine newest_is h hs h0 ⟨l, hl, by rw [hg l hl]; simp, (u.t % 8).toNat, by omega, ?_⟩ (fun d hd hgd a ha => ?_)
  · rw [hsl, if_pos (by omega)]
  · rw [hg d hd] at hgd
    have hdl : d = l := by simpa using hgd
    subst hdl
    rw [hsl]
    split
    · exact ⟨Int.le_refl _, fun _ => rfl⟩
    · exact ⟨by show (-1 : Int) ≤ _; omega, fun h9 => by have : (-1 : Int) = u.t := h9; omega⟩
set_option maxHeartbeats 4000000 in
theorem labelOne_calls {w : World} (x0 x1 : Int) :
    Calls Tryd.prog 6 [vi x0, vi x1].toArray w (Ret fun v w' => v = .bool true ∧ Chg Nob w w') := by
  have hw := Chg.refl Nob w
  obtain ⟨s0, sd, sn, u0, sg, sh, -, sw, hNew⟩ := new_all 5 9 (by decide) (by decide)
  have sw0 : s0.waits.length = 0 := by rw [sw]; rfl
  obtain ⟨l, hl⟩ : ∃ l, l = (B64 x0 % 5).toNat := ⟨_, rfl⟩
  have hl5 : l < 5 := by rw [hl, UInt64.toNat_mod]; exact Nat.mod_lt _ (by decide)
  obtain ⟨t0, ht0⟩ : ∃ t, t = (B64 x1 % 100000).toNat := ⟨_, rfl⟩
  have ht5 : t0 < 100000 := by rw [ht0, UInt64.toNat_mod]; exact Nat.mod_lt _ (by decide)
  obtain ⟨t, ht⟩ : ∃ t : Int, t = 1 + (t0 : Int) := ⟨_, rfl⟩
  have htr : 1 ≤ t ∧ t ≤ 100000 := by omega
  have hE1 : encE (ubV t t) = 0 := ubV_enc (by omega)
  have hW1 : WfU (ubV t t) := ubV_wf (by omega)
  have hE2 : encE (ubV (t + 1) 1) = 0 := ubV_enc (by omega)
  have hW2 : WfU (ubV (t + 1) 1) := ubV_wf (by omega)
  have hE3 : encE (ubV (t + 2) 1) = 0 := ubV_enc (by omega)
  have hW3 : WfU (ubV (t + 2) 1) := ubV_wf (by omega)
  refine Calls.of_WC Tryd.func6 rfl Tryd.ntmps6 (by simp) ?_
  refine WC.seq (WC.region (WL.assign rfl rfl (WL.nil (WX.then_normal (WC.seq (WC.seq (WC.region (?_))))))))
  refine WL.call eg_8 rfl rfl (known8_calls _) ?_
  rintro v w1 ⟨rfl, k1⟩
  have zs_k1 := k1.size
  replace hw := hw.pure k1
  refine WL.not rfl rfl (WL.nil (WX.then_normal (WC.cond_false rfl (WC.skip (WX.then_normal (WC.seq (WC.region (?_))))))))
  refine WL.call eg_9 rfl rfl (hNew _) ?_
  rintro v w2 ⟨⟨R, rfl, hR⟩, k2⟩
  replace hR := hR.mono (A' := (w.heap.size ≤ ·)) (fun x hx => by have := hw.size; omega)
  have zs_k2 := k2.size
  replace hw := hw.pure k2
  refine WL.move rfl rfl (WL.extract rfl rfl rfl (WL.extract rfl rfl rfl (WL.assign rfl rfl (WL.assign rfl rfl (WL.nil (WX.then_normal (WC.seq (?_))))))))
  refine WC.region (WL.move rfl rfl (WL.c_i64_u64 Tryd.underlying3 Tryd.underlying27 rfl rfl (WL.num rfl rfl (n_rem64 _ _ _ 5 (by decide)) rfl (?_))))
  refine WL.c_u64_i64s (n := l) Tryd.underlying27 Tryd.underlying3 rfl ⟨hl.symm, by omega⟩ rfl ?_
  refine WL.move rfl rfl (WL.c_i64_u64 Tryd.underlying3 Tryd.underlying27 rfl rfl (WL.num rfl rfl (n_rem64 _ _ _ 100000 (by decide)) rfl (?_)))
  refine WL.c_u64_i64s (n := t0) Tryd.underlying27 Tryd.underlying3 rfl ⟨ht0.symm, by omega⟩ rfl ?_
  refine WL.add64 rfl rfl (by constructor <;> omega) rfl ?_
  rw [← ht]
  refine WL.assign rfl rfl (WL.assign rfl rfl (WL.nil (WX.then_normal (WC.seq (WC.seq (WC.region (WL.move rfl rfl (?_))))))))
  refine WL.neqF rfl rfl rfl (by first | rfl | omega | decide) ?_
  refine WL.nil (WX.then_normal (WC.cond_false rfl (WC.skip (WX.then_normal (WC.seq (WC.seq (WC.region (?_))))))))
  refine WL.move rfl rfl (WL.move rfl rfl (WL.move rfl rfl (?_)))
  refine WL.call eg_11 rfl rfl (lptr_calls t (by omega) _) ?_
  rintro v w3 ⟨rfl, k3⟩
  have zs_k3 := k3.size
  replace hw := hw.pure k3
  replace hR := hR.pure k3
  refine WL.bld rfl (bld_34_0_1 _ _ _ _ _) rfl (?_)
  obtain ⟨f1, f2, f3, f4, f5, f6⟩ := lwS_facts u0 (by omega) hE1
  obtain ⟨-, e2, e3⟩ := lw_up u0 (by omega) hE1
  rw [cntD_all sg, sd] at e2 e3
  refine WL.call eg_10 rfl rfl (lWrite_calls hR (ubV t t) hW1 (by omega)) ?_
  rintro v w4 ⟨rfl, hR4, k4⟩
  rw [e2, e3]
  replace hR4 := hR4.mono (A' := (w.heap.size ≤ ·)) (fun x hx => by have := hw.size; omega)
  have zs_k4 := k4.size
  replace hw := hw.chg k4 (by first | (intro x h1 h2; exact h2) | (intro x h0 h1 h2; exact hS x h1 h2) | (intro x h0 h1 h2; have h3 : _ = _ := h2; subst h3; exact hSR h1.1) | (intro x h1 h2; have h3 : _ = _ := h2; subst h3; assumption) | (intro x h1 h2; have h3 : _ = _ := h2; exfalso; omega) | (intro b h1 h2 h3; have h4 : _ = _ := h3; (try dsimp only at h2); exfalso; omega) | (intro h1; have h2 : _ = _ := h1; exfalso; omega) | (intro h1; have h2 : _ ≤ _ := h1; exfalso; omega) | (intros; exfalso; (try dsimp only at *); omega) | (intro b h1 h2 h3; exfalso; have h4 := h3.2; (try dsimp only at *); omega) | (intro h1; exfalso; have h4 := h1.2; (try dsimp only at *); omega) | (intro x h1 h2; exfalso; have h4 := h2.2; (try dsimp only at *); omega) | (intro x h1 h2; exact ⟨_, rfl, h2⟩) | (intro x h1 h2; have h4 := h2.1; have h5 := h2.2; exfalso; omega) | (intro x h1 h2; exact h2.1) | (intro x h1 h2; rcases h2.1 with h3 | h3; exact h3; exfalso; omega) | (intro x h1 h2; rcases h2 with h3 | h3; exact h3; exfalso; omega))
  refine WL.move rfl rfl (WL.extract rfl rfl rfl (WL.extract rfl rfl rfl (WL.assign rfl rfl (WL.assign rfl rfl (WL.nil (WX.then_normal (WC.seq (?_))))))))
  refine WC.region (WL.move rfl rfl (?_))
  refine WL.neqF rfl rfl rfl (rfl) ?_
  refine WL.nil (WX.then_normal (WC.cond_false rfl (WC.skip (WX.then_normal (WC.seq (WC.seq (WC.region (?_))))))))
  refine WL.assign rfl rfl (WL.nil (WX.then_normal (WC.block (?_))))
  have hI0 : OneI (ubV t t) l 0 (lwS s0 (ubV t t)) := by
    refine ⟨by rw [f2, sd], by rw [f3, sn], f1, fun d hd => ?_, fun a => ?_, by omega⟩
    ·
      rw [f4, sg]
      simp
    ·
      rw [lwS_slot u0 (by omega) hE1 hW1 l (by omega), fresh_slot sh]
      simp only [sg, and_true]
  refine WC.loop (σ := Nat) (fun i => [(0, vi (l : Int)), (1, vi t), (5, ptr R), (9, vi (i : Int))])
    (fun i w' => i ≤ 5 ∧ Chg Nob w w' ∧ ∃ s : RA, OneI (ubV t t) l i s ∧ RK (w.heap.size ≤ ·) w' R s) (fun i => 5 - i) 0 ⟨rfl, rfl, rfl, rfl, trivial⟩
    ⟨Nat.zero_le _, hw, _, hI0, hR4⟩ ?_
  clear hw hR4 f1 f2 f3 f4 f5 f6 e2 e3 hI0
  rintro i w5 ⟨hi, hw, s, hI, hR⟩
  refine WC.seq (WC.seq (WC.region (WL.move rfl rfl (?_))))
  refine WL.lss? rfl rfl rfl (fun h46 => ?_) (fun h46 => ?_)
  ·
    refine WL.nil (WX.then_normal (WC.cond_true rfl (WC.skip (WX.then_normal (WC.seq (WC.block (WC.seq (?_))))))))
    refine WC.region (WL.move rfl rfl (WL.move rfl rfl (?_)))
    refine WL.neq rfl rfl rfl ?_
    by_cases hil : (i : Int) = l
    ·
      rw [show decide ((i : Int) ≠ (l : Int)) = false from decide_eq_false (fun h => h hil)]
      refine WL.move rfl rfl (WL.pass rfl rfl rfl rfl (WL.pass rfl rfl rfl rfl (WL.pass rfl rfl rfl rfl (WL.pass rfl rfl rfl rfl (WL.pickF rfl rfl rfl (WL.nil (WX.then_normal (?_))))))))
      refine WC.cond_false rfl (WC.skip (WX.block_normal (WX.then_normal (WC.region (WL.move rfl rfl (WL.add64 rfl rfl (by first | omega | (constructor <;> omega)) rfl (WL.assign rfl rfl (?_))))))))
      refine WL.nil (?_)
      first
        | (have hil' : (i : Int) = l := hil
           refine WX.loop_next (i + 1) ⟨rfl, rfl, rfl, rfl, trivial⟩ ⟨by omega, hw, s, ⟨hI.dn, hI.sn, hI.up, fun d hd => ?_, hI.slot, hI.len⟩, hR⟩ (by show _ - _ < _ - _; omega)
           rw [hI.gone d hd]
           exact decide_eq_decide.2 (by omega))
        | (have hil' : ¬ (i : Int) = l := hil
           have h1 := stay_len (i : Int) s.waits
           refine WX.loop_next (i + 1) ⟨rfl, rfl, rfl, rfl, trivial⟩ ⟨by omega, hw, loseS s (i : Int) true, ⟨hI.dn, hI.sn, loseS_up hI.up _ _, fun d hd => ?_, fun a => ?_, ?_⟩, hR6⟩ (by show _ - _ < _ - _; omega)
           ·
             rw [loseS_gone hok his true (by omega), hI.gone d hd]
             by_cases hdi : (d : Int) = i
             ·
               rw [if_pos hdi]
               exact (decide_eq_true (by omega)).symm
             ·
               rw [if_neg hdi]
               exact decide_eq_decide.2 (by omega)
           ·
             rw [lose_slot s (by omega)]
             exact hI.slot a
           ·
             have h2 := hI.len
             show (stay (i : Int) s.waits).length ≤ 100
             omega)
    ·
      rw [show decide ((i : Int) ≠ (l : Int)) = true from decide_eq_true hil]
      refine WL.move rfl rfl (WL.want rfl rfl rfl (WL.move rfl rfl (WL.want rfl rfl rfl (WL.move rfl rfl (WL.want rfl rfl rfl (?_))))))
      have his : isS s (i : Int) := ⟨by omega, by rw [hI.dn]; omega⟩
      have hok := hR.ok
      refine WL.call eg_21 rfl rfl (LoseU hR his) ?_
      rintro v w6 ⟨rfl, hR6, k6⟩
      have zs_k6 := k6.size
      replace hw := hw.chg k6 (by first | (intro x h1 h2; exact h2) | (intro x h0 h1 h2; exact hS x h1 h2) | (intro x h0 h1 h2; have h3 : _ = _ := h2; subst h3; exact hSR h1.1) | (intro x h1 h2; have h3 : _ = _ := h2; subst h3; assumption) | (intro x h1 h2; have h3 : _ = _ := h2; exfalso; omega) | (intro b h1 h2 h3; have h4 : _ = _ := h3; (try dsimp only at h2); exfalso; omega) | (intro h1; have h2 : _ = _ := h1; exfalso; omega) | (intro h1; have h2 : _ ≤ _ := h1; exfalso; omega) | (intros; exfalso; (try dsimp only at *); omega) | (intro b h1 h2 h3; exfalso; have h4 := h3.2; (try dsimp only at *); omega) | (intro h1; exfalso; have h4 := h1.2; (try dsimp only at *); omega) | (intro x h1 h2; exfalso; have h4 := h2.2; (try dsimp only at *); omega) | (intro x h1 h2; exact ⟨_, rfl, h2⟩) | (intro x h1 h2; have h4 := h2.1; have h5 := h2.2; exfalso; omega) | (intro x h1 h2; exact h2.1) | (intro x h1 h2; rcases h2.1 with h3 | h3; exact h3; exfalso; omega) | (intro x h1 h2; rcases h2 with h3 | h3; exact h3; exfalso; omega))
      refine WL.want rfl rfl rfl (?_)
      refine WL.neqF rfl rfl rfl (rfl) ?_
      refine WL.pickT rfl rfl rfl (WL.nil (WX.then_normal (WC.cond_false rfl (WC.skip (WX.block_normal (WX.then_normal (WC.region (?_))))))))
      refine WL.move rfl rfl (WL.add64 rfl rfl (by first | omega | (constructor <;> omega)) rfl (WL.assign rfl rfl (WL.nil (?_))))
      first
        | (have hil' : (i : Int) = l := hil
           refine WX.loop_next (i + 1) ⟨rfl, rfl, rfl, rfl, trivial⟩ ⟨by omega, hw, s, ⟨hI.dn, hI.sn, hI.up, fun d hd => ?_, hI.slot, hI.len⟩, hR⟩ (by show _ - _ < _ - _; omega)
           rw [hI.gone d hd]
           exact decide_eq_decide.2 (by omega))
        | (have hil' : ¬ (i : Int) = l := hil
           have h1 := stay_len (i : Int) s.waits
           refine WX.loop_next (i + 1) ⟨rfl, rfl, rfl, rfl, trivial⟩ ⟨by omega, hw, loseS s (i : Int) true, ⟨hI.dn, hI.sn, loseS_up hI.up _ _, fun d hd => ?_, fun a => ?_, ?_⟩, hR6⟩ (by show _ - _ < _ - _; omega)
           ·
             rw [loseS_gone hok his true (by omega), hI.gone d hd]
             by_cases hdi : (d : Int) = i
             ·
               rw [if_pos hdi]
               exact (decide_eq_true (by omega)).symm
             ·
               rw [if_neg hdi]
               exact decide_eq_decide.2 (by omega)
           ·
             rw [lose_slot s (by omega)]
             exact hI.slot a
           ·
             have h2 := hI.len
             show (stay (i : Int) s.waits).length ≤ 100
             omega)
  ·
    refine WL.nil (WX.then_normal (WC.cond_false rfl (WC.exit (WX.then_exit (WX.then_exit (WX.block_here (WX.then_normal (?_))))))))
    refine WC.seq (WC.region (WL.move rfl rfl (?_)))
    have hi5 : i = 5 := by omega
    subst hi5
    have hg : ∀ d : Nat, d < s.dn → goneS s (d : Nat) = decide (d ≠ l) := fun d hd => by
      rw [hI.gone d (by rw [← hI.dn]; exact hd)]
      have : d < 5 := by rw [← hI.dn]; exact hd
      simp [this]
    have hsn8 : 8 < s.sn := by rw [hI.sn]; omega
    obtain ⟨n1, n2⟩ := newest_one hI.up hsn8 (u := ubV t t) (by show 0 < t; omega) (l := l) (by rw [hI.dn]; omega) hg hI.slot
    refine WL.call eg_13 rfl rfl (lNewest_calls hR) ?_
    rintro v w7 ⟨rfl, k7⟩
    rw [n1, n2]
    have zs_k7 := k7.size
    replace hw := hw.pure k7
    replace hR := hR.pure k7
    replace hR := hR.old
    have zw7 := hw.size
    refine WL.move rfl rfl (WL.extract rfl rfl rfl (WL.extract rfl rfl rfl (?_)))
    refine WL.alloc Tryd.zeroValue34 rfl ?_
    intro g_1 w_1 hge_1 hlt_1 hb_1 k_1
    have zs_k_1 := k_1.size
    replace hw := hw.pure k_1
    replace hR := hR.pure k_1
    refine WL.stores Tryd.sizeOf34 hb_1 rfl rfl (by first | (simp; done) | (simp; omega) | rfl) (by first | exact Enc.one _ _ | (intro u hu; obtain ⟨x, _, rfl⟩ := List.mem_map.1 hu; rfl) | (simp [Value.oneCell']; done) | (simp [Value.oneCell', Value.cells]; done)) (by first | (simp; done) | (simp; omega) | (simp [Value.cells]; done) | (simp [Value.cells]; omega) | exact Nat.le_of_ble_eq_true rfl) rfl ?_
    intro w_2 hs_2 hn_2 k_2
    have zs_k_2 := k_2.size
    replace hw := hw.chg k_2 (by first | (intro x h1 h2; exact h2) | (intro x h0 h1 h2; exact hS x h1 h2) | (intro x h0 h1 h2; have h3 : _ = _ := h2; subst h3; exact hSR h1.1) | (intro x h1 h2; have h3 : _ = _ := h2; subst h3; assumption) | (intro x h1 h2; have h3 : _ = _ := h2; exfalso; omega) | (intro b h1 h2 h3; have h4 : _ = _ := h3; (try dsimp only at h2); exfalso; omega) | (intro h1; have h2 : _ = _ := h1; exfalso; omega) | (intro h1; have h2 : _ ≤ _ := h1; exfalso; omega) | (intros; exfalso; (try dsimp only at *); omega) | (intro b h1 h2 h3; exfalso; have h4 := h3.2; (try dsimp only at *); omega) | (intro h1; exfalso; have h4 := h1.2; (try dsimp only at *); omega) | (intro x h1 h2; exfalso; have h4 := h2.2; (try dsimp only at *); omega) | (intro x h1 h2; exact ⟨_, rfl, h2⟩) | (intro x h1 h2; have h4 := h2.1; have h5 := h2.2; exfalso; omega) | (intro x h1 h2; exact h2.1) | (intro x h1 h2; rcases h2.1 with h3 | h3; exact h3; exfalso; omega) | (intro x h1 h2; rcases h2 with h3 | h3; exact h3; exfalso; omega))
    replace hR := hR.chg k_2 (by first | (intro x h1 h2; exact h2) | (intro x h0 h1 h2; exact hS x h1 h2) | (intro x h0 h1 h2; have h3 : _ = _ := h2; subst h3; exact hSR h1.1) | (intro x h1 h2; have h3 : _ = _ := h2; subst h3; assumption) | (intro x h1 h2; have h3 : _ = _ := h2; exfalso; omega) | (intro b h1 h2 h3; have h4 : _ = _ := h3; (try dsimp only at h2); exfalso; omega) | (intro h1; have h2 : _ = _ := h1; exfalso; omega) | (intro h1; have h2 : _ ≤ _ := h1; exfalso; omega) | (intros; exfalso; (try dsimp only at *); omega) | (intro b h1 h2 h3; exfalso; have h4 := h3.2; (try dsimp only at *); omega) | (intro h1; exfalso; have h4 := h1.2; (try dsimp only at *); omega) | (intro x h1 h2; exfalso; have h4 := h2.2; (try dsimp only at *); omega) | (intro x h1 h2; exact ⟨_, rfl, h2⟩) | (intro x h1 h2; have h4 := h2.1; have h5 := h2.2; exfalso; omega) | (intro x h1 h2; exact h2.1) | (intro x h1 h2; rcases h2.1 with h3 | h3; exact h3; exfalso; omega) | (intro x h1 h2; rcases h2 with h3 | h3; exact h3; exfalso; omega))
    replace hb_1 := hn_2
    refine WL.assign rfl rfl (WL.nil (WX.then_normal (WC.seq (WC.region (WL.move rfl rfl (WL.move rfl rfl (?_)))))))
    refine WL.add64 rfl rfl (by constructor <;> omega) rfl ?_
    refine WL.call eg_11 rfl rfl (lptr_calls 1 (by omega) _) ?_
    rintro v w8 ⟨rfl, k8⟩
    have zs_k8 := k8.size
    replace hw := hw.pure k8
    replace hR := hR.pure k8
    replace hb_1 := hb_1.pure k8
    refine WL.bld rfl (bld_34_0_1 _ _ _ _ _) rfl (?_)
    obtain ⟨f1, f2, f3, f4, f5, f6⟩ := lwS_facts hI.up hsn8 hE2
    obtain ⟨-, e2, e3⟩ := lw_up hI.up hsn8 hE2
    have hc1 : cntD s s.dn = 1 := by
      rw [cntD_one hg s.dn (Nat.le_refl _), if_pos (by rw [hI.dn]; omega)]
    rw [hc1] at e2 e3
    have hlen := hI.len
    have hdn5 := hI.dn
    refine WL.call eg_10 rfl rfl (lWrite_calls hR (ubV (t + 1) 1) hW2 (by omega)) ?_
    rintro v w9 ⟨rfl, hR9, k9⟩
    rw [e2, e3]
    replace hR9 := hR9.mono (A' := (w.heap.size ≤ ·)) (fun x hx => by have := hw.size; omega)
    obtain ⟨s6, es6⟩ : ∃ s6, s6 = lwS s (ubV (t + 1) 1) := ⟨_, rfl⟩
    rw [← es6] at hR9 f1 f2 f3 f4 f5 f6
    have hb10 := Blk.eqc (cs' := eub.f (ubV t t)) hb_1 rfl
    have zs_k9 := k9.size
    replace hw := hw.chg k9 (by first | (intro x h1 h2; exact h2) | (intro x h0 h1 h2; exact hS x h1 h2) | (intro x h0 h1 h2; have h3 : _ = _ := h2; subst h3; exact hSR h1.1) | (intro x h1 h2; have h3 : _ = _ := h2; subst h3; assumption) | (intro x h1 h2; have h3 : _ = _ := h2; exfalso; omega) | (intro b h1 h2 h3; have h4 : _ = _ := h3; (try dsimp only at h2); exfalso; omega) | (intro h1; have h2 : _ = _ := h1; exfalso; omega) | (intro h1; have h2 : _ ≤ _ := h1; exfalso; omega) | (intros; exfalso; (try dsimp only at *); omega) | (intro b h1 h2 h3; exfalso; have h4 := h3.2; (try dsimp only at *); omega) | (intro h1; exfalso; have h4 := h1.2; (try dsimp only at *); omega) | (intro x h1 h2; exfalso; have h4 := h2.2; (try dsimp only at *); omega) | (intro x h1 h2; exact ⟨_, rfl, h2⟩) | (intro x h1 h2; have h4 := h2.1; have h5 := h2.2; exfalso; omega) | (intro x h1 h2; exact h2.1) | (intro x h1 h2; rcases h2.1 with h3 | h3; exact h3; exfalso; omega) | (intro x h1 h2; rcases h2 with h3 | h3; exact h3; exfalso; omega))
    replace hb10 := hb10.chg k9 (by first | (intro x h1 h2; exact h2) | (intro x h0 h1 h2; exact hS x h1 h2) | (intro x h0 h1 h2; have h3 : _ = _ := h2; subst h3; exact hSR h1.1) | (intro x h1 h2; have h3 : _ = _ := h2; subst h3; assumption) | (intro x h1 h2; have h3 : _ = _ := h2; exfalso; omega) | (intro b h1 h2 h3; have h4 : _ = _ := h3; (try dsimp only at h2); exfalso; omega) | (intro h1; have h2 : _ = _ := h1; exfalso; omega) | (intro h1; have h2 : _ ≤ _ := h1; exfalso; omega) | (intros; exfalso; (try dsimp only at *); omega) | (intro b h1 h2 h3; exfalso; have h4 := h3.2; (try dsimp only at *); omega) | (intro h1; exfalso; have h4 := h1.2; (try dsimp only at *); omega) | (intro x h1 h2; exfalso; have h4 := h2.2; (try dsimp only at *); omega) | (intro x h1 h2; exact ⟨_, rfl, h2⟩) | (intro x h1 h2; have h4 := h2.1; have h5 := h2.2; exfalso; omega) | (intro x h1 h2; exact h2.1) | (intro x h1 h2; rcases h2.1 with h3 | h3; exact h3; exfalso; omega) | (intro x h1 h2; rcases h2 with h3 | h3; exact h3; exfalso; omega))
    refine WL.move rfl rfl (WL.extract rfl rfl rfl (WL.extract rfl rfl rfl (WL.assign rfl rfl (WL.assign rfl rfl (WL.nil (WX.then_normal (WC.seq (?_))))))))
    refine WC.seq (WC.region (WL.move rfl rfl (?_)))
    refine WL.neqF rfl rfl rfl (rfl) ?_
    refine WL.move rfl rfl (WL.want rfl rfl rfl (WL.fieldAddr (fld_34_0) rfl rfl (WL.want rfl rfl rfl (WL.loadB Tryd.isAgg3 hb10 rfl rfl rfl (WL.want rfl rfl rfl (WL.move rfl rfl (WL.want rfl rfl rfl (?_))))))))
    refine WL.neqF rfl rfl rfl (rfl) ?_
    refine WL.pickF rfl rfl rfl (WL.move rfl rfl (WL.want rfl rfl rfl (WL.move rfl rfl (WL.want rfl rfl rfl (?_)))))
    refine WL.neqF rfl rfl rfl (rfl) ?_
    refine WL.pickF rfl rfl rfl (WL.move rfl rfl (WL.want rfl rfl rfl (WL.move rfl rfl (WL.want rfl rfl rfl (?_)))))
    refine WL.neqF rfl rfl rfl (rfl) ?_
    refine WL.pickF rfl rfl rfl (WL.move rfl rfl (WL.want rfl rfl rfl (WL.move rfl rfl (WL.want rfl rfl rfl (WL.move rfl rfl (WL.want rfl rfl rfl (?_)))))))
    have his6 : isS s6 (l : Int) := ⟨by omega, by rw [f2]; omega⟩
    have hok6 := hR9.ok
    refine WL.call eg_21 rfl rfl (LoseU hR9 his6) ?_
    rintro v w10 ⟨rfl, hR10, k10⟩
    have zs_k10 := k10.size
    replace hw := hw.chg k10 (by first | (intro x h1 h2; exact h2) | (intro x h0 h1 h2; exact hS x h1 h2) | (intro x h0 h1 h2; have h3 : _ = _ := h2; subst h3; exact hSR h1.1) | (intro x h1 h2; have h3 : _ = _ := h2; subst h3; assumption) | (intro x h1 h2; have h3 : _ = _ := h2; exfalso; omega) | (intro b h1 h2 h3; have h4 : _ = _ := h3; (try dsimp only at h2); exfalso; omega) | (intro h1; have h2 : _ = _ := h1; exfalso; omega) | (intro h1; have h2 : _ ≤ _ := h1; exfalso; omega) | (intros; exfalso; (try dsimp only at *); omega) | (intro b h1 h2 h3; exfalso; have h4 := h3.2; (try dsimp only at *); omega) | (intro h1; exfalso; have h4 := h1.2; (try dsimp only at *); omega) | (intro x h1 h2; exfalso; have h4 := h2.2; (try dsimp only at *); omega) | (intro x h1 h2; exact ⟨_, rfl, h2⟩) | (intro x h1 h2; have h4 := h2.1; have h5 := h2.2; exfalso; omega) | (intro x h1 h2; exact h2.1) | (intro x h1 h2; rcases h2.1 with h3 | h3; exact h3; exfalso; omega) | (intro x h1 h2; rcases h2 with h3 | h3; exact h3; exfalso; omega))
    obtain ⟨s7, es7⟩ : ∃ s7, s7 = loseS s6 (l : Int) true := ⟨_, rfl⟩
    have up7 : Up s7 := by rw [es7]; exact loseS_up f1 _ _
    have dn7 : s7.dn = 5 := by rw [es7]; exact f2.trans hdn5
    have sn7 : s7.sn = 9 := by rw [es7]; exact f3.trans hI.sn
    have len7 : s7.waits.length ≤ 200 := by
      rw [es7]
      have := stay_len (l : Int) s6.waits
      show (stay (l : Int) s6.waits).length ≤ 200
      omega
    have gone7 : ∀ d : Nat, d < s7.dn → goneS s7 (d : Nat) = true := fun d hd => by
      rw [es7, loseS_gone hok6 his6 true (by omega)]
      split
      ·
        rfl
      ·
        rename_i hne
        rw [f4, hg d (by omega)]
        simp only [decide_eq_true_eq]
        intro h9
        exact hne (by rw [h9])
    rw [← es7] at hR10
    refine WL.want rfl rfl rfl (?_)
    refine WL.neqF rfl rfl rfl (rfl) ?_
    refine WL.pickF rfl rfl rfl (WL.nil (WX.then_normal (WC.cond_false rfl (WC.skip (WX.then_normal (WC.seq (WC.region (?_))))))))
    refine WL.move rfl rfl (?_)
    obtain ⟨m1, m2⟩ := newest_gone up7 (by omega) gone7
    refine WL.call eg_13 rfl rfl (lNewest_calls hR10) ?_
    rintro v w11 ⟨rfl, k11⟩
    rw [m1, m2]
    have zs_k11 := k11.size
    replace hw := hw.pure k11
    replace hR10 := hR10.pure k11
    replace hR10 := hR10.old
    have zw11 := hw.size
    refine WL.move rfl rfl (WL.extract rfl rfl rfl (WL.extract rfl rfl rfl (?_)))
    refine WL.alloc Tryd.zeroValue34 rfl ?_
    intro g_3 w_3 hge_3 hlt_3 hb_3 k_3
    have zs_k_3 := k_3.size
    replace hw := hw.pure k_3
    replace hR10 := hR10.pure k_3
    refine WL.stores Tryd.sizeOf34 hb_3 rfl rfl (by first | (simp; done) | (simp; omega) | rfl) (by first | exact Enc.one _ _ | (intro u hu; obtain ⟨x, _, rfl⟩ := List.mem_map.1 hu; rfl) | (simp [Value.oneCell']; done) | (simp [Value.oneCell', Value.cells]; done)) (by first | (simp; done) | (simp; omega) | (simp [Value.cells]; done) | (simp [Value.cells]; omega) | exact Nat.le_of_ble_eq_true rfl) rfl ?_
    intro w_4 hs_4 hn_4 k_4
    have zs_k_4 := k_4.size
    replace hw := hw.chg k_4 (by first | (intro x h1 h2; exact h2) | (intro x h0 h1 h2; exact hS x h1 h2) | (intro x h0 h1 h2; have h3 : _ = _ := h2; subst h3; exact hSR h1.1) | (intro x h1 h2; have h3 : _ = _ := h2; subst h3; assumption) | (intro x h1 h2; have h3 : _ = _ := h2; exfalso; omega) | (intro b h1 h2 h3; have h4 : _ = _ := h3; (try dsimp only at h2); exfalso; omega) | (intro h1; have h2 : _ = _ := h1; exfalso; omega) | (intro h1; have h2 : _ ≤ _ := h1; exfalso; omega) | (intros; exfalso; (try dsimp only at *); omega) | (intro b h1 h2 h3; exfalso; have h4 := h3.2; (try dsimp only at *); omega) | (intro h1; exfalso; have h4 := h1.2; (try dsimp only at *); omega) | (intro x h1 h2; exfalso; have h4 := h2.2; (try dsimp only at *); omega) | (intro x h1 h2; exact ⟨_, rfl, h2⟩) | (intro x h1 h2; have h4 := h2.1; have h5 := h2.2; exfalso; omega) | (intro x h1 h2; exact h2.1) | (intro x h1 h2; rcases h2.1 with h3 | h3; exact h3; exfalso; omega) | (intro x h1 h2; rcases h2 with h3 | h3; exact h3; exfalso; omega))
    replace hR10 := hR10.chg k_4 (by first | (intro x h1 h2; exact h2) | (intro x h0 h1 h2; exact hS x h1 h2) | (intro x h0 h1 h2; have h3 : _ = _ := h2; subst h3; exact hSR h1.1) | (intro x h1 h2; have h3 : _ = _ := h2; subst h3; assumption) | (intro x h1 h2; have h3 : _ = _ := h2; exfalso; omega) | (intro b h1 h2 h3; have h4 : _ = _ := h3; (try dsimp only at h2); exfalso; omega) | (intro h1; have h2 : _ = _ := h1; exfalso; omega) | (intro h1; have h2 : _ ≤ _ := h1; exfalso; omega) | (intros; exfalso; (try dsimp only at *); omega) | (intro b h1 h2 h3; exfalso; have h4 := h3.2; (try dsimp only at *); omega) | (intro h1; exfalso; have h4 := h1.2; (try dsimp only at *); omega) | (intro x h1 h2; exfalso; have h4 := h2.2; (try dsimp only at *); omega) | (intro x h1 h2; exact ⟨_, rfl, h2⟩) | (intro x h1 h2; have h4 := h2.1; have h5 := h2.2; exfalso; omega) | (intro x h1 h2; exact h2.1) | (intro x h1 h2; rcases h2.1 with h3 | h3; exact h3; exfalso; omega) | (intro x h1 h2; rcases h2 with h3 | h3; exact h3; exfalso; omega))
    replace hb_3 := hn_4
    refine WL.assign rfl rfl (WL.nil (WX.then_normal (WC.seq (WC.region (WL.move rfl rfl (WL.move rfl rfl (?_)))))))
    refine WL.add64 rfl rfl (by constructor <;> omega) rfl ?_
    refine WL.call eg_11 rfl rfl (lptr_calls 1 (by omega) _) ?_
    rintro v w12 ⟨rfl, k12⟩
    have zs_k12 := k12.size
    replace hw := hw.pure k12
    replace hR10 := hR10.pure k12
    replace hb_3 := hb_3.pure k12
    refine WL.bld rfl (bld_34_0_1 _ _ _ _ _) rfl (?_)
    obtain ⟨p1, p2, p3, p4, p5, p6⟩ := lwS_facts up7 (by omega) hE3
    obtain ⟨-, q2, q3⟩ := lw_up up7 (by omega) hE3
    rw [cntD_none gone7 s7.dn (Nat.le_refl _)] at q2 q3
    rw [if_pos rfl] at q3
    refine WL.call eg_10 rfl rfl (lWrite_calls hR10 (ubV (t + 2) 1) hW3 (by omega)) ?_
    rintro v w13 ⟨rfl, hR13, k13⟩
    rw [q2, q3]
    have zs_k13 := k13.size
    replace hw := hw.chg k13 (by first | (intro x h1 h2; exact h2) | (intro x h0 h1 h2; exact hS x h1 h2) | (intro x h0 h1 h2; have h3 : _ = _ := h2; subst h3; exact hSR h1.1) | (intro x h1 h2; have h3 : _ = _ := h2; subst h3; assumption) | (intro x h1 h2; have h3 : _ = _ := h2; exfalso; omega) | (intro b h1 h2 h3; have h4 : _ = _ := h3; (try dsimp only at h2); exfalso; omega) | (intro h1; have h2 : _ = _ := h1; exfalso; omega) | (intro h1; have h2 : _ ≤ _ := h1; exfalso; omega) | (intros; exfalso; (try dsimp only at *); omega) | (intro b h1 h2 h3; exfalso; have h4 := h3.2; (try dsimp only at *); omega) | (intro h1; exfalso; have h4 := h1.2; (try dsimp only at *); omega) | (intro x h1 h2; exfalso; have h4 := h2.2; (try dsimp only at *); omega) | (intro x h1 h2; exact ⟨_, rfl, h2⟩) | (intro x h1 h2; have h4 := h2.1; have h5 := h2.2; exfalso; omega) | (intro x h1 h2; exact h2.1) | (intro x h1 h2; rcases h2.1 with h3 | h3; exact h3; exfalso; omega) | (intro x h1 h2; rcases h2 with h3 | h3; exact h3; exfalso; omega))
    replace hb_3 := hb_3.chg k13 (by first | (intro x h1 h2; exact h2) | (intro x h0 h1 h2; exact hS x h1 h2) | (intro x h0 h1 h2; have h3 : _ = _ := h2; subst h3; exact hSR h1.1) | (intro x h1 h2; have h3 : _ = _ := h2; subst h3; assumption) | (intro x h1 h2; have h3 : _ = _ := h2; exfalso; omega) | (intro b h1 h2 h3; have h4 : _ = _ := h3; (try dsimp only at h2); exfalso; omega) | (intro h1; have h2 : _ = _ := h1; exfalso; omega) | (intro h1; have h2 : _ ≤ _ := h1; exfalso; omega) | (intros; exfalso; (try dsimp only at *); omega) | (intro b h1 h2 h3; exfalso; have h4 := h3.2; (try dsimp only at *); omega) | (intro h1; exfalso; have h4 := h1.2; (try dsimp only at *); omega) | (intro x h1 h2; exfalso; have h4 := h2.2; (try dsimp only at *); omega) | (intro x h1 h2; exact ⟨_, rfl, h2⟩) | (intro x h1 h2; have h4 := h2.1; have h5 := h2.2; exfalso; omega) | (intro x h1 h2; exact h2.1) | (intro x h1 h2; rcases h2.1 with h3 | h3; exact h3; exfalso; omega) | (intro x h1 h2; rcases h2 with h3 | h3; exact h3; exfalso; omega))
    refine WL.move rfl rfl (WL.extract rfl rfl rfl (WL.extract rfl rfl rfl (WL.assign rfl rfl (WL.assign rfl rfl (WL.nil (WX.then_normal (WC.seq (?_))))))))
    refine WC.region (WL.move rfl rfl (WL.move rfl rfl (?_)))
    have hsl : slE (lwS s7 (ubV (t + 2) 1)) (l : Int) = 3 := by
      rw [slE, if_pos ⟨by omega, by omega, by omega⟩, errD, if_pos (by rw [p4]; exact gone7 l (by omega))]
    refine WL.call eg_12 rfl rfl (slots_calls hR13 (l : Int)) ?_
    rintro v w14 ⟨⟨a14, c14, rfl, hq14⟩, k14⟩
    rw [hsl]
    have zs_k14 := k14.size
    replace hw := hw.pure k14
    replace hb_3 := hb_3.pure k14
    refine WL.move rfl rfl (WL.extract rfl rfl rfl (WL.extract rfl rfl rfl (WL.assign rfl rfl (WL.assign rfl rfl (WL.nil (WX.then_normal (WC.seq (?_))))))))
    refine WC.region (WL.move rfl rfl (?_))
    refine WL.eqlT rfl rfl rfl (rfl) ?_
    refine WL.move rfl rfl (WL.want rfl rfl rfl (WL.move rfl rfl (WL.want rfl rfl rfl (?_))))
    refine WL.eqlT rfl rfl rfl (rfl) ?_
    refine WL.pickT rfl rfl rfl (WL.move rfl rfl (WL.want rfl rfl rfl (WL.move rfl rfl (WL.want rfl rfl rfl (?_)))))
    refine WL.eqlT rfl rfl rfl (rfl) ?_
    refine WL.pickT rfl rfl rfl (WL.move rfl rfl (WL.want rfl rfl rfl (WL.move rfl rfl (WL.want rfl rfl rfl (?_)))))
    refine WL.eqlT rfl rfl rfl (rfl) ?_
    refine WL.pickT rfl rfl rfl (WL.assign rfl rfl (WL.nil (WX.then_normal (WC.ret (?_)))))
    refine WX.ret1 (.inl rfl) Tryd.results6 rfl ?_
    exact ⟨_, rfl, rfl, hw⟩
end Go.Proofs.YtmkdkiaiicafgaaDoor
