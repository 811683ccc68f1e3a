import Derived.Test.YtbbpgbdiifmkhaaGm
namespace Go.Proofs.Ytbbpgbdiifmkhaa
open Go.RowKit Go.HL

theorem drop_at {rs : List Rw} {k q : Nat} {r : Rw} (h : rs[k + q]? = some r) : ((xss rs).drop k)[q]? = some r.xs := by rw [List.getElem?_drop, xss_at h]
theorem chk_no {rs : List Rw} {m k q : Nat} {r : Rw} (hk : rs.length = k + 3) (hq : q < 3) (hr : rs[k + q]? = some r) (h : prow (wtq q) ((xss rs).take k) m k ≠ r.xs) : chk rs m = false := by
  rw [chk, show rs.length - 3 = k from by omega]
  refine decide_eq_false (fun e => h ?_)
  have h1 : (three ((xss rs).take k) m k)[q]? = ((xss rs).drop k)[q]? := by rw [e]
  rw [three_at hq, drop_at hr] at h1
  injection h1
theorem chk_yes {rs : List Rw} {m k : Nat} (hk : rs.length = k + 3) (h : ∀ (q : Nat) (r : Rw), q < 3 → rs[k + q]? = some r → prow (wtq q) ((xss rs).take k) m k = r.xs) : chk rs m = true := by
  rw [chk, show rs.length - 3 = k from by omega]
  refine decide_eq_true ?_
  apply List.ext_getElem?
  intro q
  rcases Nat.lt_or_ge q 3 with hq | hq
  · obtain ⟨r, hr⟩ : ∃ r, rs[k + q]? = some r := ⟨_, List.getElem?_eq_getElem (by omega)⟩
    rw [three_at hq, drop_at hr, h q r hq hr]
  · rw [List.getElem?_eq_none (by show 3 ≤ q; exact hq), List.getElem?_eq_none (by rw [List.length_drop, xss_len]; omega)]
set_option maxHeartbeats 2000000 in
theorem docCheck_good {S : Nat → Prop} {w : World} {ao : Option Addr} {c : Nat} {rs : List Rw} {n : Nat} (hc : RS S w ao c rs) (h : rightR rs) (hn : lenC (xss rs) = (n : Int)) :
    Calls Try.prog 12 [.slice ao rs.length c].toArray w (Ret fun v w' => v = .tuple #[.bool (chk rs n), vi 0] ∧ Chg Nob w w') := by
  replace hc := hc.old
  have hw := Chg.refl Nob w
  obtain ⟨m, hm, hm1, hm2, hne, hall⟩ := lenC_some (cols := xss rs) (by omega)
  have hmn : m = n := by omega
  subst hmn
  have h1 := h.1
  have h2 := h.2.1
  obtain ⟨k, hk⟩ : ∃ k, rs.length = k + 3 := ⟨rs.length - 3, by omega⟩
  have hl1 : ((rs.take k).drop 0).length = k := by simp; omega
  have hal1 : ∀ d ∈ xss ((rs.take k).drop 0), d.length = m := by
    rw [xss_take]
    exact fun d hd => hall d (List.mem_of_mem_take hd)
  refine Calls.of_WC Try.func12 rfl Try.ntmps12 (by simp) ?_
  refine WC.seq (WC.region (WL.assign rfl rfl (WL.assign rfl rfl (WL.nil (WX.then_normal (WC.seq (WC.region (?_))))))))
  refine WL.move rfl rfl (?_)
  refine WL.call eg_18 rfl rfl (refRight_good hc h) ?_
  rintro v w1 ⟨rfl, k1⟩
  have zs_k1 := k1.size
  replace hc := hc.pure k1
  replace hw := hw.pure k1
  refine WL.assign rfl rfl (WL.nil (WX.then_normal (WC.seq (WC.seq (WC.region (WL.move rfl rfl (?_)))))))
  refine WL.neq rfl rfl rfl ?_
  rw [show decide ((0 : Int) ≠ 0) = false from rfl]
  refine WL.nil (WX.then_normal (WC.cond_false rfl (WC.skip (WX.then_normal (WC.seq (WC.region (WL.move rfl rfl (?_))))))))
  refine WL.len Try.underlying22 rfl rfl (?_)
  refine WL.sub64 rfl rfl (by constructor <;> omega) rfl ?_
  rw [show ((rs.length : Int) - 3) = (k : Int) from by omega]
  refine WL.assign rfl rfl (WL.nil (WX.then_normal (WC.seq (WC.seq (WC.region (WL.assign rfl rfl (WL.nil (?_))))))))
  refine WX.then_normal (WC.block (?_))
  refine WC.loop (σ := Nat) (fun q => [(0, .slice ao rs.length c), (5, vi k), (6, vi q)])
    (fun q w' => q ≤ 3 ∧ (∀ (j : Nat) (r : Rw), j < q → rs[k + j]? = some r → prow (wtq j) ((xss rs).take k) m k = r.xs) ∧ RS (· < w.heap.size) w' ao c rs ∧ Chg Nob w w') (fun q => 3 - q) 0 ⟨rfl, rfl, rfl, trivial⟩ ⟨Nat.zero_le _, fun j r h => absurd h (by omega), hc, hw⟩ ?_
  clear hc hw
  rintro q w2 ⟨hq, hyes, hc, hw⟩
  refine WC.seq (WC.seq (WC.region (WL.move rfl rfl (?_))))
  refine WL.lss? rfl rfl rfl (fun h16 => ?_) (fun h16 => ?_)
  ·
    refine WL.nil (WX.then_normal (WC.cond_true rfl (WC.skip (WX.then_normal (WC.seq (WC.block (WC.seq (?_))))))))
    obtain ⟨⟨rao, rc, rxs⟩, hr⟩ : ∃ r, rs[k + q]? = some r := ⟨_, List.getElem?_eq_getElem (by omega)⟩
    have hrr : RSl (· < w.heap.size) _ eb rao rc rxs := hc.at hr
    have hc1 := hc.cut 0 k ⟨by omega, by omega⟩
    obtain ⟨b1, o1, rfl⟩ := hc.outer.place hr
    refine WC.draw (Nob) [0, 1, 2, 3, 6, 7, 8, 9, 10, 11, 12] [4, 5, 13] mixed rfl rfl (fun wd_1 kd_1 zd_1 => ?_)
    have zs_kd_1 := kd_1.size
    replace hc := hc.pure kd_1
    replace hw := hw.pure kd_1
    replace hrr := hrr.pure kd_1
    replace hc1 := hc1.pure kd_1
    apply DQ.step (E' := [(0, _)])
    case ho => rfl
    case hs => exact ⟨rfl, trivial⟩
    case hk => rfl
    case h1 =>
      intro wq_3 kq_3
      refine WL.move rfl rfl (?_)
      refine WL.nil ?_
      exact WX.one ⟨rfl, by first | exact Chg.refl _ _ | assumption⟩
    apply DQ.step (E' := [(5, _)])
    case ho => rfl
    case hs => exact ⟨rfl, trivial⟩
    case hk => rfl
    case h1 =>
      intro wq_4 kq_4
      refine WL.move rfl rfl (?_)
      refine WL.nil ?_
      exact WX.one ⟨rfl, by first | exact Chg.refl _ _ | assumption⟩
    apply DQ.step (E' := [(19, _), (20, _)])
    case ho => rfl
    case hs => exact ⟨rfl, rfl, trivial⟩
    case hk => rfl
    case h1 =>
      intro wq_5 kq_5
      have zs_kq_5 := kq_5.size
      replace hc := hc.pure kq_5
      replace hw := hw.pure kq_5
      replace hrr := hrr.pure kq_5
      replace hc1 := hc1.pure kq_5
      refine WL.sliceC (l := 0) (h := k) (k := .i64) Try.underlying22 Try.sizeOf28 hc.outer rfl (.inr ⟨rfl, rfl⟩) (.inl rfl) (by constructor <;> omega) rfl ?_
      refine WL.nil ?_
      exact WX.one ⟨rfl, by first | exact Chg.refl _ _ | assumption⟩
    apply DQ.step (E' := [(6, _)])
    case ho => rfl
    case hs => exact ⟨rfl, trivial⟩
    case hk => rfl
    case h1 =>
      intro wq_6 kq_6
      refine WL.move rfl rfl (?_)
      refine WL.nil ?_
      exact WX.one ⟨rfl, by first | exact Chg.refl _ _ | assumption⟩
    apply DQ.step (E' := [(0, _)])
    case ho => rfl
    case hs => exact ⟨rfl, trivial⟩
    case hk => rfl
    case h1 =>
      intro wq_7 kq_7
      refine WL.move rfl rfl (?_)
      refine WL.nil ?_
      exact WX.one ⟨rfl, by first | exact Chg.refl _ _ | assumption⟩
    apply DQ.step (E' := [(5, _)])
    case ho => rfl
    case hs => exact ⟨rfl, trivial⟩
    case hk => rfl
    case h1 =>
      intro wq_8 kq_8
      refine WL.move rfl rfl (?_)
      refine WL.nil ?_
      exact WX.one ⟨rfl, by first | exact Chg.refl _ _ | assumption⟩
    apply DQ.step (E' := [(6, _)])
    case ho => rfl
    case hs => exact ⟨rfl, trivial⟩
    case hk => rfl
    case h1 =>
      intro wq_9 kq_9
      refine WL.move rfl rfl (?_)
      refine WL.nil ?_
      exact WX.one ⟨rfl, by first | exact Chg.refl _ _ | assumption⟩
    apply DQ.step (E' := [(26, _), (27, _)])
    case ho => rfl
    case hs => exact ⟨rfl, rfl, trivial⟩
    case hk => rfl
    case h1 =>
      intro wq_10 kq_10
      refine WL.add64 rfl rfl (by first | omega | (constructor <;> omega)) rfl (?_)
      refine WL.nil ?_
      exact WX.one ⟨rfl, by first | exact Chg.refl _ _ | assumption⟩
    apply DQ.step (E' := [(25, _), (28, _)])
    case ho => rfl
    case hs => exact ⟨rfl, rfl, trivial⟩
    case hk => rfl
    case h1 =>
      intro wq_11 kq_11
      have zs_kq_11 := kq_11.size
      replace hc := hc.pure kq_11
      replace hw := hw.pure kq_11
      replace hrr := hrr.pure kq_11
      replace hc1 := hc1.pure kq_11
      refine WL.indexC hc.outer Try.underlying22 Try.sizeOf28 rfl rfl ⟨hr, (by omega)⟩ rfl ?_
      refine WL.nil ?_
      exact WX.one ⟨rfl, by first | exact Chg.refl _ _ | assumption⟩
    apply DQ.step (E' := [(29, _)])
    case ho => rfl
    case hs => exact ⟨rfl, trivial⟩
    case hk => rfl
    case h1 =>
      intro wq_12 kq_12
      have zs_kq_12 := kq_12.size
      replace hc := hc.pure kq_12
      replace hw := hw.pure kq_12
      replace hrr := hrr.pure kq_12
      replace hc1 := hc1.pure kq_12
      refine WL.load Try.isAgg28 rfl ((hc.outer.cellsAt hr) 0 _ rfl) rfl (?_)
      refine WL.nil ?_
      exact WX.one ⟨rfl, by first | exact Chg.refl _ _ | assumption⟩
    apply DQ.step (E' := [(30, _)])
    case ho => rfl
    case hs => exact ⟨rfl, trivial⟩
    case hk => rfl
    case h1 =>
      intro wq_13 kq_13
      have zs_kq_13 := kq_13.size
      replace hc := hc.pure kq_13
      replace hw := hw.pure kq_13
      replace hrr := hrr.pure kq_13
      replace hc1 := hc1.pure kq_13
      refine WL.toStr Try.underlying28 Try.underlying5 Try.underlying9 hrr rfl rfl ?_
      refine WL.nil ?_
      exact WX.one ⟨rfl, by first | exact Chg.refl _ _ | assumption⟩
    refine DQ.done (fun hd_2 => ?_)
    refine DL.step [(21, _), (22, _)] rfl ⟨rfl, rfl, trivial⟩ rfl (fun wq_14 kq_14 => ?_)
    have zs_kq_14 := kq_14.size
    replace hc := hc.pure kq_14
    replace hw := hw.pure kq_14
    replace hrr := hrr.pure kq_14
    replace hc1 := hc1.pure kq_14
    replace hd_2 := hd_2.pure kq_14
    refine WL.call eg_17 rfl rfl (parity_calls (q := q) hc1 (by omega) (by omega) (by omega) hm2 hal1) ?_
    rintro v w3 ⟨⟨ap, cp, rfl, hp⟩, k3⟩
    rw [hl1, xss_take] at hp ⊢
    have zs_k3 := k3.size
    replace hc := hc.pure k3
    replace hw := hw.pure k3
    replace hrr := hrr.pure k3
    replace hc1 := hc1.pure k3
    replace hd_2 := hd_2.pure k3
    replace hp := hp.rsl.old
    refine WL.nil ?_
    refine WX.one ⟨hd_2, ?_⟩
    refine DL.step [(23, _)] rfl ⟨rfl, trivial⟩ rfl (fun wq_15 kq_15 => ?_)
    have zs_kq_15 := kq_15.size
    replace hc := hc.pure kq_15
    replace hw := hw.pure kq_15
    replace hrr := hrr.pure kq_15
    replace hc1 := hc1.pure kq_15
    replace hd_2 := hd_2.pure kq_15
    replace hp := hp.pure kq_15
    refine WL.toStr Try.underlying28 Try.underlying5 Try.underlying9 hp rfl rfl ?_
    refine WL.nil ?_
    refine WX.one ⟨hd_2, ?_⟩
    refine DL.step [(24, _), (31, _)] rfl ⟨rfl, rfl, trivial⟩ rfl (fun wq_16 kq_16 => ?_)
    have zs_kq_16 := kq_16.size
    replace hc := hc.pure kq_16
    replace hw := hw.pure kq_16
    replace hrr := hrr.pure kq_16
    replace hc1 := hc1.pure kq_16
    replace hd_2 := hd_2.pure kq_16
    replace hp := hp.pure kq_16
    refine WL.sneq rfl rfl rfl ?_
    refine WL.nil ?_
    refine WX.one ⟨hd_2, ?_⟩
    refine DL.done (fun we_17 ke_17 => ?_)
    have zs_ke_17 := ke_17.size
    replace hc := hc.pure ke_17
    replace hw := hw.pure ke_17
    replace hrr := hrr.pure ke_17
    replace hc1 := hc1.pure ke_17
    replace hd_2 := hd_2.pure ke_17
    replace hp := hp.pure ke_17
    refine WX.then_normal (?_)
    refine WC.cond_dec rfl (fun hc32 => ?_) (fun hc32 => ?_)
    ·
      refine WC.seq (WC.region (WL.assign rfl rfl (WL.assign rfl rfl (WL.nil (WX.then_normal (WC.ret (WX.block_ret (?_))))))))
      refine WX.then_ret (WX.then_ret (WX.block_ret (WX.then_ret (?_))))
      refine WX.ret2 (.inl rfl) Try.results12 rfl rfl ?_
      first
        | (refine ⟨_, rfl, ?_, hw⟩
           rw [chk_no hk (by omega) hr (fun e => hc32 (by rw [e]))])
        | (have hq3 : q = 3 := by omega
           subst hq3
           refine ⟨_, rfl, ?_, hw⟩
           rw [chk_yes hk (fun j r hj hr => hyes j r hj hr)])
    ·
      refine WC.skip (WX.block_normal (WX.then_normal (WC.region (WL.move rfl rfl (WL.add64 rfl rfl (by first | omega | (constructor <;> omega)) rfl (WL.assign rfl rfl (WL.nil (?_))))))))
      refine WX.loop_next (q + 1) ⟨rfl, rfl, rfl, trivial⟩ ⟨by omega, fun j r hj hr' => ?_, hc, hw⟩ (by show _ - _ < _ - _; omega)
      rcases Nat.lt_or_ge j q with h3 | h3
      ·
        exact hyes j r h3 hr'
      ·
        have hjq : j = q := by omega
        subst hjq
        rw [hr] at hr'
        injection hr' with hr'
        rw [← hr']
        exact congrArg (fun s : ByteArray => s.data.toList) (Classical.not_not.1 hc32)
  ·
    refine WL.nil (WX.then_normal (WC.cond_false rfl (WC.exit (WX.then_exit (WX.then_exit (WX.block_here (WX.then_normal (?_))))))))
    refine WC.seq (WC.region (WL.assign rfl rfl (WL.assign rfl rfl (WL.nil (WX.then_normal (WC.ret (?_)))))))
    refine WX.ret2 (.inl rfl) Try.results12 rfl rfl ?_
    first
      | (refine ⟨_, rfl, ?_, hw⟩
         rw [chk_no hk (by omega) hr (fun e => hc32 (by rw [e]))])
      | (have hq3 : q = 3 := by omega
         subst hq3
         refine ⟨_, rfl, ?_, hw⟩
         rw [chk_yes hk (fun j r hj hr => hyes j r hj hr)])
theorem docCheck_bad {S : Nat → Prop} {w : World} {ao : Option Addr} {c : Nat} {rs : List Rw} (hc : RS S w ao c rs) (hl : rs.length * 24 ≤ 140737488351232) (h : ¬ rightR rs) :
    Calls Try.prog 12 [.slice ao rs.length c].toArray w (Ret fun v w' => v = .tuple #[.bool false, vi 1] ∧ Chg Nob w w') := by
  replace hc := hc.old
  have hw := Chg.refl Nob w
  refine Calls.of_WC Try.func12 rfl Try.ntmps12 (by simp) ?_
  refine WC.seq (WC.region (WL.assign rfl rfl (WL.assign rfl rfl (WL.nil (WX.then_normal (WC.seq (WC.region (?_))))))))
  refine WL.move rfl rfl (?_)
  refine WL.call eg_18 rfl rfl (refRight_bad hc hl h) ?_
  rintro v w1 ⟨rfl, k1⟩
  have zs_k1 := k1.size
  replace hc := hc.pure k1
  replace hw := hw.pure k1
  refine WL.assign rfl rfl (WL.nil (WX.then_normal (WC.seq (WC.seq (WC.region (WL.move rfl rfl (?_)))))))
  refine WL.neq rfl rfl rfl ?_
  rw [show decide ((1 : Int) ≠ 0) = true from rfl]
  refine WL.nil (WX.then_normal (WC.cond_true rfl (WC.seq (WC.region (WL.move rfl rfl (WL.assign rfl rfl (WL.assign rfl rfl (?_))))))))
  refine WL.nil (WX.then_normal (WC.ret (WX.then_ret (?_))))
  refine WX.ret2 (.inl rfl) Try.results12 rfl rfl ?_
  exact ⟨_, rfl, rfl, hw⟩
/-- what both answer for Make -/
theorem make_both (rs : List Rw) (hl : bounded rs) : ∃ (ys : List (List UInt8)) (e : Int), ys.length ≤ 3 ∧
    (∀ (S : Nat → Prop) (w : World) (ac : Option Addr) (cc : Nat), RS S w ac cc rs → Calls Try.prog 11 [.slice ac rs.length cc].toArray w (Ret fun v w' => (∃ (ao : Option Addr) (c : Nat) (ps : List Rw), v = .tuple #[.slice ao ps.length c, vi e] ∧ RS (fun _ => True) w' ao c ps ∧ xss ps = ys) ∧ Chg Nob w w')) ∧
    (∀ (S : Nat → Prop) (w : World) (ac : Option Addr) (cc : Nat), RS S w ac cc rs → Calls Try.prog 9 [.slice ac rs.length cc].toArray w (Ret fun v w' => (∃ (ao : Option Addr) (c : Nat) (ps : List Rw), v = .tuple #[.slice ao ps.length c, vi e] ∧ RS (fun _ => True) w' ao c ps ∧ xss ps = ys) ∧ Chg Nob w w')) := by
  have hnil : ∀ w : World, RS (fun _ => True) w none 0 [] := fun w => ⟨RSl.nil _ _ _ _ _, fun r hr => by cases hr⟩
  by_cases h : okM rs
  · obtain ⟨n, hn, _⟩ := lenC_some h.2
    refine ⟨three (xss rs) n rs.length, 0, Nat.le_refl 3, fun S w ac cc hc => docMake_good hc h.1 hn, fun S w ac cc hc => ?_⟩
    refine (make_rs hc h.1 hn).mono ?_
    rintro e w' ⟨v, rfl, ⟨ao, c, ps, rfl, hp, hps⟩, hw⟩
    exact ⟨_, rfl, ⟨ao, c, ps, rfl, hp.mono (fun _ _ => trivial), hps⟩, hw⟩
  · refine ⟨[], 1, by decide, fun S w ac cc hc => ?_, fun S w ac cc hc => ?_⟩
    · refine (docMake_bad hc hl.1 h).mono ?_
      rintro e w' ⟨v, rfl, rfl, hw⟩
      exact ⟨_, rfl, ⟨none, 0, [], rfl, hnil _, rfl⟩, hw⟩
    · refine (make_bad hc hl.1 h).mono ?_
      rintro e w' ⟨v, rfl, rfl, hw⟩
      exact ⟨_, rfl, ⟨none, 0, [], rfl, hnil _, rfl⟩, hw⟩
/-- what both answer for Check -/
theorem check_both (rs : List Rw) (hl : bounded rs) : ∃ (b : Bool) (e : Int),
    (∀ (S : Nat → Prop) (w : World) (ac : Option Addr) (cc : Nat), RS S w ac cc rs → Calls Try.prog 12 [.slice ac rs.length cc].toArray w (Ret fun v w' => v = .tuple #[.bool b, vi e] ∧ Chg Nob w w')) ∧
    (∀ (S : Nat → Prop) (w : World) (ac : Option Addr) (cc : Nat), RS S w ac cc rs → Calls Try.prog 13 [.slice ac rs.length cc].toArray w (Ret fun v w' => v = .tuple #[.bool b, vi e] ∧ Chg Nob w w')) := by
  by_cases h : rightR rs
  · obtain ⟨n, hn, _⟩ := lenC_some h.2.2
    exact ⟨chk rs n, 0, fun S w ac cc hc => docCheck_good hc h hn, fun S w ac cc hc => check_good hc h hn⟩
  · exact ⟨false, 1, fun S w ac cc hc => docCheck_bad hc hl.1 h, fun S w ac cc hc => check_bad hc hl.1 h⟩
set_option maxHeartbeats 1000000 in
theorem parityMakes_calls {w : World} {aa : Option Addr} {ca : Nat} {ra : List Rw} (ha : RS (· < w.heap.size) w aa ca ra) (la : bounded ra) :
    Calls Try.prog 5 [.slice aa ra.length ca].toArray w (Ret fun v w' => v = .bool true ∧ Chg Nob w w') := by
  have hw := Chg.refl Nob w
  obtain ⟨ys, e, hys, hdm, hm⟩ := make_both ra la
  obtain ⟨b, e2, hdc, hc⟩ := check_both ra la
  refine Calls.of_WC Try.func5 rfl Try.ntmps5 (by simp) ?_
  refine WC.seq (WC.region (WL.assign rfl rfl (WL.nil (WX.then_normal (WC.seq (WC.seq (WC.region (?_))))))))
  refine WL.call eg_7 rfl rfl (known3_calls _) ?_
  rintro v w0 ⟨rfl, k0⟩
  have zs_k0 := k0.size
  replace ha := ha.pure k0
  replace hw := hw.pure k0
  refine WL.not rfl rfl (WL.move rfl rfl (WL.want rfl rfl rfl (WL.move rfl rfl (WL.want rfl rfl rfl (?_)))))
  refine WL.call eg_8 rfl rfl (small_calls ha la) ?_
  rintro v w0 ⟨⟨s1, rfl⟩, k0⟩
  have zs_k0 := k0.size
  replace ha := ha.pure k0
  replace hw := hw.pure k0
  rcases s1 with _ | _
  ·
    refine WL.want rfl rfl rfl (WL.not rfl rfl (WL.pickF rfl rfl rfl (WL.nil (WX.then_normal (WC.cond_true rfl (WC.seq (WC.region (?_))))))))
    refine WL.call eg_7 rfl rfl (known3_calls _) ?_
    rintro v w0 ⟨rfl, k0⟩
    have zs_k0 := k0.size
    replace ha := ha.pure k0
    replace hw := hw.pure k0
    refine WL.assign rfl rfl (WL.nil (WX.then_normal (WC.ret (WX.then_ret (?_)))))
    refine WX.ret1 (.inl rfl) Try.results5 rfl ?_
    exact ⟨_, rfl, rfl, hw⟩
  ·
    refine WL.want rfl rfl rfl (WL.not rfl rfl (WL.pickF rfl rfl rfl (WL.nil (WX.then_normal (WC.cond_false rfl (WC.skip (WX.then_normal (?_))))))))
    refine WC.seq (WC.region (WL.move rfl rfl (?_)))
    refine WL.call eg_11 rfl rfl (hdm _ _ _ _ ha) ?_
    rintro v w0 ⟨⟨ap, cp, ps, rfl, hp, hps⟩, k0⟩
    have zs_k0 := k0.size
    replace ha := ha.pure k0
    replace hw := hw.pure k0
    replace hp := hp.old
    refine WL.move rfl rfl (WL.extract rfl rfl rfl (WL.extract rfl rfl rfl (WL.assign rfl rfl (WL.assign rfl rfl (WL.nil (WX.then_normal (WC.seq (?_))))))))
    refine WC.region (WL.move rfl rfl (?_))
    refine WL.call eg_9 rfl rfl (hm _ _ _ _ ha) ?_
    rintro v w0 ⟨⟨aq, cq, qs, rfl, hq, hqs⟩, k0⟩
    have zs_k0 := k0.size
    replace ha := ha.pure k0
    replace hw := hw.pure k0
    replace hp := hp.pure k0
    replace hq := hq.old
    refine WL.move rfl rfl (WL.extract rfl rfl rfl (WL.extract rfl rfl rfl (WL.assign rfl rfl (WL.assign rfl rfl (WL.nil (WX.then_normal (WC.seq (?_))))))))
    refine WC.region (WL.move rfl rfl (?_))
    refine WL.call eg_12 rfl rfl (hdc _ _ _ _ ha) ?_
    rintro v w0 ⟨rfl, k0⟩
    have zs_k0 := k0.size
    replace ha := ha.pure k0
    replace hw := hw.pure k0
    replace hp := hp.pure k0
    replace hq := hq.pure k0
    refine WL.move rfl rfl (WL.extract rfl rfl rfl (WL.extract rfl rfl rfl (WL.assign rfl rfl (WL.assign rfl rfl (WL.nil (WX.then_normal (WC.seq (?_))))))))
    refine WC.region (WL.move rfl rfl (?_))
    refine WL.call eg_13 rfl rfl (hc _ _ _ _ ha) ?_
    rintro v w0 ⟨rfl, k0⟩
    have zs_k0 := k0.size
    replace ha := ha.pure k0
    replace hw := hw.pure k0
    replace hp := hp.pure k0
    replace hq := hq.pure k0
    refine WL.move rfl rfl (WL.extract rfl rfl rfl (WL.extract rfl rfl rfl (WL.assign rfl rfl (WL.assign rfl rfl (WL.nil (WX.then_normal (WC.seq (?_))))))))
    refine WC.region (WL.move rfl rfl (WL.move rfl rfl (?_)))
    refine WL.call eg_10 rfl rfl (same_calls hp hq (by have := xss_len ps; rw [hps] at this; omega)) ?_
    rintro v w0 ⟨rfl, k0⟩
    rw [hps, hqs, show decide (ys = ys) = true from decide_eq_true rfl]
    have zs_k0 := k0.size
    replace ha := ha.pure k0
    replace hw := hw.pure k0
    replace hp := hp.pure k0
    replace hq := hq.pure k0
    refine WL.move rfl rfl (WL.want rfl rfl rfl (WL.move rfl rfl (WL.want rfl rfl rfl (WL.move rfl rfl (WL.want rfl rfl rfl (?_))))))
    refine WL.eql rfl rfl rfl ?_
    rw [eql_self3]
    refine WL.pickT rfl rfl rfl (WL.move rfl rfl (WL.want rfl rfl rfl (WL.move rfl rfl (WL.want rfl rfl rfl (WL.move rfl rfl (WL.want rfl rfl rfl (?_)))))))
    refine WL.beql Try.underlying4 rfl rfl rfl ?_
    rw [show (b == b) = true from by cases b <;> rfl]
    refine WL.pickT rfl rfl rfl (WL.move rfl rfl (WL.want rfl rfl rfl (WL.move rfl rfl (WL.want rfl rfl rfl (WL.move rfl rfl (WL.want rfl rfl rfl (?_)))))))
    refine WL.eql rfl rfl rfl ?_
    rw [eql_self3]
    refine WL.pickT rfl rfl rfl (WL.assign rfl rfl (WL.nil (WX.then_normal (WC.ret (?_)))))
    refine WX.ret1 (.inl rfl) Try.results5 rfl ?_
    exact ⟨_, rfl, rfl, hw⟩
end Go.Proofs.Ytbbpgbdiifmkhaa
