import Derived.Test.YtbbpgbdiifmkhaaGh
import Derived.Test.YtbbpgbdiifmkhaaRq
namespace Go.Proofs.Ytbbpgbdiifmkhaa
open Go.RowKit Go.HL

theorem eql_self3 (a : Int) : decide (a = a) = true := decide_eq_true rfl
theorem neq_self3 (a : Int) : decide (a ≠ a) = false := decide_eq_false (fun h => h rfl)
def okM (rs : List Rw) : Prop := rs.length ≤ 13 ∧ 0 ≤ lenC (xss rs)
def bounded (rs : List Rw) : Prop := rs.length * 24 ≤ 140737488351232 ∧ ∀ r ∈ rs, r.xs.length ≤ 140737488351232
/-- Make, whatever comes of it -/
theorem make_any {S : Nat → Prop} {w : World} {ac : Option Addr} {cc : Nat} {rs : List Rw} (hc : RS S w ac cc rs) (hl : bounded rs) :
    Calls Try.prog 9 [.slice ac rs.length cc].toArray w (Ret fun v w' => (∃ (ao : Option Addr) (n c : Nat) (e : Int), v = .tuple #[.slice ao n c, vi e]) ∧ Chg Nob w w') := by
  by_cases h : okM rs
  · obtain ⟨n, hn, _⟩ := lenC_some h.2
    refine (make_good hc h.1 hn).mono ?_
    rintro e w' ⟨v, rfl, ⟨go, gs, rfl, _⟩, hw⟩
    exact ⟨_, rfl, ⟨_, _, _, _, rfl⟩, hw⟩
  · refine (make_bad hc hl.1 h).mono ?_
    rintro e w' ⟨v, rfl, rfl, hw⟩
    exact ⟨_, rfl, ⟨_, _, _, _, rfl⟩, hw⟩
set_option maxHeartbeats 1000000 in
/-- where the first columns are none -/
theorem paritySums_bad1 {w : World} {aa ab : Option Addr} {ca cb : Nat} {ra rb : List Rw} (ha : RS (· < w.heap.size) w aa ca ra) (hb : RS (· < w.heap.size) w ab cb rb) (la : bounded ra) (lb : bounded rb) (hno : ¬ okM ra) :
    Calls Try.prog 3 [.slice aa ra.length ca, .slice ab rb.length cb].toArray w (Ret fun v w' => v = .bool true ∧ Chg Nob w w') := by
  have hw := Chg.refl Nob w
  refine Calls.of_WC Try.func3 rfl Try.ntmps3 (by simp) ?_
  refine WC.seq (WC.region (WL.assign rfl rfl (WL.nil (WX.then_normal (WC.seq (WC.seq (WC.region (?_))))))))
  refine WL.call eg_7 rfl rfl (known3_calls _) ?_
  rintro v w0 ⟨rfl, k0⟩
  have zs_k0 := k0.size
  replace ha := ha.pure k0
  replace hb := hb.pure k0
  replace hw := hw.pure k0
  refine WL.not rfl rfl (WL.move rfl rfl (WL.want rfl rfl rfl (WL.move rfl rfl (WL.want rfl rfl rfl (?_)))))
  refine WL.call eg_8 rfl rfl (small_calls ha la) ?_
  rintro v w0 ⟨⟨s1, rfl⟩, k0⟩
  have zs_k0 := k0.size
  replace ha := ha.pure k0
  replace hb := hb.pure k0
  replace hw := hw.pure k0
  rcases s1 with _ | _
  ·
    refine WL.want rfl rfl rfl (WL.not rfl rfl (WL.pickF rfl rfl rfl (WL.move rfl rfl (WL.pass rfl rfl rfl rfl (WL.pass rfl rfl rfl rfl (WL.pass rfl rfl rfl rfl (WL.pickT rfl rfl rfl (?_))))))))
    refine WL.nil (WX.then_normal (WC.cond_true rfl (WC.seq (WC.region (?_)))))
    refine WL.call eg_7 rfl rfl (known3_calls _) ?_
    rintro v w0 ⟨rfl, k0⟩
    have zs_k0 := k0.size
    replace ha := ha.pure k0
    replace hb := hb.pure k0
    replace hw := hw.pure k0
    refine WL.assign rfl rfl (WL.nil (WX.then_normal (WC.ret (WX.then_ret (?_)))))
    refine WX.ret1 (.inl rfl) Try.results3 rfl ?_
    exact ⟨_, rfl, rfl, hw⟩
  ·
    refine WL.want rfl rfl rfl (WL.not rfl rfl (WL.pickF rfl rfl rfl (WL.move rfl rfl (WL.want rfl rfl rfl (WL.move rfl rfl (WL.want rfl rfl rfl (?_)))))))
    refine WL.call eg_8 rfl rfl (small_calls hb lb) ?_
    rintro v w0 ⟨⟨s2, rfl⟩, k0⟩
    have zs_k0 := k0.size
    replace ha := ha.pure k0
    replace hb := hb.pure k0
    replace hw := hw.pure k0
    rcases s2 with _ | _
    ·
      refine WL.want rfl rfl rfl (WL.not rfl rfl (WL.pickF rfl rfl rfl (WL.nil (WX.then_normal (WC.cond_true rfl (WC.seq (WC.region (?_))))))))
      refine WL.call eg_7 rfl rfl (known3_calls _) ?_
      rintro v w0 ⟨rfl, k0⟩
      have zs_k0 := k0.size
      replace ha := ha.pure k0
      replace hb := hb.pure k0
      replace hw := hw.pure k0
      refine WL.assign rfl rfl (WL.nil (WX.then_normal (WC.ret (WX.then_ret (?_)))))
      refine WX.ret1 (.inl rfl) Try.results3 rfl ?_
      exact ⟨_, rfl, rfl, hw⟩
    ·
      refine WL.want rfl rfl rfl (WL.not rfl rfl (WL.pickF rfl rfl rfl (WL.nil (WX.then_normal (WC.cond_false rfl (WC.skip (WX.then_normal (?_))))))))
      refine WC.seq (WC.region (WL.move rfl rfl (?_)))
      refine WL.call eg_9 rfl rfl (make_bad ha la.1 hno) ?_
      rintro v w0 ⟨rfl, k0⟩
      have zs_k0 := k0.size
      replace ha := ha.pure k0
      replace hb := hb.pure k0
      replace hw := hw.pure k0
      refine WL.move rfl rfl (WL.extract rfl rfl rfl (WL.extract rfl rfl rfl (WL.assign rfl rfl (WL.assign rfl rfl (WL.nil (WX.then_normal (WC.seq (?_))))))))
      refine WC.region (WL.move rfl rfl (?_))
      refine WL.call eg_9 rfl rfl (make_any hb lb) ?_
      rintro v w0 ⟨⟨aq, nq, cq, eq, rfl⟩, k0⟩
      have zs_k0 := k0.size
      replace ha := ha.pure k0
      replace hb := hb.pure k0
      replace hw := hw.pure k0
      refine WL.move rfl rfl (WL.extract rfl rfl rfl (WL.extract rfl rfl rfl (WL.assign rfl rfl (WL.assign rfl rfl (WL.nil (WX.then_normal (WC.seq (?_))))))))
      refine WC.seq (?_)
      refine WC.draw (Nob) [0, 1, 2, 3, 4, 5, 6, 7, 8, 9, 10, 11, 12, 13, 14, 15, 16, 17, 18, 19, 20, 21, 22, 23] [] mixed rfl rfl (fun wd_1 kd_1 zd_1 => ?_)
      have zs_kd_1 := kd_1.size
      replace ha := ha.pure kd_1
      replace hb := hb.pure kd_1
      replace hw := hw.pure kd_1
      apply DQ.step (E' := [(6, _)])
      case ho => rfl
      case hs => exact ⟨rfl, trivial⟩
      case hk => rfl
      case h1 =>
        intro wq_2 kq_2
        refine WL.move rfl rfl (?_)
        refine WL.nil ?_
        exact WX.one ⟨rfl, by first | exact Chg.refl _ _ | assumption⟩
      apply DQ.step (E' := [(40, _)])
      case ho => rfl
      case hs => exact ⟨rfl, trivial⟩
      case hk => rfl
      case h1 =>
        intro wq_3 kq_3
        refine WL.neq rfl rfl rfl ?_
        rw [show decide ((1 : Int) ≠ 0) = true from rfl]
        refine WL.nil ?_
        exact WX.one ⟨rfl, by first | exact Chg.refl _ _ | assumption⟩
      apply DQ.step (E' := [(41, _)])
      case ho => rfl
      case hs => exact ⟨rfl, trivial⟩
      case hk => rfl
      case h1 =>
        intro wq_4 kq_4
        refine WL.move rfl rfl (?_)
        refine WL.nil ?_
        exact WX.one ⟨rfl, by first | exact Chg.refl _ _ | assumption⟩
      apply DQ.step (E' := [(8, _), (42, _)])
      case ho => rfl
      case hs => exact ⟨rfl, rfl, trivial⟩
      case hk => rfl
      case h1 =>
        intro wq_5 kq_5
        refine WL.pass rfl rfl rfl rfl (WL.nil (?_))
        exact WX.one ⟨rfl, by first | exact Chg.refl _ _ | assumption⟩
      apply DQ.step (E' := [(43, _), (42, _)])
      case ho => rfl
      case hs => exact ⟨rfl, rfl, trivial⟩
      case hk => rfl
      case h1 =>
        intro wq_6 kq_6
        refine WL.pass rfl rfl rfl rfl (WL.nil (?_))
        exact WX.one ⟨rfl, by first | exact Chg.refl _ _ | assumption⟩
      apply DQ.step (E' := [(42, _), (44, _)])
      case ho => rfl
      case hs => exact ⟨rfl, rfl, trivial⟩
      case hk => rfl
      case h1 =>
        intro wq_7 kq_7
        refine WL.pickT rfl rfl rfl (?_)
        refine WL.nil ?_
        exact WX.one ⟨rfl, by first | exact Chg.refl _ _ | assumption⟩
      apply DQ.step (E' := [(45, _)])
      case ho => rfl
      case hs => exact ⟨rfl, trivial⟩
      case hk => rfl
      case h1 =>
        intro wq_8 kq_8
        refine WL.move rfl rfl (?_)
        refine WL.nil ?_
        exact WX.one ⟨rfl, by first | exact Chg.refl _ _ | assumption⟩
      apply DQ.step (E' := [(0, _), (46, _)])
      case ho => rfl
      case hs => exact ⟨rfl, rfl, trivial⟩
      case hk => rfl
      case h1 =>
        intro wq_9 kq_9
        refine WL.pass rfl rfl rfl rfl (WL.nil (?_))
        exact WX.one ⟨rfl, by first | exact Chg.refl _ _ | assumption⟩
      apply DQ.step (E' := [(47, _), (46, _)])
      case ho => rfl
      case hs => exact ⟨rfl, rfl, trivial⟩
      case hk => rfl
      case h1 =>
        intro wq_10 kq_10
        have zs_kq_10 := kq_10.size
        replace ha := ha.pure kq_10
        replace hb := hb.pure kq_10
        replace hw := hw.pure kq_10
        refine WL.pass rfl rfl rfl rfl (WL.nil (?_))
        exact WX.one ⟨rfl, by first | exact Chg.refl _ _ | assumption⟩
      apply DQ.step (E' := [(1, _), (46, _)])
      case ho => rfl
      case hs => exact ⟨rfl, rfl, trivial⟩
      case hk => rfl
      case h1 =>
        intro wq_11 kq_11
        refine WL.pass rfl rfl rfl rfl (WL.nil (?_))
        exact WX.one ⟨rfl, by first | exact Chg.refl _ _ | assumption⟩
      apply DQ.step (E' := [(49, _), (46, _)])
      case ho => rfl
      case hs => exact ⟨rfl, rfl, trivial⟩
      case hk => rfl
      case h1 =>
        intro wq_12 kq_12
        have zs_kq_12 := kq_12.size
        replace ha := ha.pure kq_12
        replace hb := hb.pure kq_12
        replace hw := hw.pure kq_12
        refine WL.pass rfl rfl rfl rfl (WL.nil (?_))
        exact WX.one ⟨rfl, by first | exact Chg.refl _ _ | assumption⟩
      apply DQ.step (E' := [(48, _), (50, _), (46, _)])
      case ho => rfl
      case hs => exact ⟨rfl, rfl, rfl, trivial⟩
      case hk => rfl
      case h1 =>
        intro wq_13 kq_13
        refine WL.pass rfl rfl rfl rfl (WL.nil (?_))
        exact WX.one ⟨rfl, by first | exact Chg.refl _ _ | assumption⟩
      apply DQ.step (E' := [(46, _), (51, _)])
      case ho => rfl
      case hs => exact ⟨rfl, rfl, trivial⟩
      case hk => rfl
      case h1 =>
        intro wq_14 kq_14
        refine WL.pickT rfl rfl rfl (?_)
        refine WL.nil ?_
        exact WX.one ⟨rfl, by first | exact Chg.refl _ _ | assumption⟩
      apply DQ.step (E' := [(52, _)])
      case ho => rfl
      case hs => exact ⟨rfl, trivial⟩
      case hk => rfl
      case h1 =>
        intro wq_15 kq_15
        refine WL.move rfl rfl (?_)
        refine WL.nil ?_
        exact WX.one ⟨rfl, by first | exact Chg.refl _ _ | assumption⟩
      apply DQ.step (E' := [(0, _), (53, _)])
      case ho => rfl
      case hs => exact ⟨rfl, rfl, trivial⟩
      case hk => rfl
      case h1 =>
        intro wq_16 kq_16
        refine WL.pass rfl rfl rfl rfl (WL.nil (?_))
        exact WX.one ⟨rfl, by first | exact Chg.refl _ _ | assumption⟩
      apply DQ.step (E' := [(54, _), (53, _)])
      case ho => rfl
      case hs => exact ⟨rfl, rfl, trivial⟩
      case hk => rfl
      case h1 =>
        intro wq_17 kq_17
        have zs_kq_17 := kq_17.size
        replace ha := ha.pure kq_17
        replace hb := hb.pure kq_17
        replace hw := hw.pure kq_17
        refine WL.pass rfl rfl rfl rfl (WL.nil (?_))
        exact WX.one ⟨rfl, by first | exact Chg.refl _ _ | assumption⟩
      apply DQ.step (E' := [(55, _), (53, _)])
      case ho => rfl
      case hs => exact ⟨rfl, rfl, trivial⟩
      case hk => rfl
      case h1 =>
        intro wq_18 kq_18
        have zs_kq_18 := kq_18.size
        replace ha := ha.pure kq_18
        replace hb := hb.pure kq_18
        replace hw := hw.pure kq_18
        refine WL.pass rfl rfl rfl rfl (WL.nil (?_))
        exact WX.one ⟨rfl, by first | exact Chg.refl _ _ | assumption⟩
      apply DQ.step (E' := [(56, _), (53, _)])
      case ho => rfl
      case hs => exact ⟨rfl, rfl, trivial⟩
      case hk => rfl
      case h1 =>
        intro wq_19 kq_19
        have zs_kq_19 := kq_19.size
        replace ha := ha.pure kq_19
        replace hb := hb.pure kq_19
        replace hw := hw.pure kq_19
        refine WL.pass rfl rfl rfl rfl (WL.nil (?_))
        exact WX.one ⟨rfl, by first | exact Chg.refl _ _ | assumption⟩
      apply DQ.step (E' := [(1, _), (53, _)])
      case ho => rfl
      case hs => exact ⟨rfl, rfl, trivial⟩
      case hk => rfl
      case h1 =>
        intro wq_20 kq_20
        refine WL.pass rfl rfl rfl rfl (WL.nil (?_))
        exact WX.one ⟨rfl, by first | exact Chg.refl _ _ | assumption⟩
      apply DQ.step (E' := [(58, _), (53, _)])
      case ho => rfl
      case hs => exact ⟨rfl, rfl, trivial⟩
      case hk => rfl
      case h1 =>
        intro wq_21 kq_21
        have zs_kq_21 := kq_21.size
        replace ha := ha.pure kq_21
        replace hb := hb.pure kq_21
        replace hw := hw.pure kq_21
        refine WL.pass rfl rfl rfl rfl (WL.nil (?_))
        exact WX.one ⟨rfl, by first | exact Chg.refl _ _ | assumption⟩
      apply DQ.step (E' := [(59, _), (53, _)])
      case ho => rfl
      case hs => exact ⟨rfl, rfl, trivial⟩
      case hk => rfl
      case h1 =>
        intro wq_22 kq_22
        have zs_kq_22 := kq_22.size
        replace ha := ha.pure kq_22
        replace hb := hb.pure kq_22
        replace hw := hw.pure kq_22
        refine WL.pass rfl rfl rfl rfl (WL.nil (?_))
        exact WX.one ⟨rfl, by first | exact Chg.refl _ _ | assumption⟩
      apply DQ.step (E' := [(60, _), (53, _)])
      case ho => rfl
      case hs => exact ⟨rfl, rfl, trivial⟩
      case hk => rfl
      case h1 =>
        intro wq_23 kq_23
        have zs_kq_23 := kq_23.size
        replace ha := ha.pure kq_23
        replace hb := hb.pure kq_23
        replace hw := hw.pure kq_23
        refine WL.pass rfl rfl rfl rfl (WL.nil (?_))
        exact WX.one ⟨rfl, by first | exact Chg.refl _ _ | assumption⟩
      apply DQ.step (E' := [(57, _), (61, _), (53, _)])
      case ho => rfl
      case hs => exact ⟨rfl, rfl, rfl, trivial⟩
      case hk => rfl
      case h1 =>
        intro wq_24 kq_24
        refine WL.pass rfl rfl rfl rfl (WL.nil (?_))
        exact WX.one ⟨rfl, by first | exact Chg.refl _ _ | assumption⟩
      apply DQ.step (E' := [(53, _), (62, _)])
      case ho => rfl
      case hs => exact ⟨rfl, rfl, trivial⟩
      case hk => rfl
      case h1 =>
        intro wq_25 kq_25
        refine WL.pickT rfl rfl rfl (?_)
        refine WL.nil ?_
        exact WX.one ⟨rfl, by first | exact Chg.refl _ _ | assumption⟩
      refine DQ.done (fun _ => ?_)
      refine DL.done (fun we_26 ke_26 => ?_)
      have zs_ke_26 := ke_26.size
      replace ha := ha.pure ke_26
      replace hb := hb.pure ke_26
      replace hw := hw.pure ke_26
      refine WX.then_normal (WC.cond_true rfl (WC.seq (WC.region (WL.assign rfl rfl (WL.nil (WX.then_normal (WC.ret (?_))))))))
      refine WX.then_ret (?_)
      refine WX.ret1 (.inl rfl) Try.results3 rfl ?_
      exact ⟨_, rfl, rfl, hw⟩
set_option maxHeartbeats 1000000 in
/-- where the second columns are none -/
theorem paritySums_bad2 {w : World} {aa ab : Option Addr} {ca cb : Nat} {ra rb : List Rw} (ha : RS (· < w.heap.size) w aa ca ra) (hb : RS (· < w.heap.size) w ab cb rb) (la : bounded ra) (lb : bounded rb) (n : Nat) (hok : ra.length ≤ 13) (hn : lenC (xss ra) = (n : Int)) (hno : ¬ okM rb) :
    Calls Try.prog 3 [.slice aa ra.length ca, .slice ab rb.length cb].toArray w (Ret fun v w' => v = .bool true ∧ Chg Nob w w') := by
  have hw := Chg.refl Nob w
  refine Calls.of_WC Try.func3 rfl Try.ntmps3 (by simp) ?_
  refine WC.seq (WC.region (WL.assign rfl rfl (WL.nil (WX.then_normal (WC.seq (WC.seq (WC.region (?_))))))))
  refine WL.call eg_7 rfl rfl (known3_calls _) ?_
  rintro v w0 ⟨rfl, k0⟩
  have zs_k0 := k0.size
  replace ha := ha.pure k0
  replace hb := hb.pure k0
  replace hw := hw.pure k0
  refine WL.not rfl rfl (WL.move rfl rfl (WL.want rfl rfl rfl (WL.move rfl rfl (WL.want rfl rfl rfl (?_)))))
  refine WL.call eg_8 rfl rfl (small_calls ha la) ?_
  rintro v w0 ⟨⟨s1, rfl⟩, k0⟩
  have zs_k0 := k0.size
  replace ha := ha.pure k0
  replace hb := hb.pure k0
  replace hw := hw.pure k0
  rcases s1 with _ | _
  ·
    refine WL.want rfl rfl rfl (WL.not rfl rfl (WL.pickF rfl rfl rfl (WL.move rfl rfl (WL.pass rfl rfl rfl rfl (WL.pass rfl rfl rfl rfl (WL.pass rfl rfl rfl rfl (WL.pickT rfl rfl rfl (?_))))))))
    refine WL.nil (WX.then_normal (WC.cond_true rfl (WC.seq (WC.region (?_)))))
    refine WL.call eg_7 rfl rfl (known3_calls _) ?_
    rintro v w0 ⟨rfl, k0⟩
    have zs_k0 := k0.size
    replace ha := ha.pure k0
    replace hb := hb.pure k0
    replace hw := hw.pure k0
    refine WL.assign rfl rfl (WL.nil (WX.then_normal (WC.ret (WX.then_ret (?_)))))
    refine WX.ret1 (.inl rfl) Try.results3 rfl ?_
    exact ⟨_, rfl, rfl, hw⟩
  ·
    refine WL.want rfl rfl rfl (WL.not rfl rfl (WL.pickF rfl rfl rfl (WL.move rfl rfl (WL.want rfl rfl rfl (WL.move rfl rfl (WL.want rfl rfl rfl (?_)))))))
    refine WL.call eg_8 rfl rfl (small_calls hb lb) ?_
    rintro v w0 ⟨⟨s2, rfl⟩, k0⟩
    have zs_k0 := k0.size
    replace ha := ha.pure k0
    replace hb := hb.pure k0
    replace hw := hw.pure k0
    rcases s2 with _ | _
    ·
      refine WL.want rfl rfl rfl (WL.not rfl rfl (WL.pickF rfl rfl rfl (WL.nil (WX.then_normal (WC.cond_true rfl (WC.seq (WC.region (?_))))))))
      refine WL.call eg_7 rfl rfl (known3_calls _) ?_
      rintro v w0 ⟨rfl, k0⟩
      have zs_k0 := k0.size
      replace ha := ha.pure k0
      replace hb := hb.pure k0
      replace hw := hw.pure k0
      refine WL.assign rfl rfl (WL.nil (WX.then_normal (WC.ret (WX.then_ret (?_)))))
      refine WX.ret1 (.inl rfl) Try.results3 rfl ?_
      exact ⟨_, rfl, rfl, hw⟩
    ·
      refine WL.want rfl rfl rfl (WL.not rfl rfl (WL.pickF rfl rfl rfl (WL.nil (WX.then_normal (WC.cond_false rfl (WC.skip (WX.then_normal (?_))))))))
      refine WC.seq (WC.region (WL.move rfl rfl (?_)))
      refine WL.call eg_9 rfl rfl (make_rs ha hok hn) ?_
      rintro v w0 ⟨⟨ap, cp, ps, rfl, hp, hps⟩, k0⟩
      have zs_k0 := k0.size
      replace ha := ha.pure k0
      replace hb := hb.pure k0
      replace hw := hw.pure k0
      refine WL.move rfl rfl (WL.extract rfl rfl rfl (WL.extract rfl rfl rfl (WL.assign rfl rfl (WL.assign rfl rfl (WL.nil (WX.then_normal (WC.seq (?_))))))))
      refine WC.region (WL.move rfl rfl (?_))
      refine WL.call eg_9 rfl rfl (make_bad hb lb.1 hno) ?_
      rintro v w0 ⟨rfl, k0⟩
      have zs_k0 := k0.size
      replace ha := ha.pure k0
      replace hb := hb.pure k0
      replace hw := hw.pure k0
      refine WL.move rfl rfl (WL.extract rfl rfl rfl (WL.extract rfl rfl rfl (WL.assign rfl rfl (WL.assign rfl rfl (WL.nil (WX.then_normal (WC.seq (?_))))))))
      refine WC.seq (?_)
      refine WC.draw (Nob) [0, 1, 2, 3, 4, 5, 6, 7, 8, 9, 10, 11, 12, 13, 14, 15, 16, 17, 18, 19, 20, 21, 22, 23] [] mixed rfl rfl (fun wd_1 kd_1 zd_1 => ?_)
      have zs_kd_1 := kd_1.size
      replace ha := ha.pure kd_1
      replace hb := hb.pure kd_1
      replace hw := hw.pure kd_1
      apply DQ.step (E' := [(6, _)])
      case ho => rfl
      case hs => exact ⟨rfl, trivial⟩
      case hk => rfl
      case h1 =>
        intro wq_2 kq_2
        refine WL.move rfl rfl (?_)
        refine WL.nil ?_
        exact WX.one ⟨rfl, by first | exact Chg.refl _ _ | assumption⟩
      apply DQ.step (E' := [(40, _)])
      case ho => rfl
      case hs => exact ⟨rfl, trivial⟩
      case hk => rfl
      case h1 =>
        intro wq_3 kq_3
        refine WL.neq rfl rfl rfl ?_
        rw [show decide ((0 : Int) ≠ 0) = false from rfl]
        refine WL.nil ?_
        exact WX.one ⟨rfl, by first | exact Chg.refl _ _ | assumption⟩
      apply DQ.step (E' := [(41, _)])
      case ho => rfl
      case hs => exact ⟨rfl, trivial⟩
      case hk => rfl
      case h1 =>
        intro wq_4 kq_4
        refine WL.move rfl rfl (?_)
        refine WL.nil ?_
        exact WX.one ⟨rfl, by first | exact Chg.refl _ _ | assumption⟩
      apply DQ.step (E' := [(8, _), (42, _)])
      case ho => rfl
      case hs => exact ⟨rfl, rfl, trivial⟩
      case hk => rfl
      case h1 =>
        intro wq_5 kq_5
        refine WL.want rfl rfl rfl (WL.move rfl rfl (?_))
        refine WL.nil ?_
        exact WX.one ⟨rfl, by first | exact Chg.refl _ _ | assumption⟩
      apply DQ.step (E' := [(43, _), (42, _)])
      case ho => rfl
      case hs => exact ⟨rfl, rfl, trivial⟩
      case hk => rfl
      case h1 =>
        intro wq_6 kq_6
        refine WL.want rfl rfl rfl (?_)
        refine WL.neq rfl rfl rfl ?_
        rw [show decide ((1 : Int) ≠ 0) = true from rfl]
        refine WL.nil ?_
        exact WX.one ⟨rfl, by first | exact Chg.refl _ _ | assumption⟩
      apply DQ.step (E' := [(42, _), (44, _)])
      case ho => rfl
      case hs => exact ⟨rfl, rfl, trivial⟩
      case hk => rfl
      case h1 =>
        intro wq_7 kq_7
        refine WL.pickF rfl rfl rfl (?_)
        refine WL.nil ?_
        exact WX.one ⟨rfl, by first | exact Chg.refl _ _ | assumption⟩
      apply DQ.step (E' := [(45, _)])
      case ho => rfl
      case hs => exact ⟨rfl, trivial⟩
      case hk => rfl
      case h1 =>
        intro wq_8 kq_8
        refine WL.move rfl rfl (?_)
        refine WL.nil ?_
        exact WX.one ⟨rfl, by first | exact Chg.refl _ _ | assumption⟩
      apply DQ.step (E' := [(0, _), (46, _)])
      case ho => rfl
      case hs => exact ⟨rfl, rfl, trivial⟩
      case hk => rfl
      case h1 =>
        intro wq_9 kq_9
        refine WL.pass rfl rfl rfl rfl (WL.nil (?_))
        exact WX.one ⟨rfl, by first | exact Chg.refl _ _ | assumption⟩
      apply DQ.step (E' := [(47, _), (46, _)])
      case ho => rfl
      case hs => exact ⟨rfl, rfl, trivial⟩
      case hk => rfl
      case h1 =>
        intro wq_10 kq_10
        have zs_kq_10 := kq_10.size
        replace ha := ha.pure kq_10
        replace hb := hb.pure kq_10
        replace hw := hw.pure kq_10
        refine WL.pass rfl rfl rfl rfl (WL.nil (?_))
        exact WX.one ⟨rfl, by first | exact Chg.refl _ _ | assumption⟩
      apply DQ.step (E' := [(1, _), (46, _)])
      case ho => rfl
      case hs => exact ⟨rfl, rfl, trivial⟩
      case hk => rfl
      case h1 =>
        intro wq_11 kq_11
        refine WL.pass rfl rfl rfl rfl (WL.nil (?_))
        exact WX.one ⟨rfl, by first | exact Chg.refl _ _ | assumption⟩
      apply DQ.step (E' := [(49, _), (46, _)])
      case ho => rfl
      case hs => exact ⟨rfl, rfl, trivial⟩
      case hk => rfl
      case h1 =>
        intro wq_12 kq_12
        have zs_kq_12 := kq_12.size
        replace ha := ha.pure kq_12
        replace hb := hb.pure kq_12
        replace hw := hw.pure kq_12
        refine WL.pass rfl rfl rfl rfl (WL.nil (?_))
        exact WX.one ⟨rfl, by first | exact Chg.refl _ _ | assumption⟩
      apply DQ.step (E' := [(48, _), (50, _), (46, _)])
      case ho => rfl
      case hs => exact ⟨rfl, rfl, rfl, trivial⟩
      case hk => rfl
      case h1 =>
        intro wq_13 kq_13
        refine WL.pass rfl rfl rfl rfl (WL.nil (?_))
        exact WX.one ⟨rfl, by first | exact Chg.refl _ _ | assumption⟩
      apply DQ.step (E' := [(46, _), (51, _)])
      case ho => rfl
      case hs => exact ⟨rfl, rfl, trivial⟩
      case hk => rfl
      case h1 =>
        intro wq_14 kq_14
        refine WL.pickT rfl rfl rfl (?_)
        refine WL.nil ?_
        exact WX.one ⟨rfl, by first | exact Chg.refl _ _ | assumption⟩
      apply DQ.step (E' := [(52, _)])
      case ho => rfl
      case hs => exact ⟨rfl, trivial⟩
      case hk => rfl
      case h1 =>
        intro wq_15 kq_15
        refine WL.move rfl rfl (?_)
        refine WL.nil ?_
        exact WX.one ⟨rfl, by first | exact Chg.refl _ _ | assumption⟩
      apply DQ.step (E' := [(0, _), (53, _)])
      case ho => rfl
      case hs => exact ⟨rfl, rfl, trivial⟩
      case hk => rfl
      case h1 =>
        intro wq_16 kq_16
        refine WL.pass rfl rfl rfl rfl (WL.nil (?_))
        exact WX.one ⟨rfl, by first | exact Chg.refl _ _ | assumption⟩
      apply DQ.step (E' := [(54, _), (53, _)])
      case ho => rfl
      case hs => exact ⟨rfl, rfl, trivial⟩
      case hk => rfl
      case h1 =>
        intro wq_17 kq_17
        have zs_kq_17 := kq_17.size
        replace ha := ha.pure kq_17
        replace hb := hb.pure kq_17
        replace hw := hw.pure kq_17
        refine WL.pass rfl rfl rfl rfl (WL.nil (?_))
        exact WX.one ⟨rfl, by first | exact Chg.refl _ _ | assumption⟩
      apply DQ.step (E' := [(55, _), (53, _)])
      case ho => rfl
      case hs => exact ⟨rfl, rfl, trivial⟩
      case hk => rfl
      case h1 =>
        intro wq_18 kq_18
        have zs_kq_18 := kq_18.size
        replace ha := ha.pure kq_18
        replace hb := hb.pure kq_18
        replace hw := hw.pure kq_18
        refine WL.pass rfl rfl rfl rfl (WL.nil (?_))
        exact WX.one ⟨rfl, by first | exact Chg.refl _ _ | assumption⟩
      apply DQ.step (E' := [(56, _), (53, _)])
      case ho => rfl
      case hs => exact ⟨rfl, rfl, trivial⟩
      case hk => rfl
      case h1 =>
        intro wq_19 kq_19
        have zs_kq_19 := kq_19.size
        replace ha := ha.pure kq_19
        replace hb := hb.pure kq_19
        replace hw := hw.pure kq_19
        refine WL.pass rfl rfl rfl rfl (WL.nil (?_))
        exact WX.one ⟨rfl, by first | exact Chg.refl _ _ | assumption⟩
      apply DQ.step (E' := [(1, _), (53, _)])
      case ho => rfl
      case hs => exact ⟨rfl, rfl, trivial⟩
      case hk => rfl
      case h1 =>
        intro wq_20 kq_20
        refine WL.pass rfl rfl rfl rfl (WL.nil (?_))
        exact WX.one ⟨rfl, by first | exact Chg.refl _ _ | assumption⟩
      apply DQ.step (E' := [(58, _), (53, _)])
      case ho => rfl
      case hs => exact ⟨rfl, rfl, trivial⟩
      case hk => rfl
      case h1 =>
        intro wq_21 kq_21
        have zs_kq_21 := kq_21.size
        replace ha := ha.pure kq_21
        replace hb := hb.pure kq_21
        replace hw := hw.pure kq_21
        refine WL.pass rfl rfl rfl rfl (WL.nil (?_))
        exact WX.one ⟨rfl, by first | exact Chg.refl _ _ | assumption⟩
      apply DQ.step (E' := [(59, _), (53, _)])
      case ho => rfl
      case hs => exact ⟨rfl, rfl, trivial⟩
      case hk => rfl
      case h1 =>
        intro wq_22 kq_22
        have zs_kq_22 := kq_22.size
        replace ha := ha.pure kq_22
        replace hb := hb.pure kq_22
        replace hw := hw.pure kq_22
        refine WL.pass rfl rfl rfl rfl (WL.nil (?_))
        exact WX.one ⟨rfl, by first | exact Chg.refl _ _ | assumption⟩
      apply DQ.step (E' := [(60, _), (53, _)])
      case ho => rfl
      case hs => exact ⟨rfl, rfl, trivial⟩
      case hk => rfl
      case h1 =>
        intro wq_23 kq_23
        have zs_kq_23 := kq_23.size
        replace ha := ha.pure kq_23
        replace hb := hb.pure kq_23
        replace hw := hw.pure kq_23
        refine WL.pass rfl rfl rfl rfl (WL.nil (?_))
        exact WX.one ⟨rfl, by first | exact Chg.refl _ _ | assumption⟩
      apply DQ.step (E' := [(57, _), (61, _), (53, _)])
      case ho => rfl
      case hs => exact ⟨rfl, rfl, rfl, trivial⟩
      case hk => rfl
      case h1 =>
        intro wq_24 kq_24
        refine WL.pass rfl rfl rfl rfl (WL.nil (?_))
        exact WX.one ⟨rfl, by first | exact Chg.refl _ _ | assumption⟩
      apply DQ.step (E' := [(53, _), (62, _)])
      case ho => rfl
      case hs => exact ⟨rfl, rfl, trivial⟩
      case hk => rfl
      case h1 =>
        intro wq_25 kq_25
        refine WL.pickT rfl rfl rfl (?_)
        refine WL.nil ?_
        exact WX.one ⟨rfl, by first | exact Chg.refl _ _ | assumption⟩
      refine DQ.done (fun _ => ?_)
      refine DL.done (fun we_26 ke_26 => ?_)
      have zs_ke_26 := ke_26.size
      replace ha := ha.pure ke_26
      replace hb := hb.pure ke_26
      replace hw := hw.pure ke_26
      refine WX.then_normal (WC.cond_true rfl (WC.seq (WC.region (WL.assign rfl rfl (WL.nil (WX.then_normal (WC.ret (?_))))))))
      refine WX.then_ret (?_)
      refine WX.ret1 (.inl rfl) Try.results3 rfl ?_
      exact ⟨_, rfl, rfl, hw⟩
end Go.Proofs.Ytbbpgbdiifmkhaa
