import Derived.Test.YtbbpgbdiifmkhaaGi
namespace Go.Proofs.Ytbbpgbdiifmkhaa
open Go.RowKit Go.HL

theorem three_at {cols : List (List UInt8)} {n m i : Nat} (h : i < 3) : (three cols n m)[i]? = some (prow (wtq i) cols n m) := by
  have h3 : i = 0 ∨ i = 1 ∨ i = 2 := by omega
  rcases h3 with rfl | rfl | rfl <;> rfl
theorem xss_at {rs : List Rw} {i : Nat} {r : Rw} (h : rs[i]? = some r) : (xss rs)[i]? = some r.xs := by rw [xss, List.getElem?_map, h]; rfl
theorem xss_getD {rs : List Rw} {i : Nat} {r : Rw} (h : rs[i]? = some r) : (xss rs).getD i [] = r.xs := by rw [List.getD_eq_getElem?_getD, xss_at h]; rfl
theorem xss_len (rs : List Rw) : (xss rs).length = rs.length := by rw [xss, List.length_map]
/-- a row of the three, and a byte of it -/
theorem three_row {ps : List Rw} {cols : List (List UInt8)} {n m i : Nat} (hps : xss ps = three cols n m) (h : i < 3) (hall : ∀ d ∈ cols, d.length = n) (hm : m ≤ cols.length) :
    ∃ (ao : Option Addr) (c : Nat) (xs : List UInt8), ps[i]? = some ⟨ao, c, xs⟩ ∧ xs.length = n ∧ ∀ k, k < n → xs[k]? = some (px (wtq i) cols k m) := by
  have hl : ps.length = 3 := by rw [← xss_len, hps]; rfl
  obtain ⟨⟨ao, c, xs⟩, hr⟩ : ∃ r, ps[i]? = some r := ⟨_, List.getElem?_eq_getElem (by omega)⟩
  have h1 := xss_at hr
  rw [hps, three_at h] at h1
  injection h1 with h1
  simp only at h1
  exact ⟨ao, c, xs, hr, by rw [← h1]; exact prow_len hall hm, fun k hk => by rw [← h1]; exact prow_at hall hk hm⟩
theorem xorL_getD {a b : List UInt8} (h : b.length = a.length) (k : Nat) : (xorL a b).getD k 0 = a.getD k 0 ^^^ b.getD k 0 := by
  simp only [List.getD_eq_getElem?_getD]
  rcases Nat.lt_or_ge k a.length with h1 | h1
  · have ha : a[k]? = some a[k] := List.getElem?_eq_getElem h1
    have hb : b[k]? = some b[k] := List.getElem?_eq_getElem (by omega)
    rw [xorL_at ha hb, ha, hb]
    rfl
  · rw [List.getElem?_eq_none (by rw [xorL_len h]; omega), List.getElem?_eq_none h1, List.getElem?_eq_none (by omega)]
    decide
set_option maxHeartbeats 8000000 in
theorem paritySums_good {w : World} {aa ab : Option Addr} {ca cb : Nat} {ra rb : List Rw} (ha : RS (· < w.heap.size) w aa ca ra) (hb : RS (· < w.heap.size) w ab cb rb) (la : bounded ra) (lb : bounded rb) (na nb : Nat) (hoka : ra.length ≤ 13) (hna : lenC (xss ra) = (na : Int)) (hokb : rb.length ≤ 13) (hnb : lenC (xss rb) = (nb : Int)) :
    Calls Try.prog 3 [.slice aa ra.length ca, .slice ab rb.length cb].toArray w (Ret fun v w' => v = .bool true ∧ Chg Nob w w') := by
  have hw := Chg.refl Nob w
  obtain ⟨ma, hma, hma1, hma2, hnea, halla⟩ := lenC_some (cols := xss ra) (by omega)
  obtain ⟨mb, hmb, hmb1, hmb2, hneb, hallb⟩ := lenC_some (cols := xss rb) (by omega)
  have hmna : ma = na := by omega
  have hmnb : mb = nb := by omega
  subst hmna
  subst hmnb
  have hla : 0 < ra.length := by
    rcases Nat.eq_zero_or_pos ra.length with h | h
    · exact absurd (by rw [List.eq_nil_of_length_eq_zero h]; rfl) hnea
    · exact h
  have hlb : 0 < rb.length := by
    rcases Nat.eq_zero_or_pos rb.length with h | h
    · exact absurd (by rw [List.eq_nil_of_length_eq_zero h]; rfl) hneb
    · exact h
  refine Calls.of_WC Try.func3 rfl Try.ntmps3 (by simp) ?_
  refine WC.seq (WC.region (WL.assign rfl rfl (WL.nil (WX.then_normal (WC.seq (WC.seq (WC.region (?_))))))))
  refine WL.call eg_7 rfl rfl (known3_calls _) ?_
  rintro v w0 ⟨rfl, k0⟩
  have zs_k0 := k0.size
  replace ha := ha.pure k0
  replace hb := hb.pure k0
  replace hw := hw.pure k0
  refine WL.not rfl rfl (WL.move rfl rfl (WL.want rfl rfl rfl (WL.move rfl rfl (WL.want rfl rfl rfl (?_)))))
  refine WL.call eg_8 rfl rfl (small_calls ha la) ?_
  rintro v w0 ⟨⟨s1, rfl⟩, k0⟩
  have zs_k0 := k0.size
  replace ha := ha.pure k0
  replace hb := hb.pure k0
  replace hw := hw.pure k0
  rcases s1 with _ | _
  ·
    refine WL.want rfl rfl rfl (WL.not rfl rfl (WL.pickF rfl rfl rfl (WL.move rfl rfl (WL.pass rfl rfl rfl rfl (WL.pass rfl rfl rfl rfl (WL.pass rfl rfl rfl rfl (WL.pickT rfl rfl rfl (?_))))))))
    refine WL.nil (WX.then_normal (WC.cond_true rfl (WC.seq (WC.region (?_)))))
    refine WL.call eg_7 rfl rfl (known3_calls _) ?_
    rintro v w0 ⟨rfl, k0⟩
    have zs_k0 := k0.size
    replace ha := ha.pure k0
    replace hb := hb.pure k0
    replace hw := hw.pure k0
    refine WL.assign rfl rfl (WL.nil (WX.then_normal (WC.ret (WX.then_ret (?_)))))
    refine WX.ret1 (.inl rfl) Try.results3 rfl ?_
    exact ⟨_, rfl, rfl, hw⟩
  ·
    refine WL.want rfl rfl rfl (WL.not rfl rfl (WL.pickF rfl rfl rfl (WL.move rfl rfl (WL.want rfl rfl rfl (WL.move rfl rfl (WL.want rfl rfl rfl (?_)))))))
    refine WL.call eg_8 rfl rfl (small_calls hb lb) ?_
    rintro v w0 ⟨⟨s2, rfl⟩, k0⟩
    have zs_k0 := k0.size
    replace ha := ha.pure k0
    replace hb := hb.pure k0
    replace hw := hw.pure k0
    rcases s2 with _ | _
    ·
      refine WL.want rfl rfl rfl (WL.not rfl rfl (WL.pickF rfl rfl rfl (WL.nil (WX.then_normal (WC.cond_true rfl (WC.seq (WC.region (?_))))))))
      refine WL.call eg_7 rfl rfl (known3_calls _) ?_
      rintro v w0 ⟨rfl, k0⟩
      have zs_k0 := k0.size
      replace ha := ha.pure k0
      replace hb := hb.pure k0
      replace hw := hw.pure k0
      refine WL.assign rfl rfl (WL.nil (WX.then_normal (WC.ret (WX.then_ret (?_)))))
      refine WX.ret1 (.inl rfl) Try.results3 rfl ?_
      exact ⟨_, rfl, rfl, hw⟩
    ·
      refine WL.want rfl rfl rfl (WL.not rfl rfl (WL.pickF rfl rfl rfl (WL.nil (WX.then_normal (WC.cond_false rfl (WC.skip (WX.then_normal (?_))))))))
      refine WC.seq (WC.region (WL.move rfl rfl (?_)))
      refine WL.call eg_9 rfl rfl (make_rs ha hoka hna) ?_
      rintro v w0 ⟨⟨ap, cp, ps, rfl, hp, hps⟩, k0⟩
      have zs_k0 := k0.size
      replace ha := ha.pure k0
      replace hb := hb.pure k0
      replace hw := hw.pure k0
      replace hp := hp.old
      refine WL.move rfl rfl (WL.extract rfl rfl rfl (WL.extract rfl rfl rfl (WL.assign rfl rfl (WL.assign rfl rfl (WL.nil (WX.then_normal (WC.seq (?_))))))))
      refine WC.region (WL.move rfl rfl (?_))
      refine WL.call eg_9 rfl rfl (make_rs hb hokb hnb) ?_
      rintro v w0 ⟨⟨aq, cq, qs, rfl, hq, hqs⟩, k0⟩
      have zs_k0 := k0.size
      replace ha := ha.pure k0
      replace hb := hb.pure k0
      replace hw := hw.pure k0
      replace hp := hp.pure k0
      replace hq := hq.old
      refine WL.move rfl rfl (WL.extract rfl rfl rfl (WL.extract rfl rfl rfl (WL.assign rfl rfl (WL.assign rfl rfl (WL.nil (WX.then_normal (WC.seq (?_))))))))
      refine WC.seq (?_)
      obtain ⟨r0, hr0⟩ : ∃ r0, ra[0]? = some r0 := ⟨_, List.getElem?_eq_getElem hla⟩
      obtain ⟨s0, hs0⟩ : ∃ s0, rb[0]? = some s0 := ⟨_, List.getElem?_eq_getElem hlb⟩
      have hr0l := halla _ (xss_mem hr0)
      have hs0l := hallb _ (xss_mem hs0)
      obtain ⟨b1, o1, rfl⟩ := ha.outer.place hr0
      obtain ⟨b2, o2, rfl⟩ := hb.outer.place hs0
      refine WC.draw (Nob) [0, 1, 2, 3, 4, 5, 6, 7, 8, 9, 10, 11, 12, 13, 14, 15, 16, 17, 18, 19, 20, 21, 22, 23] [] mixed rfl rfl (fun wd_1 kd_1 zd_1 => ?_)
      have zs_kd_1 := kd_1.size
      replace ha := ha.pure kd_1
      replace hb := hb.pure kd_1
      replace hw := hw.pure kd_1
      replace hp := hp.pure kd_1
      replace hq := hq.pure kd_1
      apply DQ.step (E' := [(6, _)])
      case ho => rfl
      case hs => exact ⟨rfl, trivial⟩
      case hk => rfl
      case h1 =>
        intro wq_2 kq_2
        refine WL.move rfl rfl (?_)
        refine WL.nil ?_
        exact WX.one ⟨rfl, by first | exact Chg.refl _ _ | assumption⟩
      apply DQ.step (E' := [(40, _)])
      case ho => rfl
      case hs => exact ⟨rfl, trivial⟩
      case hk => rfl
      case h1 =>
        intro wq_3 kq_3
        refine WL.neq rfl rfl rfl ?_
        rw [show decide ((0 : Int) ≠ 0) = false from rfl]
        refine WL.nil ?_
        exact WX.one ⟨rfl, by first | exact Chg.refl _ _ | assumption⟩
      apply DQ.step (E' := [(41, _)])
      case ho => rfl
      case hs => exact ⟨rfl, trivial⟩
      case hk => rfl
      case h1 =>
        intro wq_4 kq_4
        refine WL.move rfl rfl (?_)
        refine WL.nil ?_
        exact WX.one ⟨rfl, by first | exact Chg.refl _ _ | assumption⟩
      apply DQ.step (E' := [(8, _), (42, _)])
      case ho => rfl
      case hs => exact ⟨rfl, rfl, trivial⟩
      case hk => rfl
      case h1 =>
        intro wq_5 kq_5
        refine WL.want rfl rfl rfl (WL.move rfl rfl (?_))
        refine WL.nil ?_
        exact WX.one ⟨rfl, by first | exact Chg.refl _ _ | assumption⟩
      apply DQ.step (E' := [(43, _), (42, _)])
      case ho => rfl
      case hs => exact ⟨rfl, rfl, trivial⟩
      case hk => rfl
      case h1 =>
        intro wq_6 kq_6
        refine WL.want rfl rfl rfl (?_)
        refine WL.neq rfl rfl rfl ?_
        rw [show decide ((0 : Int) ≠ 0) = false from rfl]
        refine WL.nil ?_
        exact WX.one ⟨rfl, by first | exact Chg.refl _ _ | assumption⟩
      apply DQ.step (E' := [(42, _), (44, _)])
      case ho => rfl
      case hs => exact ⟨rfl, rfl, trivial⟩
      case hk => rfl
      case h1 =>
        intro wq_7 kq_7
        refine WL.pickF rfl rfl rfl (?_)
        refine WL.nil ?_
        exact WX.one ⟨rfl, by first | exact Chg.refl _ _ | assumption⟩
      apply DQ.step (E' := [(45, _)])
      case ho => rfl
      case hs => exact ⟨rfl, trivial⟩
      case hk => rfl
      case h1 =>
        intro wq_8 kq_8
        refine WL.move rfl rfl (?_)
        refine WL.nil ?_
        exact WX.one ⟨rfl, by first | exact Chg.refl _ _ | assumption⟩
      apply DQ.step (E' := [(0, _), (46, _)])
      case ho => rfl
      case hs => exact ⟨rfl, rfl, trivial⟩
      case hk => rfl
      case h1 =>
        intro wq_9 kq_9
        refine WL.want rfl rfl rfl (WL.move rfl rfl (?_))
        refine WL.nil ?_
        exact WX.one ⟨rfl, by first | exact Chg.refl _ _ | assumption⟩
      apply DQ.step (E' := [(47, _), (46, _)])
      case ho => rfl
      case hs => exact ⟨rfl, rfl, trivial⟩
      case hk => rfl
      case h1 =>
        intro wq_10 kq_10
        have zs_kq_10 := kq_10.size
        replace ha := ha.pure kq_10
        replace hb := hb.pure kq_10
        replace hw := hw.pure kq_10
        replace hp := hp.pure kq_10
        replace hq := hq.pure kq_10
        refine WL.want rfl rfl rfl (WL.len Try.underlying22 rfl rfl (?_))
        refine WL.nil ?_
        exact WX.one ⟨rfl, by first | exact Chg.refl _ _ | assumption⟩
      apply DQ.step (E' := [(1, _), (46, _)])
      case ho => rfl
      case hs => exact ⟨rfl, rfl, trivial⟩
      case hk => rfl
      case h1 =>
        intro wq_11 kq_11
        refine WL.want rfl rfl rfl (WL.move rfl rfl (?_))
        refine WL.nil ?_
        exact WX.one ⟨rfl, by first | exact Chg.refl _ _ | assumption⟩
      apply DQ.step (E' := [(49, _), (46, _)])
      case ho => rfl
      case hs => exact ⟨rfl, rfl, trivial⟩
      case hk => rfl
      case h1 =>
        intro wq_12 kq_12
        have zs_kq_12 := kq_12.size
        replace ha := ha.pure kq_12
        replace hb := hb.pure kq_12
        replace hw := hw.pure kq_12
        replace hp := hp.pure kq_12
        replace hq := hq.pure kq_12
        refine WL.want rfl rfl rfl (WL.len Try.underlying22 rfl rfl (?_))
        refine WL.nil ?_
        exact WX.one ⟨rfl, by first | exact Chg.refl _ _ | assumption⟩
      apply DQ.split (E' := [(48, _), (50, _), (46, _)])
      case ho => rfl
      case hs => exact ⟨rfl, rfl, rfl, trivial⟩
      case hk => rfl
      case h1 =>
        intro wq_13 kq_13
        refine WL.want rfl rfl rfl (?_)
        refine WL.neq rfl rfl rfl ?_
        refine WL.nil ?_
        exact WX.one ⟨rfl, by first | exact Chg.refl _ _ | assumption⟩
      case ht =>
        intro h51
        replace h51 := of_decide_eq_true h51
        apply DQ.step (E' := [(46, _), (51, _)])
        case ho => rfl
        case hs => exact ⟨rfl, rfl, trivial⟩
        case hk => rfl
        case h1 =>
          intro wq_14 kq_14
          refine WL.pickF rfl rfl rfl (?_)
          refine WL.nil ?_
          exact WX.one ⟨rfl, by first | exact Chg.refl _ _ | assumption⟩
        apply DQ.step (E' := [(52, _)])
        case ho => rfl
        case hs => exact ⟨rfl, trivial⟩
        case hk => rfl
        case h1 =>
          intro wq_15 kq_15
          refine WL.move rfl rfl (?_)
          refine WL.nil ?_
          exact WX.one ⟨rfl, by first | exact Chg.refl _ _ | assumption⟩
        apply DQ.step (E' := [(0, _), (53, _)])
        case ho => rfl
        case hs => exact ⟨rfl, rfl, trivial⟩
        case hk => rfl
        case h1 =>
          intro wq_16 kq_16
          refine WL.pass rfl rfl rfl rfl (WL.nil (?_))
          exact WX.one ⟨rfl, by first | exact Chg.refl _ _ | assumption⟩
        apply DQ.step (E' := [(54, _), (53, _)])
        case ho => rfl
        case hs => exact ⟨rfl, rfl, trivial⟩
        case hk => rfl
        case h1 =>
          intro wq_17 kq_17
          have zs_kq_17 := kq_17.size
          replace ha := ha.pure kq_17
          replace hb := hb.pure kq_17
          replace hw := hw.pure kq_17
          replace hp := hp.pure kq_17
          replace hq := hq.pure kq_17
          refine WL.pass rfl rfl rfl rfl (WL.nil (?_))
          exact WX.one ⟨rfl, by first | exact Chg.refl _ _ | assumption⟩
        apply DQ.step (E' := [(55, _), (53, _)])
        case ho => rfl
        case hs => exact ⟨rfl, rfl, trivial⟩
        case hk => rfl
        case h1 =>
          intro wq_18 kq_18
          have zs_kq_18 := kq_18.size
          replace ha := ha.pure kq_18
          replace hb := hb.pure kq_18
          replace hw := hw.pure kq_18
          replace hp := hp.pure kq_18
          replace hq := hq.pure kq_18
          refine WL.pass rfl rfl rfl rfl (WL.nil (?_))
          exact WX.one ⟨rfl, by first | exact Chg.refl _ _ | assumption⟩
        apply DQ.step (E' := [(56, _), (53, _)])
        case ho => rfl
        case hs => exact ⟨rfl, rfl, trivial⟩
        case hk => rfl
        case h1 =>
          intro wq_19 kq_19
          have zs_kq_19 := kq_19.size
          replace ha := ha.pure kq_19
          replace hb := hb.pure kq_19
          replace hw := hw.pure kq_19
          replace hp := hp.pure kq_19
          replace hq := hq.pure kq_19
          refine WL.pass rfl rfl rfl rfl (WL.nil (?_))
          exact WX.one ⟨rfl, by first | exact Chg.refl _ _ | assumption⟩
        apply DQ.step (E' := [(1, _), (53, _)])
        case ho => rfl
        case hs => exact ⟨rfl, rfl, trivial⟩
        case hk => rfl
        case h1 =>
          intro wq_20 kq_20
          refine WL.pass rfl rfl rfl rfl (WL.nil (?_))
          exact WX.one ⟨rfl, by first | exact Chg.refl _ _ | assumption⟩
        apply DQ.step (E' := [(58, _), (53, _)])
        case ho => rfl
        case hs => exact ⟨rfl, rfl, trivial⟩
        case hk => rfl
        case h1 =>
          intro wq_21 kq_21
          have zs_kq_21 := kq_21.size
          replace ha := ha.pure kq_21
          replace hb := hb.pure kq_21
          replace hw := hw.pure kq_21
          replace hp := hp.pure kq_21
          replace hq := hq.pure kq_21
          refine WL.pass rfl rfl rfl rfl (WL.nil (?_))
          exact WX.one ⟨rfl, by first | exact Chg.refl _ _ | assumption⟩
        apply DQ.step (E' := [(59, _), (53, _)])
        case ho => rfl
        case hs => exact ⟨rfl, rfl, trivial⟩
        case hk => rfl
        case h1 =>
          intro wq_22 kq_22
          have zs_kq_22 := kq_22.size
          replace ha := ha.pure kq_22
          replace hb := hb.pure kq_22
          replace hw := hw.pure kq_22
          replace hp := hp.pure kq_22
          replace hq := hq.pure kq_22
          refine WL.pass rfl rfl rfl rfl (WL.nil (?_))
          exact WX.one ⟨rfl, by first | exact Chg.refl _ _ | assumption⟩
        apply DQ.step (E' := [(60, _), (53, _)])
        case ho => rfl
        case hs => exact ⟨rfl, rfl, trivial⟩
        case hk => rfl
        case h1 =>
          intro wq_23 kq_23
          have zs_kq_23 := kq_23.size
          replace ha := ha.pure kq_23
          replace hb := hb.pure kq_23
          replace hw := hw.pure kq_23
          replace hp := hp.pure kq_23
          replace hq := hq.pure kq_23
          refine WL.pass rfl rfl rfl rfl (WL.nil (?_))
          exact WX.one ⟨rfl, by first | exact Chg.refl _ _ | assumption⟩
        apply DQ.step (E' := [(57, _), (61, _), (53, _)])
        case ho => rfl
        case hs => exact ⟨rfl, rfl, rfl, trivial⟩
        case hk => rfl
        case h1 =>
          intro wq_24 kq_24
          refine WL.pass rfl rfl rfl rfl (WL.nil (?_))
          exact WX.one ⟨rfl, by first | exact Chg.refl _ _ | assumption⟩
        apply DQ.step (E' := [(53, _), (62, _)])
        case ho => rfl
        case hs => exact ⟨rfl, rfl, trivial⟩
        case hk => rfl
        case h1 =>
          intro wq_25 kq_25
          refine WL.pickT rfl rfl rfl (?_)
          refine WL.nil ?_
          exact WX.one ⟨rfl, by first | exact Chg.refl _ _ | assumption⟩
        refine DQ.done (fun _ => ?_)
        refine DL.done (fun we_26 ke_26 => ?_)
        have zs_ke_26 := ke_26.size
        replace ha := ha.pure ke_26
        replace hb := hb.pure ke_26
        replace hw := hw.pure ke_26
        replace hp := hp.pure ke_26
        replace hq := hq.pure ke_26
        refine WX.then_normal (WC.cond_true rfl (WC.seq (WC.region (WL.assign rfl rfl (WL.nil (WX.then_normal (WC.ret (?_))))))))
        refine WX.then_ret (?_)
        refine WX.ret1 (.inl rfl) Try.results3 rfl ?_
        exact ⟨_, rfl, rfl, hw⟩
      case hf =>
        intro h51
        replace h51 := of_decide_eq_false h51
        apply DQ.step (E' := [(46, _), (51, _)])
        case ho => rfl
        case hs => exact ⟨rfl, rfl, trivial⟩
        case hk => rfl
        case h1 =>
          intro wq_14 kq_14
          refine WL.pickF rfl rfl rfl (?_)
          refine WL.nil ?_
          exact WX.one ⟨rfl, by first | exact Chg.refl _ _ | assumption⟩
        apply DQ.step (E' := [(52, _)])
        case ho => rfl
        case hs => exact ⟨rfl, trivial⟩
        case hk => rfl
        case h1 =>
          intro wq_15 kq_15
          refine WL.move rfl rfl (?_)
          refine WL.nil ?_
          exact WX.one ⟨rfl, by first | exact Chg.refl _ _ | assumption⟩
        apply DQ.step (E' := [(0, _), (53, _)])
        case ho => rfl
        case hs => exact ⟨rfl, rfl, trivial⟩
        case hk => rfl
        case h1 =>
          intro wq_16 kq_16
          refine WL.want rfl rfl rfl (WL.move rfl rfl (?_))
          refine WL.nil ?_
          exact WX.one ⟨rfl, by first | exact Chg.refl _ _ | assumption⟩
        apply DQ.step (E' := [(54, _), (53, _)])
        case ho => rfl
        case hs => exact ⟨rfl, rfl, trivial⟩
        case hk => rfl
        case h1 =>
          intro wq_17 kq_17
          have zs_kq_17 := kq_17.size
          replace ha := ha.pure kq_17
          replace hb := hb.pure kq_17
          replace hw := hw.pure kq_17
          replace hp := hp.pure kq_17
          replace hq := hq.pure kq_17
          refine WL.want rfl rfl rfl (?_)
          refine WL.indexC ha.outer Try.underlying22 Try.sizeOf28 rfl rfl ⟨hr0, rfl⟩ rfl ?_
          refine WL.nil ?_
          exact WX.one ⟨rfl, by first | exact Chg.refl _ _ | assumption⟩
        apply DQ.step (E' := [(55, _), (53, _)])
        case ho => rfl
        case hs => exact ⟨rfl, rfl, trivial⟩
        case hk => rfl
        case h1 =>
          intro wq_18 kq_18
          have zs_kq_18 := kq_18.size
          replace ha := ha.pure kq_18
          replace hb := hb.pure kq_18
          replace hw := hw.pure kq_18
          replace hp := hp.pure kq_18
          replace hq := hq.pure kq_18
          refine WL.want rfl rfl rfl (WL.load Try.isAgg28 rfl ((ha.outer.cellsAt hr0) 0 _ rfl) rfl (?_))
          refine WL.nil ?_
          exact WX.one ⟨rfl, by first | exact Chg.refl _ _ | assumption⟩
        apply DQ.step (E' := [(56, _), (53, _)])
        case ho => rfl
        case hs => exact ⟨rfl, rfl, trivial⟩
        case hk => rfl
        case h1 =>
          intro wq_19 kq_19
          have zs_kq_19 := kq_19.size
          replace ha := ha.pure kq_19
          replace hb := hb.pure kq_19
          replace hw := hw.pure kq_19
          replace hp := hp.pure kq_19
          replace hq := hq.pure kq_19
          refine WL.want rfl rfl rfl (WL.len Try.underlying28 rfl rfl (?_))
          refine WL.nil ?_
          exact WX.one ⟨rfl, by first | exact Chg.refl _ _ | assumption⟩
        apply DQ.step (E' := [(1, _), (53, _)])
        case ho => rfl
        case hs => exact ⟨rfl, rfl, trivial⟩
        case hk => rfl
        case h1 =>
          intro wq_20 kq_20
          refine WL.want rfl rfl rfl (WL.move rfl rfl (?_))
          refine WL.nil ?_
          exact WX.one ⟨rfl, by first | exact Chg.refl _ _ | assumption⟩
        apply DQ.step (E' := [(58, _), (53, _)])
        case ho => rfl
        case hs => exact ⟨rfl, rfl, trivial⟩
        case hk => rfl
        case h1 =>
          intro wq_21 kq_21
          have zs_kq_21 := kq_21.size
          replace ha := ha.pure kq_21
          replace hb := hb.pure kq_21
          replace hw := hw.pure kq_21
          replace hp := hp.pure kq_21
          replace hq := hq.pure kq_21
          refine WL.want rfl rfl rfl (?_)
          refine WL.indexC hb.outer Try.underlying22 Try.sizeOf28 rfl rfl ⟨hs0, rfl⟩ rfl ?_
          refine WL.nil ?_
          exact WX.one ⟨rfl, by first | exact Chg.refl _ _ | assumption⟩
        apply DQ.step (E' := [(59, _), (53, _)])
        case ho => rfl
        case hs => exact ⟨rfl, rfl, trivial⟩
        case hk => rfl
        case h1 =>
          intro wq_22 kq_22
          have zs_kq_22 := kq_22.size
          replace ha := ha.pure kq_22
          replace hb := hb.pure kq_22
          replace hw := hw.pure kq_22
          replace hp := hp.pure kq_22
          replace hq := hq.pure kq_22
          refine WL.want rfl rfl rfl (WL.load Try.isAgg28 rfl ((hb.outer.cellsAt hs0) 0 _ rfl) rfl (?_))
          refine WL.nil ?_
          exact WX.one ⟨rfl, by first | exact Chg.refl _ _ | assumption⟩
        apply DQ.step (E' := [(60, _), (53, _)])
        case ho => rfl
        case hs => exact ⟨rfl, rfl, trivial⟩
        case hk => rfl
        case h1 =>
          intro wq_23 kq_23
          have zs_kq_23 := kq_23.size
          replace ha := ha.pure kq_23
          replace hb := hb.pure kq_23
          replace hw := hw.pure kq_23
          replace hp := hp.pure kq_23
          replace hq := hq.pure kq_23
          refine WL.want rfl rfl rfl (WL.len Try.underlying28 rfl rfl (?_))
          refine WL.nil ?_
          exact WX.one ⟨rfl, by first | exact Chg.refl _ _ | assumption⟩
        apply DQ.split (E' := [(57, _), (61, _), (53, _)])
        case ho => rfl
        case hs => exact ⟨rfl, rfl, rfl, trivial⟩
        case hk => rfl
        case h1 =>
          intro wq_24 kq_24
          refine WL.want rfl rfl rfl (?_)
          refine WL.neq rfl rfl rfl ?_
          refine WL.nil ?_
          exact WX.one ⟨rfl, by first | exact Chg.refl _ _ | assumption⟩
        case ht =>
          intro h62
          replace h62 := of_decide_eq_true h62
          apply DQ.step (E' := [(53, _), (62, _)])
          case ho => rfl
          case hs => exact ⟨rfl, rfl, trivial⟩
          case hk => rfl
          case h1 =>
            intro wq_25 kq_25
            refine WL.pickF rfl rfl rfl (?_)
            refine WL.nil ?_
            exact WX.one ⟨rfl, by first | exact Chg.refl _ _ | assumption⟩
          refine DQ.done (fun _ => ?_)
          refine DL.done (fun we_26 ke_26 => ?_)
          have zs_ke_26 := ke_26.size
          replace ha := ha.pure ke_26
          replace hb := hb.pure ke_26
          replace hw := hw.pure ke_26
          replace hp := hp.pure ke_26
          replace hq := hq.pure ke_26
          refine WX.then_normal (WC.cond_true rfl (WC.seq (WC.region (WL.assign rfl rfl (WL.nil (WX.then_normal (WC.ret (?_))))))))
          refine WX.then_ret (?_)
          refine WX.ret1 (.inl rfl) Try.results3 rfl ?_
          exact ⟨_, rfl, rfl, hw⟩
        case hf =>
          intro h62
          replace h62 := of_decide_eq_false h62
          apply DQ.step (E' := [(53, _), (62, _)])
          case ho => rfl
          case hs => exact ⟨rfl, rfl, trivial⟩
          case hk => rfl
          case h1 =>
            intro wq_25 kq_25
            refine WL.pickF rfl rfl rfl (?_)
            refine WL.nil ?_
            exact WX.one ⟨rfl, by first | exact Chg.refl _ _ | assumption⟩
          refine DQ.done (fun _ => ?_)
          refine DL.done (fun we_26 ke_26 => ?_)
          have zs_ke_26 := ke_26.size
          replace ha := ha.pure ke_26
          replace hb := hb.pure ke_26
          replace hw := hw.pure ke_26
          replace hp := hp.pure ke_26
          replace hq := hq.pure ke_26
          refine WX.then_normal (WC.cond_false rfl (WC.skip (WX.then_normal (WC.seq (WC.region (WL.assign rfl rfl (WL.nil (?_))))))))
          refine WX.then_normal (WC.seq (WC.seq (WC.region (WL.assign rfl rfl (WL.nil (WX.then_normal (WC.block (?_))))))))
          have hlen : ra.length = rb.length := by omega
          have hmm : ma = mb := by omega
          obtain ⟨N, hp1, hq1, hwN, hNe⟩ : ∃ N : Nat, RS (fun b => b < N) _ ap cp ps ∧ RS (fun b => b < N) _ aq cq qs ∧ w.heap.size ≤ N ∧ N = (World.heap _).size := ⟨_, hp.old, hq.old, hw.size, rfl⟩
          refine WC.loop (σ := List Rw × Option Addr × Nat × Nat) (fun q => [(0, .slice (some ⟨b1, o1, none⟩) ra.length ca), (1, .slice (some ⟨b2, o2, none⟩) rb.length cb), (5, .slice ap ps.length cp), (7, .slice aq qs.length cq), (9, .slice q.2.1 q.1.length q.2.2.1), (10, vi q.1.length)])
            (fun q w' => q.1.length ≤ ra.length ∧ N ≤ q.2.2.2 ∧ q.2.2.2 ≤ w'.heap.size ∧ CR N q.2.2.2 w' 28 q.2.1 q.2.2.1 q.1 ∧ (∀ (i : Nat) (x y z : Rw), q.1[i]? = some z → ra[i]? = some x → rb[i]? = some y → z.xs = xorL x.xs y.xs) ∧
              RS (· < w.heap.size) w' (some ⟨b1, o1, none⟩) ca ra ∧ RS (· < w.heap.size) w' (some ⟨b2, o2, none⟩) cb rb ∧ RS (fun b => b < N) w' ap cp ps ∧ RS (fun b => b < N) w' aq cq qs ∧ Chg Nob w w') (fun q => ra.length - q.1.length)
            ([], none, 0, N) ⟨rfl, rfl, rfl, rfl, rfl, rfl, trivial⟩ ⟨Nat.zero_le _, Nat.le_refl _, Nat.le_of_eq hNe, CR.nil _ _ _ _, fun i x y z h => by simp at h, ha, hb, hp1, hq1, hw⟩ ?_
          clear ha hb hp hq hp1 hq1 hw
          rintro ⟨cs, ac, cc, n1⟩ w2 ⟨hcl, hN1, hn1, hC, hxor, ha, hb, hp, hq, hw⟩
          dsimp only at hcl hN1 hn1 hC hxor ha hb hp hq hw ⊢
          refine WC.seq (WC.seq (WC.region (WL.move rfl rfl (WL.move rfl rfl (WL.len Try.underlying22 rfl rfl (?_))))))
          refine WL.lss? rfl rfl rfl (fun h67 => ?_) (fun h67 => ?_)
          ·
            refine WL.nil (WX.then_normal (WC.cond_true rfl (WC.skip (WX.then_normal (WC.seq (WC.block (WC.seq (?_))))))))
            refine WC.region (?_)
            refine WL.build (e := eb) [] Try.underlying28 Try.sizeOf5 Try.zeroValue5 rfl rfl rfl (by first | (simp [Value.cells]; done) | (simp [Value.cells] <;> rfl) | (simp [Value.cells, eb, ei, es, ebool, e32, e64]; done)) (by decide) rfl ?_
            intro a_h0 w_h0 h0 l_h0 z_h0 k_h0
            have zs_k_h0 := k_h0.size
            replace hC := hC.pure k_h0
            replace ha := ha.pure k_h0
            replace hb := hb.pure k_h0
            replace hp := hp.pure k_h0
            replace hq := hq.pure k_h0
            replace hw := hw.pure k_h0
            refine WL.move rfl rfl (WL.move rfl rfl (?_))
            obtain ⟨x, hx⟩ : ∃ x, ra[cs.length]? = some x := ⟨_, List.getElem?_eq_getElem (by omega)⟩
            obtain ⟨⟨yao, yc, yxs⟩, hy⟩ : ∃ y, rb[cs.length]? = some y := ⟨_, List.getElem?_eq_getElem (by omega)⟩
            have hxl := halla _ (xss_mem hx)
            have hyl : yxs.length = mb := hallb _ (xss_mem hy)
            refine WL.indexT Try.underlying22 Try.sizeOf28 ha.outer rfl rfl ⟨hx, rfl⟩ rfl ?_
            intro b_27 o_27 hc_27
            refine WL.load Try.isAgg28 rfl (hc_27 0 _ rfl) rfl (?_)
            have hxr := ha.at hx
            refine WL.append (e := eb) info_5 rfl Try.underlying28 rfl rfl h0 (hxr.src Try.underlying28) (by (try simp only [List.length_append, List.length_cons, List.length_nil] at *); omega) (by intro b hb; first | (apply hS; omega) | ((try dsimp only); omega)) rfl ?_
            intro a_h1 c_h1 w_h1 h1 g_h1 n_h1
            have z_h1 := g_h1.chg.size
            have zs_g_h1_chg := g_h1.chg.size
            replace hC := hC.chg g_h1.chg (by first | (intro x h1 h2; exact h2) | (intro x h1 h2; have h3 : _ = _ := h2; exfalso; omega) | (intro b h1 h2 h3; have h4 : _ = _ := h3; (try dsimp only at h2); exfalso; omega) | (intro h1; have h2 : _ = _ := h1; exfalso; omega) | (intros; exfalso; (try dsimp only at *); omega) | (intro b h1 h2 h3; exfalso; have h4 := h3.2; (try dsimp only at *); omega) | (intro h1; exfalso; have h4 := h1.2; (try dsimp only at *); omega) | (intro x h1 h2; exfalso; have h4 := h2.2; (try dsimp only at *); omega) | (intro x h1 h2; exact h2.1))
            replace ha := ha.chg g_h1.chg (by first | (intro x h1 h2; exact h2) | (intro x h1 h2; have h3 : _ = _ := h2; exfalso; omega) | (intro b h1 h2 h3; have h4 : _ = _ := h3; (try dsimp only at h2); exfalso; omega) | (intro h1; have h2 : _ = _ := h1; exfalso; omega) | (intros; exfalso; (try dsimp only at *); omega) | (intro b h1 h2 h3; exfalso; have h4 := h3.2; (try dsimp only at *); omega) | (intro h1; exfalso; have h4 := h1.2; (try dsimp only at *); omega) | (intro x h1 h2; exfalso; have h4 := h2.2; (try dsimp only at *); omega) | (intro x h1 h2; exact h2.1))
            replace hb := hb.chg g_h1.chg (by first | (intro x h1 h2; exact h2) | (intro x h1 h2; have h3 : _ = _ := h2; exfalso; omega) | (intro b h1 h2 h3; have h4 : _ = _ := h3; (try dsimp only at h2); exfalso; omega) | (intro h1; have h2 : _ = _ := h1; exfalso; omega) | (intros; exfalso; (try dsimp only at *); omega) | (intro b h1 h2 h3; exfalso; have h4 := h3.2; (try dsimp only at *); omega) | (intro h1; exfalso; have h4 := h1.2; (try dsimp only at *); omega) | (intro x h1 h2; exfalso; have h4 := h2.2; (try dsimp only at *); omega) | (intro x h1 h2; exact h2.1))
            replace hp := hp.chg g_h1.chg (by first | (intro x h1 h2; exact h2) | (intro x h1 h2; have h3 : _ = _ := h2; exfalso; omega) | (intro b h1 h2 h3; have h4 : _ = _ := h3; (try dsimp only at h2); exfalso; omega) | (intro h1; have h2 : _ = _ := h1; exfalso; omega) | (intros; exfalso; (try dsimp only at *); omega) | (intro b h1 h2 h3; exfalso; have h4 := h3.2; (try dsimp only at *); omega) | (intro h1; exfalso; have h4 := h1.2; (try dsimp only at *); omega) | (intro x h1 h2; exfalso; have h4 := h2.2; (try dsimp only at *); omega) | (intro x h1 h2; exact h2.1))
            replace hq := hq.chg g_h1.chg (by first | (intro x h1 h2; exact h2) | (intro x h1 h2; have h3 : _ = _ := h2; exfalso; omega) | (intro b h1 h2 h3; have h4 : _ = _ := h3; (try dsimp only at h2); exfalso; omega) | (intro h1; have h2 : _ = _ := h1; exfalso; omega) | (intros; exfalso; (try dsimp only at *); omega) | (intro b h1 h2 h3; exfalso; have h4 := h3.2; (try dsimp only at *); omega) | (intro h1; exfalso; have h4 := h1.2; (try dsimp only at *); omega) | (intro x h1 h2; exfalso; have h4 := h2.2; (try dsimp only at *); omega) | (intro x h1 h2; exact h2.1))
            replace hw := hw.chg g_h1.chg (by first | (intro x h1 h2; exact h2) | (intro x h1 h2; have h3 : _ = _ := h2; exfalso; omega) | (intro b h1 h2 h3; have h4 : _ = _ := h3; (try dsimp only at h2); exfalso; omega) | (intro h1; have h2 : _ = _ := h1; exfalso; omega) | (intros; exfalso; (try dsimp only at *); omega) | (intro b h1 h2 h3; exfalso; have h4 := h3.2; (try dsimp only at *); omega) | (intro h1; exfalso; have h4 := h1.2; (try dsimp only at *); omega) | (intro x h1 h2; exfalso; have h4 := h2.2; (try dsimp only at *); omega) | (intro x h1 h2; exact h2.1))
            rw [List.nil_append] at h1 ⊢
            obtain ⟨gr, rfl⟩ := h1.place0 (j := 0) (by omega)
            have hgr0 := h1.at_ _ rfl
            dsimp only at hgr0
            refine WL.assign rfl rfl (WL.nil (WX.then_normal (WC.seq (WC.seq (WC.region (WL.assign rfl rfl (WL.nil (?_))))))))
            refine WX.then_normal (WC.block (?_))
            have hg0 : Row (fun b => b = gr) _ 5 eb (some ⟨gr, 0, none⟩) c_h1 x.xs := ⟨fun a ea => by injection ea with ea; subst ea; rfl, h1.own⟩
            refine WC.loop (σ := Nat) (fun k => [(0, .slice (some ⟨b1, o1, none⟩) ra.length ca), (1, .slice (some ⟨b2, o2, none⟩) rb.length cb), (5, .slice ap ps.length cp), (7, .slice aq qs.length cq), (9, .slice ac cs.length cc), (10, vi cs.length), (11, .slice (some ⟨gr, 0, none⟩) x.xs.length c_h1), (12, vi k)])
              (fun k w' => k ≤ ma ∧ gr < w'.heap.size ∧ Row (fun b => b = gr) w' 5 eb (some ⟨gr, 0, none⟩) c_h1 (xorTo x.xs yxs k) ∧ CR N n1 w' 28 ac cc cs ∧
                RS (· < w.heap.size) w' (some ⟨b1, o1, none⟩) ca ra ∧ RS (· < w.heap.size) w' (some ⟨b2, o2, none⟩) cb rb ∧ RS (fun b => b < N) w' ap cp ps ∧ RS (fun b => b < N) w' aq cq qs ∧ Chg Nob w w') (fun k => ma - k) 0 ⟨rfl, rfl, rfl, rfl, rfl, rfl, rfl, rfl, trivial⟩ ⟨Nat.zero_le _, hg0.own.lt _ rfl, by simpa [xorTo] using hg0, hC, ha, hb, hp, hq, hw⟩ ?_
            clear hg0 h1 hC ha hb hp hq hw h0 hxr
            rintro k w3 ⟨hk, hgz, hg, hC, ha, hb, hp, hq, hw⟩
            have hal : (xorTo x.xs yxs k).length = ma := by rw [xorTo_len (by omega) (by omega)]; exact hxl
            refine WC.seq (WC.seq (WC.region (WL.move rfl rfl (WL.move rfl rfl (WL.len Try.underlying28 rfl rfl (?_))))))
            refine WL.lss? rfl rfl rfl (fun h79 => ?_) (fun h79 => ?_)
            ·
              refine WL.nil (WX.then_normal (WC.cond_true rfl (WC.skip (WX.then_normal (WC.seq (WC.block (?_)))))))
              obtain ⟨x0, y0, hx0, hy0, fx, fset⟩ := xorTo_at (a := x.xs) (b := yxs) (k := k) (by omega) (by omega)
              have hyr : RSl (· < w.heap.size) _ eb yao yc yxs := hb.at hy
              obtain ⟨b3, o3, rfl⟩ := hyr.place hy0
              refine WC.draw (fun b => b = gr) [0, 1, 2, 3, 4, 6, 7, 8, 9, 10, 11, 12, 14] [5, 13, 15] mixed rfl rfl (fun wd_28 kd_28 zd_28 => ?_)
              have zs_kd_28 := kd_28.size
              replace hg := hg.pure kd_28
              replace hC := hC.pure kd_28
              replace ha := ha.pure kd_28
              replace hb := hb.pure kd_28
              replace hp := hp.pure kd_28
              replace hq := hq.pure kd_28
              replace hw := hw.pure kd_28
              replace hyr := hyr.pure kd_28
              apply DQ.step (E' := [(11, _)])
              case ho => rfl
              case hs => exact ⟨rfl, trivial⟩
              case hk => rfl
              case h1 =>
                intro wq_30 kq_30
                refine WL.move rfl rfl (?_)
                refine WL.nil ?_
                exact WX.one ⟨rfl, by first | exact Chg.refl _ _ | assumption⟩
              apply DQ.step (E' := [(12, _)])
              case ho => rfl
              case hs => exact ⟨rfl, trivial⟩
              case hk => rfl
              case h1 =>
                intro wq_31 kq_31
                refine WL.move rfl rfl (?_)
                refine WL.nil ?_
                exact WX.one ⟨rfl, by first | exact Chg.refl _ _ | assumption⟩
              apply DQ.step (E' := [(11, _)])
              case ho => rfl
              case hs => exact ⟨rfl, trivial⟩
              case hk => rfl
              case h1 =>
                intro wq_32 kq_32
                refine WL.move rfl rfl (?_)
                refine WL.nil ?_
                exact WX.one ⟨rfl, by first | exact Chg.refl _ _ | assumption⟩
              apply DQ.step (E' := [(12, _)])
              case ho => rfl
              case hs => exact ⟨rfl, trivial⟩
              case hk => rfl
              case h1 =>
                intro wq_33 kq_33
                refine WL.move rfl rfl (?_)
                refine WL.nil ?_
                exact WX.one ⟨rfl, by first | exact Chg.refl _ _ | assumption⟩
              apply DQ.step (E' := [(84, _), (85, _)])
              case ho => rfl
              case hs => exact ⟨rfl, rfl, trivial⟩
              case hk => rfl
              case h1 =>
                intro wq_34 kq_34
                have zs_kq_34 := kq_34.size
                replace hC := hC.chg kq_34 (by first | (intro x h1 h2; exact h2) | (intro x h1 h2; have h3 : _ = _ := h2; exfalso; omega) | (intro b h1 h2 h3; have h4 : _ = _ := h3; (try dsimp only at h2); exfalso; omega) | (intro h1; have h2 : _ = _ := h1; exfalso; omega) | (intros; exfalso; (try dsimp only at *); omega) | (intro b h1 h2 h3; exfalso; have h4 := h3.2; (try dsimp only at *); omega) | (intro h1; exfalso; have h4 := h1.2; (try dsimp only at *); omega) | (intro x h1 h2; exfalso; have h4 := h2.2; (try dsimp only at *); omega) | (intro x h1 h2; exact h2.1))
                replace ha := ha.chg kq_34 (by first | (intro x h1 h2; exact h2) | (intro x h1 h2; have h3 : _ = _ := h2; exfalso; omega) | (intro b h1 h2 h3; have h4 : _ = _ := h3; (try dsimp only at h2); exfalso; omega) | (intro h1; have h2 : _ = _ := h1; exfalso; omega) | (intros; exfalso; (try dsimp only at *); omega) | (intro b h1 h2 h3; exfalso; have h4 := h3.2; (try dsimp only at *); omega) | (intro h1; exfalso; have h4 := h1.2; (try dsimp only at *); omega) | (intro x h1 h2; exfalso; have h4 := h2.2; (try dsimp only at *); omega) | (intro x h1 h2; exact h2.1))
                replace hb := hb.chg kq_34 (by first | (intro x h1 h2; exact h2) | (intro x h1 h2; have h3 : _ = _ := h2; exfalso; omega) | (intro b h1 h2 h3; have h4 : _ = _ := h3; (try dsimp only at h2); exfalso; omega) | (intro h1; have h2 : _ = _ := h1; exfalso; omega) | (intros; exfalso; (try dsimp only at *); omega) | (intro b h1 h2 h3; exfalso; have h4 := h3.2; (try dsimp only at *); omega) | (intro h1; exfalso; have h4 := h1.2; (try dsimp only at *); omega) | (intro x h1 h2; exfalso; have h4 := h2.2; (try dsimp only at *); omega) | (intro x h1 h2; exact h2.1))
                replace hp := hp.chg kq_34 (by first | (intro x h1 h2; exact h2) | (intro x h1 h2; have h3 : _ = _ := h2; exfalso; omega) | (intro b h1 h2 h3; have h4 : _ = _ := h3; (try dsimp only at h2); exfalso; omega) | (intro h1; have h2 : _ = _ := h1; exfalso; omega) | (intros; exfalso; (try dsimp only at *); omega) | (intro b h1 h2 h3; exfalso; have h4 := h3.2; (try dsimp only at *); omega) | (intro h1; exfalso; have h4 := h1.2; (try dsimp only at *); omega) | (intro x h1 h2; exfalso; have h4 := h2.2; (try dsimp only at *); omega) | (intro x h1 h2; exact h2.1))
                replace hq := hq.chg kq_34 (by first | (intro x h1 h2; exact h2) | (intro x h1 h2; have h3 : _ = _ := h2; exfalso; omega) | (intro b h1 h2 h3; have h4 : _ = _ := h3; (try dsimp only at h2); exfalso; omega) | (intro h1; have h2 : _ = _ := h1; exfalso; omega) | (intros; exfalso; (try dsimp only at *); omega) | (intro b h1 h2 h3; exfalso; have h4 := h3.2; (try dsimp only at *); omega) | (intro h1; exfalso; have h4 := h1.2; (try dsimp only at *); omega) | (intro x h1 h2; exfalso; have h4 := h2.2; (try dsimp only at *); omega) | (intro x h1 h2; exact h2.1))
                replace hw := hw.chg kq_34 (by first | (intro x h1 h2; exact h2) | (intro x h1 h2; have h3 : _ = _ := h2; exfalso; omega) | (intro b h1 h2 h3; have h4 : _ = _ := h3; (try dsimp only at h2); exfalso; omega) | (intro h1; have h2 : _ = _ := h1; exfalso; omega) | (intros; exfalso; (try dsimp only at *); omega) | (intro b h1 h2 h3; exfalso; have h4 := h3.2; (try dsimp only at *); omega) | (intro h1; exfalso; have h4 := h1.2; (try dsimp only at *); omega) | (intro x h1 h2; exfalso; have h4 := h2.2; (try dsimp only at *); omega) | (intro x h1 h2; exact h2.1))
                replace hyr := hyr.chg kq_34 (by first | (intro x h1 h2; exact h2) | (intro x h1 h2; have h3 : _ = _ := h2; exfalso; omega) | (intro b h1 h2 h3; have h4 : _ = _ := h3; (try dsimp only at h2); exfalso; omega) | (intro h1; have h2 : _ = _ := h1; exfalso; omega) | (intros; exfalso; (try dsimp only at *); omega) | (intro b h1 h2 h3; exfalso; have h4 := h3.2; (try dsimp only at *); omega) | (intro h1; exfalso; have h4 := h1.2; (try dsimp only at *); omega) | (intro x h1 h2; exfalso; have h4 := h2.2; (try dsimp only at *); omega) | (intro x h1 h2; exact h2.1))
                refine WL.index (sz := 1) Try.underlying28 Try.sizeOf5 rfl rfl rfl (by omega) rfl ?_
                refine WL.nil ?_
                exact WX.one ⟨rfl, by first | exact Chg.refl _ _ | assumption⟩
              apply DQ.step (E' := [(1, _)])
              case ho => rfl
              case hs => exact ⟨rfl, trivial⟩
              case hk => rfl
              case h1 =>
                intro wq_35 kq_35
                refine WL.move rfl rfl (?_)
                refine WL.nil ?_
                exact WX.one ⟨rfl, by first | exact Chg.refl _ _ | assumption⟩
              apply DQ.step (E' := [(10, _)])
              case ho => rfl
              case hs => exact ⟨rfl, trivial⟩
              case hk => rfl
              case h1 =>
                intro wq_36 kq_36
                refine WL.move rfl rfl (?_)
                refine WL.nil ?_
                exact WX.one ⟨rfl, by first | exact Chg.refl _ _ | assumption⟩
              apply DQ.step (E' := [(88, _), (89, _)])
              case ho => rfl
              case hs => exact ⟨rfl, rfl, trivial⟩
              case hk => rfl
              case h1 =>
                intro wq_37 kq_37
                have zs_kq_37 := kq_37.size
                replace hC := hC.chg kq_37 (by first | (intro x h1 h2; exact h2) | (intro x h1 h2; have h3 : _ = _ := h2; exfalso; omega) | (intro b h1 h2 h3; have h4 : _ = _ := h3; (try dsimp only at h2); exfalso; omega) | (intro h1; have h2 : _ = _ := h1; exfalso; omega) | (intros; exfalso; (try dsimp only at *); omega) | (intro b h1 h2 h3; exfalso; have h4 := h3.2; (try dsimp only at *); omega) | (intro h1; exfalso; have h4 := h1.2; (try dsimp only at *); omega) | (intro x h1 h2; exfalso; have h4 := h2.2; (try dsimp only at *); omega) | (intro x h1 h2; exact h2.1))
                replace ha := ha.chg kq_37 (by first | (intro x h1 h2; exact h2) | (intro x h1 h2; have h3 : _ = _ := h2; exfalso; omega) | (intro b h1 h2 h3; have h4 : _ = _ := h3; (try dsimp only at h2); exfalso; omega) | (intro h1; have h2 : _ = _ := h1; exfalso; omega) | (intros; exfalso; (try dsimp only at *); omega) | (intro b h1 h2 h3; exfalso; have h4 := h3.2; (try dsimp only at *); omega) | (intro h1; exfalso; have h4 := h1.2; (try dsimp only at *); omega) | (intro x h1 h2; exfalso; have h4 := h2.2; (try dsimp only at *); omega) | (intro x h1 h2; exact h2.1))
                replace hb := hb.chg kq_37 (by first | (intro x h1 h2; exact h2) | (intro x h1 h2; have h3 : _ = _ := h2; exfalso; omega) | (intro b h1 h2 h3; have h4 : _ = _ := h3; (try dsimp only at h2); exfalso; omega) | (intro h1; have h2 : _ = _ := h1; exfalso; omega) | (intros; exfalso; (try dsimp only at *); omega) | (intro b h1 h2 h3; exfalso; have h4 := h3.2; (try dsimp only at *); omega) | (intro h1; exfalso; have h4 := h1.2; (try dsimp only at *); omega) | (intro x h1 h2; exfalso; have h4 := h2.2; (try dsimp only at *); omega) | (intro x h1 h2; exact h2.1))
                replace hp := hp.chg kq_37 (by first | (intro x h1 h2; exact h2) | (intro x h1 h2; have h3 : _ = _ := h2; exfalso; omega) | (intro b h1 h2 h3; have h4 : _ = _ := h3; (try dsimp only at h2); exfalso; omega) | (intro h1; have h2 : _ = _ := h1; exfalso; omega) | (intros; exfalso; (try dsimp only at *); omega) | (intro b h1 h2 h3; exfalso; have h4 := h3.2; (try dsimp only at *); omega) | (intro h1; exfalso; have h4 := h1.2; (try dsimp only at *); omega) | (intro x h1 h2; exfalso; have h4 := h2.2; (try dsimp only at *); omega) | (intro x h1 h2; exact h2.1))
                replace hq := hq.chg kq_37 (by first | (intro x h1 h2; exact h2) | (intro x h1 h2; have h3 : _ = _ := h2; exfalso; omega) | (intro b h1 h2 h3; have h4 : _ = _ := h3; (try dsimp only at h2); exfalso; omega) | (intro h1; have h2 : _ = _ := h1; exfalso; omega) | (intros; exfalso; (try dsimp only at *); omega) | (intro b h1 h2 h3; exfalso; have h4 := h3.2; (try dsimp only at *); omega) | (intro h1; exfalso; have h4 := h1.2; (try dsimp only at *); omega) | (intro x h1 h2; exfalso; have h4 := h2.2; (try dsimp only at *); omega) | (intro x h1 h2; exact h2.1))
                replace hw := hw.chg kq_37 (by first | (intro x h1 h2; exact h2) | (intro x h1 h2; have h3 : _ = _ := h2; exfalso; omega) | (intro b h1 h2 h3; have h4 : _ = _ := h3; (try dsimp only at h2); exfalso; omega) | (intro h1; have h2 : _ = _ := h1; exfalso; omega) | (intros; exfalso; (try dsimp only at *); omega) | (intro b h1 h2 h3; exfalso; have h4 := h3.2; (try dsimp only at *); omega) | (intro h1; exfalso; have h4 := h1.2; (try dsimp only at *); omega) | (intro x h1 h2; exfalso; have h4 := h2.2; (try dsimp only at *); omega) | (intro x h1 h2; exact h2.1))
                replace hyr := hyr.chg kq_37 (by first | (intro x h1 h2; exact h2) | (intro x h1 h2; have h3 : _ = _ := h2; exfalso; omega) | (intro b h1 h2 h3; have h4 : _ = _ := h3; (try dsimp only at h2); exfalso; omega) | (intro h1; have h2 : _ = _ := h1; exfalso; omega) | (intros; exfalso; (try dsimp only at *); omega) | (intro b h1 h2 h3; exfalso; have h4 := h3.2; (try dsimp only at *); omega) | (intro h1; exfalso; have h4 := h1.2; (try dsimp only at *); omega) | (intro x h1 h2; exfalso; have h4 := h2.2; (try dsimp only at *); omega) | (intro x h1 h2; exact h2.1))
                refine WL.indexC hb.outer Try.underlying22 Try.sizeOf28 rfl rfl ⟨hy, rfl⟩ rfl ?_
                refine WL.nil ?_
                exact WX.one ⟨rfl, by first | exact Chg.refl _ _ | assumption⟩
              apply DQ.step (E' := [(90, _)])
              case ho => rfl
              case hs => exact ⟨rfl, trivial⟩
              case hk => rfl
              case h1 =>
                intro wq_38 kq_38
                have zs_kq_38 := kq_38.size
                replace hC := hC.chg kq_38 (by first | (intro x h1 h2; exact h2) | (intro x h1 h2; have h3 : _ = _ := h2; exfalso; omega) | (intro b h1 h2 h3; have h4 : _ = _ := h3; (try dsimp only at h2); exfalso; omega) | (intro h1; have h2 : _ = _ := h1; exfalso; omega) | (intros; exfalso; (try dsimp only at *); omega) | (intro b h1 h2 h3; exfalso; have h4 := h3.2; (try dsimp only at *); omega) | (intro h1; exfalso; have h4 := h1.2; (try dsimp only at *); omega) | (intro x h1 h2; exfalso; have h4 := h2.2; (try dsimp only at *); omega) | (intro x h1 h2; exact h2.1))
                replace ha := ha.chg kq_38 (by first | (intro x h1 h2; exact h2) | (intro x h1 h2; have h3 : _ = _ := h2; exfalso; omega) | (intro b h1 h2 h3; have h4 : _ = _ := h3; (try dsimp only at h2); exfalso; omega) | (intro h1; have h2 : _ = _ := h1; exfalso; omega) | (intros; exfalso; (try dsimp only at *); omega) | (intro b h1 h2 h3; exfalso; have h4 := h3.2; (try dsimp only at *); omega) | (intro h1; exfalso; have h4 := h1.2; (try dsimp only at *); omega) | (intro x h1 h2; exfalso; have h4 := h2.2; (try dsimp only at *); omega) | (intro x h1 h2; exact h2.1))
                replace hb := hb.chg kq_38 (by first | (intro x h1 h2; exact h2) | (intro x h1 h2; have h3 : _ = _ := h2; exfalso; omega) | (intro b h1 h2 h3; have h4 : _ = _ := h3; (try dsimp only at h2); exfalso; omega) | (intro h1; have h2 : _ = _ := h1; exfalso; omega) | (intros; exfalso; (try dsimp only at *); omega) | (intro b h1 h2 h3; exfalso; have h4 := h3.2; (try dsimp only at *); omega) | (intro h1; exfalso; have h4 := h1.2; (try dsimp only at *); omega) | (intro x h1 h2; exfalso; have h4 := h2.2; (try dsimp only at *); omega) | (intro x h1 h2; exact h2.1))
                replace hp := hp.chg kq_38 (by first | (intro x h1 h2; exact h2) | (intro x h1 h2; have h3 : _ = _ := h2; exfalso; omega) | (intro b h1 h2 h3; have h4 : _ = _ := h3; (try dsimp only at h2); exfalso; omega) | (intro h1; have h2 : _ = _ := h1; exfalso; omega) | (intros; exfalso; (try dsimp only at *); omega) | (intro b h1 h2 h3; exfalso; have h4 := h3.2; (try dsimp only at *); omega) | (intro h1; exfalso; have h4 := h1.2; (try dsimp only at *); omega) | (intro x h1 h2; exfalso; have h4 := h2.2; (try dsimp only at *); omega) | (intro x h1 h2; exact h2.1))
                replace hq := hq.chg kq_38 (by first | (intro x h1 h2; exact h2) | (intro x h1 h2; have h3 : _ = _ := h2; exfalso; omega) | (intro b h1 h2 h3; have h4 : _ = _ := h3; (try dsimp only at h2); exfalso; omega) | (intro h1; have h2 : _ = _ := h1; exfalso; omega) | (intros; exfalso; (try dsimp only at *); omega) | (intro b h1 h2 h3; exfalso; have h4 := h3.2; (try dsimp only at *); omega) | (intro h1; exfalso; have h4 := h1.2; (try dsimp only at *); omega) | (intro x h1 h2; exfalso; have h4 := h2.2; (try dsimp only at *); omega) | (intro x h1 h2; exact h2.1))
                replace hw := hw.chg kq_38 (by first | (intro x h1 h2; exact h2) | (intro x h1 h2; have h3 : _ = _ := h2; exfalso; omega) | (intro b h1 h2 h3; have h4 : _ = _ := h3; (try dsimp only at h2); exfalso; omega) | (intro h1; have h2 : _ = _ := h1; exfalso; omega) | (intros; exfalso; (try dsimp only at *); omega) | (intro b h1 h2 h3; exfalso; have h4 := h3.2; (try dsimp only at *); omega) | (intro h1; exfalso; have h4 := h1.2; (try dsimp only at *); omega) | (intro x h1 h2; exfalso; have h4 := h2.2; (try dsimp only at *); omega) | (intro x h1 h2; exact h2.1))
                replace hyr := hyr.chg kq_38 (by first | (intro x h1 h2; exact h2) | (intro x h1 h2; have h3 : _ = _ := h2; exfalso; omega) | (intro b h1 h2 h3; have h4 : _ = _ := h3; (try dsimp only at h2); exfalso; omega) | (intro h1; have h2 : _ = _ := h1; exfalso; omega) | (intros; exfalso; (try dsimp only at *); omega) | (intro b h1 h2 h3; exfalso; have h4 := h3.2; (try dsimp only at *); omega) | (intro h1; exfalso; have h4 := h1.2; (try dsimp only at *); omega) | (intro x h1 h2; exfalso; have h4 := h2.2; (try dsimp only at *); omega) | (intro x h1 h2; exact h2.1))
                refine WL.load Try.isAgg28 rfl ((hb.outer.cellsAt hy) 0 _ rfl) rfl (?_)
                refine WL.nil ?_
                exact WX.one ⟨rfl, by first | exact Chg.refl _ _ | assumption⟩
              apply DQ.step (E' := [(12, _)])
              case ho => rfl
              case hs => exact ⟨rfl, trivial⟩
              case hk => rfl
              case h1 =>
                intro wq_39 kq_39
                refine WL.move rfl rfl (?_)
                refine WL.nil ?_
                exact WX.one ⟨rfl, by first | exact Chg.refl _ _ | assumption⟩
              apply DQ.step (E' := [(91, _), (92, _)])
              case ho => rfl
              case hs => exact ⟨rfl, rfl, trivial⟩
              case hk => rfl
              case h1 =>
                intro wq_40 kq_40
                have zs_kq_40 := kq_40.size
                replace hC := hC.chg kq_40 (by first | (intro x h1 h2; exact h2) | (intro x h1 h2; have h3 : _ = _ := h2; exfalso; omega) | (intro b h1 h2 h3; have h4 : _ = _ := h3; (try dsimp only at h2); exfalso; omega) | (intro h1; have h2 : _ = _ := h1; exfalso; omega) | (intros; exfalso; (try dsimp only at *); omega) | (intro b h1 h2 h3; exfalso; have h4 := h3.2; (try dsimp only at *); omega) | (intro h1; exfalso; have h4 := h1.2; (try dsimp only at *); omega) | (intro x h1 h2; exfalso; have h4 := h2.2; (try dsimp only at *); omega) | (intro x h1 h2; exact h2.1))
                replace ha := ha.chg kq_40 (by first | (intro x h1 h2; exact h2) | (intro x h1 h2; have h3 : _ = _ := h2; exfalso; omega) | (intro b h1 h2 h3; have h4 : _ = _ := h3; (try dsimp only at h2); exfalso; omega) | (intro h1; have h2 : _ = _ := h1; exfalso; omega) | (intros; exfalso; (try dsimp only at *); omega) | (intro b h1 h2 h3; exfalso; have h4 := h3.2; (try dsimp only at *); omega) | (intro h1; exfalso; have h4 := h1.2; (try dsimp only at *); omega) | (intro x h1 h2; exfalso; have h4 := h2.2; (try dsimp only at *); omega) | (intro x h1 h2; exact h2.1))
                replace hb := hb.chg kq_40 (by first | (intro x h1 h2; exact h2) | (intro x h1 h2; have h3 : _ = _ := h2; exfalso; omega) | (intro b h1 h2 h3; have h4 : _ = _ := h3; (try dsimp only at h2); exfalso; omega) | (intro h1; have h2 : _ = _ := h1; exfalso; omega) | (intros; exfalso; (try dsimp only at *); omega) | (intro b h1 h2 h3; exfalso; have h4 := h3.2; (try dsimp only at *); omega) | (intro h1; exfalso; have h4 := h1.2; (try dsimp only at *); omega) | (intro x h1 h2; exfalso; have h4 := h2.2; (try dsimp only at *); omega) | (intro x h1 h2; exact h2.1))
                replace hp := hp.chg kq_40 (by first | (intro x h1 h2; exact h2) | (intro x h1 h2; have h3 : _ = _ := h2; exfalso; omega) | (intro b h1 h2 h3; have h4 : _ = _ := h3; (try dsimp only at h2); exfalso; omega) | (intro h1; have h2 : _ = _ := h1; exfalso; omega) | (intros; exfalso; (try dsimp only at *); omega) | (intro b h1 h2 h3; exfalso; have h4 := h3.2; (try dsimp only at *); omega) | (intro h1; exfalso; have h4 := h1.2; (try dsimp only at *); omega) | (intro x h1 h2; exfalso; have h4 := h2.2; (try dsimp only at *); omega) | (intro x h1 h2; exact h2.1))
                replace hq := hq.chg kq_40 (by first | (intro x h1 h2; exact h2) | (intro x h1 h2; have h3 : _ = _ := h2; exfalso; omega) | (intro b h1 h2 h3; have h4 : _ = _ := h3; (try dsimp only at h2); exfalso; omega) | (intro h1; have h2 : _ = _ := h1; exfalso; omega) | (intros; exfalso; (try dsimp only at *); omega) | (intro b h1 h2 h3; exfalso; have h4 := h3.2; (try dsimp only at *); omega) | (intro h1; exfalso; have h4 := h1.2; (try dsimp only at *); omega) | (intro x h1 h2; exfalso; have h4 := h2.2; (try dsimp only at *); omega) | (intro x h1 h2; exact h2.1))
                replace hw := hw.chg kq_40 (by first | (intro x h1 h2; exact h2) | (intro x h1 h2; have h3 : _ = _ := h2; exfalso; omega) | (intro b h1 h2 h3; have h4 : _ = _ := h3; (try dsimp only at h2); exfalso; omega) | (intro h1; have h2 : _ = _ := h1; exfalso; omega) | (intros; exfalso; (try dsimp only at *); omega) | (intro b h1 h2 h3; exfalso; have h4 := h3.2; (try dsimp only at *); omega) | (intro h1; exfalso; have h4 := h1.2; (try dsimp only at *); omega) | (intro x h1 h2; exfalso; have h4 := h2.2; (try dsimp only at *); omega) | (intro x h1 h2; exact h2.1))
                replace hyr := hyr.chg kq_40 (by first | (intro x h1 h2; exact h2) | (intro x h1 h2; have h3 : _ = _ := h2; exfalso; omega) | (intro b h1 h2 h3; have h4 : _ = _ := h3; (try dsimp only at h2); exfalso; omega) | (intro h1; have h2 : _ = _ := h1; exfalso; omega) | (intros; exfalso; (try dsimp only at *); omega) | (intro b h1 h2 h3; exfalso; have h4 := h3.2; (try dsimp only at *); omega) | (intro h1; exfalso; have h4 := h1.2; (try dsimp only at *); omega) | (intro x h1 h2; exfalso; have h4 := h2.2; (try dsimp only at *); omega) | (intro x h1 h2; exact h2.1))
                refine WL.indexC hyr Try.underlying28 Try.sizeOf5 rfl rfl ⟨hy0, rfl⟩ rfl ?_
                refine WL.nil ?_
                exact WX.one ⟨rfl, by first | exact Chg.refl _ _ | assumption⟩
              apply DQ.step (E' := [(93, _)])
              case ho => rfl
              case hs => exact ⟨rfl, trivial⟩
              case hk => rfl
              case h1 =>
                intro wq_41 kq_41
                have zs_kq_41 := kq_41.size
                replace hC := hC.chg kq_41 (by first | (intro x h1 h2; exact h2) | (intro x h1 h2; have h3 : _ = _ := h2; exfalso; omega) | (intro b h1 h2 h3; have h4 : _ = _ := h3; (try dsimp only at h2); exfalso; omega) | (intro h1; have h2 : _ = _ := h1; exfalso; omega) | (intros; exfalso; (try dsimp only at *); omega) | (intro b h1 h2 h3; exfalso; have h4 := h3.2; (try dsimp only at *); omega) | (intro h1; exfalso; have h4 := h1.2; (try dsimp only at *); omega) | (intro x h1 h2; exfalso; have h4 := h2.2; (try dsimp only at *); omega) | (intro x h1 h2; exact h2.1))
                replace ha := ha.chg kq_41 (by first | (intro x h1 h2; exact h2) | (intro x h1 h2; have h3 : _ = _ := h2; exfalso; omega) | (intro b h1 h2 h3; have h4 : _ = _ := h3; (try dsimp only at h2); exfalso; omega) | (intro h1; have h2 : _ = _ := h1; exfalso; omega) | (intros; exfalso; (try dsimp only at *); omega) | (intro b h1 h2 h3; exfalso; have h4 := h3.2; (try dsimp only at *); omega) | (intro h1; exfalso; have h4 := h1.2; (try dsimp only at *); omega) | (intro x h1 h2; exfalso; have h4 := h2.2; (try dsimp only at *); omega) | (intro x h1 h2; exact h2.1))
                replace hb := hb.chg kq_41 (by first | (intro x h1 h2; exact h2) | (intro x h1 h2; have h3 : _ = _ := h2; exfalso; omega) | (intro b h1 h2 h3; have h4 : _ = _ := h3; (try dsimp only at h2); exfalso; omega) | (intro h1; have h2 : _ = _ := h1; exfalso; omega) | (intros; exfalso; (try dsimp only at *); omega) | (intro b h1 h2 h3; exfalso; have h4 := h3.2; (try dsimp only at *); omega) | (intro h1; exfalso; have h4 := h1.2; (try dsimp only at *); omega) | (intro x h1 h2; exfalso; have h4 := h2.2; (try dsimp only at *); omega) | (intro x h1 h2; exact h2.1))
                replace hp := hp.chg kq_41 (by first | (intro x h1 h2; exact h2) | (intro x h1 h2; have h3 : _ = _ := h2; exfalso; omega) | (intro b h1 h2 h3; have h4 : _ = _ := h3; (try dsimp only at h2); exfalso; omega) | (intro h1; have h2 : _ = _ := h1; exfalso; omega) | (intros; exfalso; (try dsimp only at *); omega) | (intro b h1 h2 h3; exfalso; have h4 := h3.2; (try dsimp only at *); omega) | (intro h1; exfalso; have h4 := h1.2; (try dsimp only at *); omega) | (intro x h1 h2; exfalso; have h4 := h2.2; (try dsimp only at *); omega) | (intro x h1 h2; exact h2.1))
                replace hq := hq.chg kq_41 (by first | (intro x h1 h2; exact h2) | (intro x h1 h2; have h3 : _ = _ := h2; exfalso; omega) | (intro b h1 h2 h3; have h4 : _ = _ := h3; (try dsimp only at h2); exfalso; omega) | (intro h1; have h2 : _ = _ := h1; exfalso; omega) | (intros; exfalso; (try dsimp only at *); omega) | (intro b h1 h2 h3; exfalso; have h4 := h3.2; (try dsimp only at *); omega) | (intro h1; exfalso; have h4 := h1.2; (try dsimp only at *); omega) | (intro x h1 h2; exfalso; have h4 := h2.2; (try dsimp only at *); omega) | (intro x h1 h2; exact h2.1))
                replace hw := hw.chg kq_41 (by first | (intro x h1 h2; exact h2) | (intro x h1 h2; have h3 : _ = _ := h2; exfalso; omega) | (intro b h1 h2 h3; have h4 : _ = _ := h3; (try dsimp only at h2); exfalso; omega) | (intro h1; have h2 : _ = _ := h1; exfalso; omega) | (intros; exfalso; (try dsimp only at *); omega) | (intro b h1 h2 h3; exfalso; have h4 := h3.2; (try dsimp only at *); omega) | (intro h1; exfalso; have h4 := h1.2; (try dsimp only at *); omega) | (intro x h1 h2; exfalso; have h4 := h2.2; (try dsimp only at *); omega) | (intro x h1 h2; exact h2.1))
                replace hyr := hyr.chg kq_41 (by first | (intro x h1 h2; exact h2) | (intro x h1 h2; have h3 : _ = _ := h2; exfalso; omega) | (intro b h1 h2 h3; have h4 : _ = _ := h3; (try dsimp only at h2); exfalso; omega) | (intro h1; have h2 : _ = _ := h1; exfalso; omega) | (intros; exfalso; (try dsimp only at *); omega) | (intro b h1 h2 h3; exfalso; have h4 := h3.2; (try dsimp only at *); omega) | (intro h1; exfalso; have h4 := h1.2; (try dsimp only at *); omega) | (intro x h1 h2; exfalso; have h4 := h2.2; (try dsimp only at *); omega) | (intro x h1 h2; exact h2.1))
                refine WL.load Try.isAgg5 rfl ((hyr.cellsAt hy0) 0 _ rfl) rfl (?_)
                refine WL.nil ?_
                exact WX.one ⟨rfl, by first | exact Chg.refl _ _ | assumption⟩
              apply DQ.step (E' := [(82, _), (83, _)])
              case ho => rfl
              case hs => exact ⟨rfl, rfl, trivial⟩
              case hk => rfl
              case h1 =>
                intro wq_42 kq_42
                have zs_kq_42 := kq_42.size
                replace hC := hC.chg kq_42 (by first | (intro x h1 h2; exact h2) | (intro x h1 h2; have h3 : _ = _ := h2; exfalso; omega) | (intro b h1 h2 h3; have h4 : _ = _ := h3; (try dsimp only at h2); exfalso; omega) | (intro h1; have h2 : _ = _ := h1; exfalso; omega) | (intros; exfalso; (try dsimp only at *); omega) | (intro b h1 h2 h3; exfalso; have h4 := h3.2; (try dsimp only at *); omega) | (intro h1; exfalso; have h4 := h1.2; (try dsimp only at *); omega) | (intro x h1 h2; exfalso; have h4 := h2.2; (try dsimp only at *); omega) | (intro x h1 h2; exact h2.1))
                replace ha := ha.chg kq_42 (by first | (intro x h1 h2; exact h2) | (intro x h1 h2; have h3 : _ = _ := h2; exfalso; omega) | (intro b h1 h2 h3; have h4 : _ = _ := h3; (try dsimp only at h2); exfalso; omega) | (intro h1; have h2 : _ = _ := h1; exfalso; omega) | (intros; exfalso; (try dsimp only at *); omega) | (intro b h1 h2 h3; exfalso; have h4 := h3.2; (try dsimp only at *); omega) | (intro h1; exfalso; have h4 := h1.2; (try dsimp only at *); omega) | (intro x h1 h2; exfalso; have h4 := h2.2; (try dsimp only at *); omega) | (intro x h1 h2; exact h2.1))
                replace hb := hb.chg kq_42 (by first | (intro x h1 h2; exact h2) | (intro x h1 h2; have h3 : _ = _ := h2; exfalso; omega) | (intro b h1 h2 h3; have h4 : _ = _ := h3; (try dsimp only at h2); exfalso; omega) | (intro h1; have h2 : _ = _ := h1; exfalso; omega) | (intros; exfalso; (try dsimp only at *); omega) | (intro b h1 h2 h3; exfalso; have h4 := h3.2; (try dsimp only at *); omega) | (intro h1; exfalso; have h4 := h1.2; (try dsimp only at *); omega) | (intro x h1 h2; exfalso; have h4 := h2.2; (try dsimp only at *); omega) | (intro x h1 h2; exact h2.1))
                replace hp := hp.chg kq_42 (by first | (intro x h1 h2; exact h2) | (intro x h1 h2; have h3 : _ = _ := h2; exfalso; omega) | (intro b h1 h2 h3; have h4 : _ = _ := h3; (try dsimp only at h2); exfalso; omega) | (intro h1; have h2 : _ = _ := h1; exfalso; omega) | (intros; exfalso; (try dsimp only at *); omega) | (intro b h1 h2 h3; exfalso; have h4 := h3.2; (try dsimp only at *); omega) | (intro h1; exfalso; have h4 := h1.2; (try dsimp only at *); omega) | (intro x h1 h2; exfalso; have h4 := h2.2; (try dsimp only at *); omega) | (intro x h1 h2; exact h2.1))
                replace hq := hq.chg kq_42 (by first | (intro x h1 h2; exact h2) | (intro x h1 h2; have h3 : _ = _ := h2; exfalso; omega) | (intro b h1 h2 h3; have h4 : _ = _ := h3; (try dsimp only at h2); exfalso; omega) | (intro h1; have h2 : _ = _ := h1; exfalso; omega) | (intros; exfalso; (try dsimp only at *); omega) | (intro b h1 h2 h3; exfalso; have h4 := h3.2; (try dsimp only at *); omega) | (intro h1; exfalso; have h4 := h1.2; (try dsimp only at *); omega) | (intro x h1 h2; exfalso; have h4 := h2.2; (try dsimp only at *); omega) | (intro x h1 h2; exact h2.1))
                replace hw := hw.chg kq_42 (by first | (intro x h1 h2; exact h2) | (intro x h1 h2; have h3 : _ = _ := h2; exfalso; omega) | (intro b h1 h2 h3; have h4 : _ = _ := h3; (try dsimp only at h2); exfalso; omega) | (intro h1; have h2 : _ = _ := h1; exfalso; omega) | (intros; exfalso; (try dsimp only at *); omega) | (intro b h1 h2 h3; exfalso; have h4 := h3.2; (try dsimp only at *); omega) | (intro h1; exfalso; have h4 := h1.2; (try dsimp only at *); omega) | (intro x h1 h2; exfalso; have h4 := h2.2; (try dsimp only at *); omega) | (intro x h1 h2; exact h2.1))
                replace hyr := hyr.chg kq_42 (by first | (intro x h1 h2; exact h2) | (intro x h1 h2; have h3 : _ = _ := h2; exfalso; omega) | (intro b h1 h2 h3; have h4 : _ = _ := h3; (try dsimp only at h2); exfalso; omega) | (intro h1; have h2 : _ = _ := h1; exfalso; omega) | (intros; exfalso; (try dsimp only at *); omega) | (intro b h1 h2 h3; exfalso; have h4 := h3.2; (try dsimp only at *); omega) | (intro h1; exfalso; have h4 := h1.2; (try dsimp only at *); omega) | (intro x h1 h2; exfalso; have h4 := h2.2; (try dsimp only at *); omega) | (intro x h1 h2; exact h2.1))
                refine WL.index (sz := 1) Try.underlying28 Try.sizeOf5 rfl rfl rfl (by omega) rfl ?_
                refine WL.nil ?_
                exact WX.one ⟨rfl, by first | exact Chg.refl _ _ | assumption⟩
              refine DQ.done (fun hd_29 => ?_)
              refine DL.step [(86, _)] rfl ⟨rfl, trivial⟩ rfl (fun wq_43 kq_43 => ?_)
              have zs_kq_43 := kq_43.size
              replace hg := hg.pure kq_43
              replace hC := hC.pure kq_43
              replace ha := ha.pure kq_43
              replace hb := hb.pure kq_43
              replace hp := hp.pure kq_43
              replace hq := hq.pure kq_43
              replace hw := hw.pure kq_43
              replace hyr := hyr.pure kq_43
              replace hd_29 := hd_29.pure kq_43
              refine WL.load Try.isAgg5 rfl ((hg.rsl.cellsAt fx) 0 _ rfl) rfl ?_
              refine WL.nil ?_
              refine WX.one ⟨hd_29, ?_⟩
              refine DL.step [(87, _), (94, _)] rfl ⟨rfl, rfl, trivial⟩ rfl (fun wq_44 kq_44 => ?_)
              have zs_kq_44 := kq_44.size
              replace hg := hg.pure kq_44
              replace hC := hC.pure kq_44
              replace ha := ha.pure kq_44
              replace hb := hb.pure kq_44
              replace hp := hp.pure kq_44
              replace hq := hq.pure kq_44
              replace hw := hw.pure kq_44
              replace hyr := hyr.pure kq_44
              replace hd_29 := hd_29.pure kq_44
              refine WL.num rfl rfl (n_xor8 _ _ _ _) rfl (?_)
              refine WL.nil ?_
              refine WX.one ⟨hd_29, ?_⟩
              refine DL.step [(96, _), (95, _)] rfl ⟨rfl, rfl, trivial⟩ rfl (fun wq_45 kq_45 => ?_)
              have zs_kq_45 := kq_45.size
              replace hg := hg.pure kq_45
              replace hC := hC.pure kq_45
              replace ha := ha.pure kq_45
              replace hb := hb.pure kq_45
              replace hp := hp.pure kq_45
              replace hq := hq.pure kq_45
              replace hw := hw.pure kq_45
              replace hyr := hyr.pure kq_45
              replace hd_29 := hd_29.pure kq_45
              refine WL.storeRow (z := x0 ^^^ y0) (k) Try.sizeOf5 hg rfl rfl rfl (by first | (simp; done) | (show 0 + _ * 1 = _; omega)) (by omega) rfl ?_
              intro w_46 zs_46 nr_46 k_46
              have zs_k_46 := k_46.size
              replace hC := hC.chg k_46 (by first | (intro x h1 h2; exact h2) | (intro x h1 h2; have h3 : _ = _ := h2; exfalso; omega) | (intro b h1 h2 h3; have h4 : _ = _ := h3; (try dsimp only at h2); exfalso; omega) | (intro h1; have h2 : _ = _ := h1; exfalso; omega) | (intros; exfalso; (try dsimp only at *); omega) | (intro b h1 h2 h3; exfalso; have h4 := h3.2; (try dsimp only at *); omega) | (intro h1; exfalso; have h4 := h1.2; (try dsimp only at *); omega) | (intro x h1 h2; exfalso; have h4 := h2.2; (try dsimp only at *); omega) | (intro x h1 h2; exact h2.1))
              replace ha := ha.chg k_46 (by first | (intro x h1 h2; exact h2) | (intro x h1 h2; have h3 : _ = _ := h2; exfalso; omega) | (intro b h1 h2 h3; have h4 : _ = _ := h3; (try dsimp only at h2); exfalso; omega) | (intro h1; have h2 : _ = _ := h1; exfalso; omega) | (intros; exfalso; (try dsimp only at *); omega) | (intro b h1 h2 h3; exfalso; have h4 := h3.2; (try dsimp only at *); omega) | (intro h1; exfalso; have h4 := h1.2; (try dsimp only at *); omega) | (intro x h1 h2; exfalso; have h4 := h2.2; (try dsimp only at *); omega) | (intro x h1 h2; exact h2.1))
              replace hb := hb.chg k_46 (by first | (intro x h1 h2; exact h2) | (intro x h1 h2; have h3 : _ = _ := h2; exfalso; omega) | (intro b h1 h2 h3; have h4 : _ = _ := h3; (try dsimp only at h2); exfalso; omega) | (intro h1; have h2 : _ = _ := h1; exfalso; omega) | (intros; exfalso; (try dsimp only at *); omega) | (intro b h1 h2 h3; exfalso; have h4 := h3.2; (try dsimp only at *); omega) | (intro h1; exfalso; have h4 := h1.2; (try dsimp only at *); omega) | (intro x h1 h2; exfalso; have h4 := h2.2; (try dsimp only at *); omega) | (intro x h1 h2; exact h2.1))
              replace hp := hp.chg k_46 (by first | (intro x h1 h2; exact h2) | (intro x h1 h2; have h3 : _ = _ := h2; exfalso; omega) | (intro b h1 h2 h3; have h4 : _ = _ := h3; (try dsimp only at h2); exfalso; omega) | (intro h1; have h2 : _ = _ := h1; exfalso; omega) | (intros; exfalso; (try dsimp only at *); omega) | (intro b h1 h2 h3; exfalso; have h4 := h3.2; (try dsimp only at *); omega) | (intro h1; exfalso; have h4 := h1.2; (try dsimp only at *); omega) | (intro x h1 h2; exfalso; have h4 := h2.2; (try dsimp only at *); omega) | (intro x h1 h2; exact h2.1))
              replace hq := hq.chg k_46 (by first | (intro x h1 h2; exact h2) | (intro x h1 h2; have h3 : _ = _ := h2; exfalso; omega) | (intro b h1 h2 h3; have h4 : _ = _ := h3; (try dsimp only at h2); exfalso; omega) | (intro h1; have h2 : _ = _ := h1; exfalso; omega) | (intros; exfalso; (try dsimp only at *); omega) | (intro b h1 h2 h3; exfalso; have h4 := h3.2; (try dsimp only at *); omega) | (intro h1; exfalso; have h4 := h1.2; (try dsimp only at *); omega) | (intro x h1 h2; exfalso; have h4 := h2.2; (try dsimp only at *); omega) | (intro x h1 h2; exact h2.1))
              replace hw := hw.chg k_46 (by first | (intro x h1 h2; exact h2) | (intro x h1 h2; have h3 : _ = _ := h2; exfalso; omega) | (intro b h1 h2 h3; have h4 : _ = _ := h3; (try dsimp only at h2); exfalso; omega) | (intro h1; have h2 : _ = _ := h1; exfalso; omega) | (intros; exfalso; (try dsimp only at *); omega) | (intro b h1 h2 h3; exfalso; have h4 := h3.2; (try dsimp only at *); omega) | (intro h1; exfalso; have h4 := h1.2; (try dsimp only at *); omega) | (intro x h1 h2; exfalso; have h4 := h2.2; (try dsimp only at *); omega) | (intro x h1 h2; exact h2.1))
              replace hyr := hyr.chg k_46 (by first | (intro x h1 h2; exact h2) | (intro x h1 h2; have h3 : _ = _ := h2; exfalso; omega) | (intro b h1 h2 h3; have h4 : _ = _ := h3; (try dsimp only at h2); exfalso; omega) | (intro h1; have h2 : _ = _ := h1; exfalso; omega) | (intros; exfalso; (try dsimp only at *); omega) | (intro b h1 h2 h3; exfalso; have h4 := h3.2; (try dsimp only at *); omega) | (intro h1; exfalso; have h4 := h1.2; (try dsimp only at *); omega) | (intro x h1 h2; exfalso; have h4 := h2.2; (try dsimp only at *); omega) | (intro x h1 h2; exact h2.1))
              replace hd_29 := hd_29.chg k_46 (by first | (intro x h1 h2; exact h2) | (intro x h1 h2; have h3 : _ = _ := h2; exfalso; omega) | (intro b h1 h2 h3; have h4 : _ = _ := h3; (try dsimp only at h2); exfalso; omega) | (intro h1; have h2 : _ = _ := h1; exfalso; omega) | (intros; exfalso; (try dsimp only at *); omega) | (intro b h1 h2 h3; exfalso; have h4 := h3.2; (try dsimp only at *); omega) | (intro h1; exfalso; have h4 := h1.2; (try dsimp only at *); omega) | (intro x h1 h2; exfalso; have h4 := h2.2; (try dsimp only at *); omega) | (intro x h1 h2; exact h2.1))
              replace hg := nr_46
              rw [fset] at hg
              refine WL.nil ?_
              refine WX.one0 (v := undef) ⟨hd_29, ?_⟩
              refine DL.done (fun we_47 ke_47 => ?_)
              have zs_ke_47 := ke_47.size
              replace hg := hg.pure ke_47
              replace hC := hC.pure ke_47
              replace ha := ha.pure ke_47
              replace hb := hb.pure ke_47
              replace hp := hp.pure ke_47
              replace hq := hq.pure ke_47
              replace hw := hw.pure ke_47
              replace hyr := hyr.pure ke_47
              replace hd_29 := hd_29.pure ke_47
              refine WX.block_normal (WX.then_normal (WC.region (WL.move rfl rfl (WL.add64 rfl rfl (by first | omega | (constructor <;> omega)) rfl (WL.assign rfl rfl (WL.nil (?_)))))))
              first
                | (refine WX.loop_next (k + 1) ⟨rfl, rfl, rfl, rfl, rfl, trivial⟩ ⟨by omega, hp, hq, hr, hw⟩ (by show _ - _ < _ - _; omega))
                | (refine WX.loop_next (i + 1) ⟨rfl, rfl, rfl, rfl, trivial⟩ ⟨by omega, hp, hq, hr, hw⟩ (by show _ - _ < _ - _; omega))
                | (refine WX.loop_next (k + 1) ⟨rfl, rfl, rfl, rfl, rfl, rfl, rfl, rfl, trivial⟩ ⟨by omega, hg.own.lt _ rfl, hg, hC, ha, hb, hp, hq, hw⟩ (by show _ - _ < _ - _; omega))
                | (refine WX.loop_next (cs ++ [⟨some ⟨gr, 0, none⟩, c_h1, xorL x.xs yxs⟩], ao2, c2, wz.heap.size) ⟨rfl, rfl, rfl, rfl, rfl, ?_, trivial⟩ ⟨?_, by dsimp only; omega, Nat.le_refl _, hCn, ?_, ha, hb, hp, hq, hw⟩ ?_
                   ·
                     dsimp only
                     rw [List.length_append]
                     rfl
                   ·
                     dsimp only
                     rw [List.length_append]
                     show cs.length + 1 ≤ ra.length
                     omega
                   ·
                     intro i x' y' z' hz' hx' hy'
                     dsimp only at hz'
                     rcases Nat.lt_or_ge i cs.length with h1 | h1
                     ·
                       rw [List.getElem?_append_left h1] at hz'
                       exact hxor i x' y' z' hz' hx' hy'
                     ·
                       rw [List.getElem?_append_right h1] at hz'
                       have h2 := (List.getElem?_eq_some_iff.1 hz').1
                       simp at h2
                       have h3 : i = cs.length := by omega
                       subst h3
                       rw [Nat.sub_self] at hz'
                       simp at hz'
                       rw [hx] at hx'
                       rw [hy] at hy'
                       injection hx' with hx'
                       injection hy' with hy'
                       rw [← hz', ← hx', ← hy']
                   ·
                     dsimp only
                     rw [List.length_append]
                     show ra.length - (cs.length + 1) < ra.length - cs.length
                     omega)
            ·
              refine WL.nil (WX.then_normal (WC.cond_false rfl (WC.exit (WX.then_exit (WX.then_exit (WX.block_here (WX.then_normal (?_))))))))
              refine WC.region (WL.move rfl rfl (?_))
              have hkl : k = x.xs.length := by omega
              subst hkl
              rw [xorTo_end (by omega)] at hg
              have hxol : (xorL x.xs yxs).length = x.xs.length := xorL_len (by omega)
              have zw3 := hw.size
              refine WL.move rfl rfl ?_
              rw [show Value.slice (some ⟨gr, 0, none⟩) x.xs.length c_h1 = Value.slice (some ⟨gr, 0, none⟩) (xorL x.xs yxs).length c_h1 from by rw [hxol]]
              refine WL.build (e := erow) [⟨some ⟨gr, 0, none⟩, c_h1, xorL x.xs yxs⟩] Try.underlying22 Try.sizeOf28 Try.zeroValue28 rfl rfl rfl (by first | (simp [Value.cells]; done) | (simp [Value.cells] <;> rfl) | (simp [Value.cells, eb, ei, es, ebool, e32, e64]; done)) (by decide) rfl ?_
              intro a_hz w_hz hz l_hz z_hz k_hz
              have zs_k_hz := k_hz.size
              replace hg := hg.pure k_hz
              replace hC := hC.pure k_hz
              replace ha := ha.pure k_hz
              replace hb := hb.pure k_hz
              replace hp := hp.pure k_hz
              replace hq := hq.pure k_hz
              replace hw := hw.pure k_hz
              have zl := hg.own.lt _ rfl
              dsimp only at zl
              refine WL.append (e := erow) info_28 rfl Try.underlying22 rfl rfl (hC.outer.mono (fun b h => h.1)) (hz.rsl.src Try.underlying22) (by constructor <;> (simp only [List.length_cons, List.length_nil]; omega)) (fun b hb => by have := hw.size; omega) rfl ?_
              intro ao2 c2 wz hC2 gC nC
              have hCn := hC.snoc (r := ⟨some ⟨gr, 0, none⟩, c_h1, xorL x.xs yxs⟩) ((hg.rsl.lt).mono (fun b h => by have h2 : b = gr := h.1; omega)) hN1 (by omega) hC2 gC
              have zgc := gC.chg.size
              have zs_gC_chg := gC.chg.size
              replace ha := ha.chg gC.chg (by first | (intro x h1 h2; exact h2) | (intro x h1 h2; have h3 : _ = _ := h2; exfalso; omega) | (intro b h1 h2 h3; have h4 : _ = _ := h3; (try dsimp only at h2); exfalso; omega) | (intro h1; have h2 : _ = _ := h1; exfalso; omega) | (intros; exfalso; (try dsimp only at *); omega) | (intro b h1 h2 h3; exfalso; have h4 := h3.2; (try dsimp only at *); omega) | (intro h1; exfalso; have h4 := h1.2; (try dsimp only at *); omega) | (intro x h1 h2; exfalso; have h4 := h2.2; (try dsimp only at *); omega) | (intro x h1 h2; exact h2.1))
              replace hb := hb.chg gC.chg (by first | (intro x h1 h2; exact h2) | (intro x h1 h2; have h3 : _ = _ := h2; exfalso; omega) | (intro b h1 h2 h3; have h4 : _ = _ := h3; (try dsimp only at h2); exfalso; omega) | (intro h1; have h2 : _ = _ := h1; exfalso; omega) | (intros; exfalso; (try dsimp only at *); omega) | (intro b h1 h2 h3; exfalso; have h4 := h3.2; (try dsimp only at *); omega) | (intro h1; exfalso; have h4 := h1.2; (try dsimp only at *); omega) | (intro x h1 h2; exfalso; have h4 := h2.2; (try dsimp only at *); omega) | (intro x h1 h2; exact h2.1))
              replace hp := hp.chg gC.chg (by first | (intro x h1 h2; exact h2) | (intro x h1 h2; have h3 : _ = _ := h2; exfalso; omega) | (intro b h1 h2 h3; have h4 : _ = _ := h3; (try dsimp only at h2); exfalso; omega) | (intro h1; have h2 : _ = _ := h1; exfalso; omega) | (intros; exfalso; (try dsimp only at *); omega) | (intro b h1 h2 h3; exfalso; have h4 := h3.2; (try dsimp only at *); omega) | (intro h1; exfalso; have h4 := h1.2; (try dsimp only at *); omega) | (intro x h1 h2; exfalso; have h4 := h2.2; (try dsimp only at *); omega) | (intro x h1 h2; exact h2.1))
              replace hq := hq.chg gC.chg (by first | (intro x h1 h2; exact h2) | (intro x h1 h2; have h3 : _ = _ := h2; exfalso; omega) | (intro b h1 h2 h3; have h4 : _ = _ := h3; (try dsimp only at h2); exfalso; omega) | (intro h1; have h2 : _ = _ := h1; exfalso; omega) | (intros; exfalso; (try dsimp only at *); omega) | (intro b h1 h2 h3; exfalso; have h4 := h3.2; (try dsimp only at *); omega) | (intro h1; exfalso; have h4 := h1.2; (try dsimp only at *); omega) | (intro x h1 h2; exfalso; have h4 := h2.2; (try dsimp only at *); omega) | (intro x h1 h2; exact h2.1))
              replace hw := hw.chg gC.chg (by first | (intro x h1 h2; exact h2) | (intro x h1 h2; have h3 : _ = _ := h2; exfalso; omega) | (intro b h1 h2 h3; have h4 : _ = _ := h3; (try dsimp only at h2); exfalso; omega) | (intro h1; have h2 : _ = _ := h1; exfalso; omega) | (intros; exfalso; (try dsimp only at *); omega) | (intro b h1 h2 h3; exfalso; have h4 := h3.2; (try dsimp only at *); omega) | (intro h1; exfalso; have h4 := h1.2; (try dsimp only at *); omega) | (intro x h1 h2; exfalso; have h4 := h2.2; (try dsimp only at *); omega) | (intro x h1 h2; exact h2.1))
              refine WL.assign rfl rfl (WL.nil (WX.block_normal (WX.then_normal (WC.region (WL.move rfl rfl (WL.add64 rfl rfl (by first | omega | (constructor <;> omega)) rfl (WL.assign rfl rfl (?_))))))))
              refine WL.nil (?_)
              first
                | (refine WX.loop_next (k + 1) ⟨rfl, rfl, rfl, rfl, rfl, trivial⟩ ⟨by omega, hp, hq, hr, hw⟩ (by show _ - _ < _ - _; omega))
                | (refine WX.loop_next (i + 1) ⟨rfl, rfl, rfl, rfl, trivial⟩ ⟨by omega, hp, hq, hr, hw⟩ (by show _ - _ < _ - _; omega))
                | (refine WX.loop_next (k + 1) ⟨rfl, rfl, rfl, rfl, rfl, rfl, rfl, rfl, trivial⟩ ⟨by omega, hg.own.lt _ rfl, hg, hC, ha, hb, hp, hq, hw⟩ (by show _ - _ < _ - _; omega))
                | (refine WX.loop_next (cs ++ [⟨some ⟨gr, 0, none⟩, c_h1, xorL x.xs yxs⟩], ao2, c2, wz.heap.size) ⟨rfl, rfl, rfl, rfl, rfl, ?_, trivial⟩ ⟨?_, by dsimp only; omega, Nat.le_refl _, hCn, ?_, ha, hb, hp, hq, hw⟩ ?_
                   ·
                     dsimp only
                     rw [List.length_append]
                     rfl
                   ·
                     dsimp only
                     rw [List.length_append]
                     show cs.length + 1 ≤ ra.length
                     omega
                   ·
                     intro i x' y' z' hz' hx' hy'
                     dsimp only at hz'
                     rcases Nat.lt_or_ge i cs.length with h1 | h1
                     ·
                       rw [List.getElem?_append_left h1] at hz'
                       exact hxor i x' y' z' hz' hx' hy'
                     ·
                       rw [List.getElem?_append_right h1] at hz'
                       have h2 := (List.getElem?_eq_some_iff.1 hz').1
                       simp at h2
                       have h3 : i = cs.length := by omega
                       subst h3
                       rw [Nat.sub_self] at hz'
                       simp at hz'
                       rw [hx] at hx'
                       rw [hy] at hy'
                       injection hx' with hx'
                       injection hy' with hy'
                       rw [← hz', ← hx', ← hy']
                   ·
                     dsimp only
                     rw [List.length_append]
                     show ra.length - (cs.length + 1) < ra.length - cs.length
                     omega)
          ·
            refine WL.nil (WX.then_normal (WC.cond_false rfl (WC.exit (WX.then_exit (WX.then_exit (WX.block_here (WX.then_normal (?_))))))))
            refine WC.seq (WC.region (WL.move rfl rfl (?_)))
            have hcsl : cs.length = ra.length := by omega
            have hallc : ∀ d ∈ xss cs, d.length = ma := by
              intro d hd
              obtain ⟨z, hz, rfl⟩ := List.mem_map.1 hd
              obtain ⟨j, hj⟩ := List.getElem?_of_mem hz
              have hjl := (List.getElem?_eq_some_iff.1 hj).1
              obtain ⟨x, hx⟩ : ∃ x, ra[j]? = some x := ⟨_, List.getElem?_eq_getElem (by omega)⟩
              obtain ⟨y, hy⟩ : ∃ y, rb[j]? = some y := ⟨_, List.getElem?_eq_getElem (by omega)⟩
              have h1 := halla _ (xss_mem hx)
              have h2 := hallb _ (xss_mem hy)
              rw [hxor j x y z hj hx hy, xorL_len (by omega), h1]
            have hnc : lenC (xss cs) = (ma : Int) := by
              rw [lenC_of (fun e => by have := xss_len cs; rw [e] at this; simp at this; omega) hallc, if_pos ⟨hma1, hma2⟩]
            have hCr := hC.read
            refine WL.call eg_9 rfl rfl (make_rs hCr (by omega) hnc) ?_
            rintro v w4 ⟨⟨ar, cr, ts, rfl, hr, hrs⟩, k4⟩
            have zs_k4 := k4.size
            replace ha := ha.pure k4
            replace hb := hb.pure k4
            replace hp := hp.pure k4
            replace hq := hq.pure k4
            replace hw := hw.pure k4
            replace hr := hr.old
            have hts : ts.length = 3 := by rw [← xss_len, hrs]; rfl
            have hpx : ∀ (i k : Nat), px (wtq i) (xss cs) k cs.length = px (wtq i) (xss ra) k ra.length ^^^ px (wtq i) (xss rb) k rb.length := by
              intro i k
              rw [← hlen, hcsl]
              refine px_sum (m := ra.length) (fun j hj => ?_) (Nat.le_refl _)
              obtain ⟨x, hx⟩ : ∃ x, ra[j]? = some x := ⟨_, List.getElem?_eq_getElem hj⟩
              obtain ⟨y, hy⟩ : ∃ y, rb[j]? = some y := ⟨_, List.getElem?_eq_getElem (by omega)⟩
              obtain ⟨z, hz⟩ : ∃ z, cs[j]? = some z := ⟨_, List.getElem?_eq_getElem (by omega)⟩
              have h1 := halla _ (xss_mem hx)
              have h2 := hallb _ (xss_mem hy)
              rw [xss_getD hx, xss_getD hy, xss_getD hz, hxor j x y z hz hx hy, xorL_getD (by omega)]
            refine WL.move rfl rfl (WL.extract rfl rfl rfl (WL.extract rfl rfl rfl (WL.assign rfl rfl (WL.assign rfl rfl (WL.nil (WX.then_normal (WC.seq (?_))))))))
            refine WC.seq (WC.region (WL.move rfl rfl (?_)))
            refine WL.neq rfl rfl rfl ?_
            rw [show decide ((0 : Int) ≠ 0) = false from rfl]
            refine WL.move rfl rfl (WL.want rfl rfl rfl (WL.move rfl rfl (WL.want rfl rfl rfl (WL.len Try.underlying22 rfl rfl (WL.want rfl rfl rfl (?_))))))
            refine WL.neq rfl rfl rfl ?_
            rw [show decide ((ts.length : Int) ≠ 3) = false from decide_eq_false (by omega)]
            refine WL.pickF rfl rfl rfl (WL.nil (WX.then_normal (WC.cond_false rfl (WC.skip (WX.then_normal (WC.seq (WC.seq (?_))))))))
            refine WC.region (WL.assign rfl rfl (WL.nil (WX.then_normal (WC.block (?_)))))
            refine WC.loop (σ := Nat) (fun i => [(5, .slice ap ps.length cp), (7, .slice aq qs.length cq), (13, .slice ar ts.length cr), (15, vi i)])
              (fun i w' => i ≤ 3 ∧ RS (fun b => b < N) w' ap cp ps ∧ RS (fun b => b < N) w' aq cq qs ∧ RS (· < w4.heap.size) w' ar cr ts ∧ Chg Nob w w') (fun i => 3 - i) 0 ⟨rfl, rfl, rfl, rfl, trivial⟩ ⟨Nat.zero_le _, hp, hq, hr, hw⟩ ?_
            clear ha hb hp hq hr hw hCr
            rintro i w5 ⟨hi, hp, hq, hr, hw⟩
            refine WC.seq (WC.seq (WC.region (WL.move rfl rfl (?_))))
            refine WL.lss? rfl rfl rfl (fun h114 => ?_) (fun h114 => ?_)
            ·
              refine WL.nil (WX.then_normal (WC.cond_true rfl (WC.skip (WX.then_normal (WC.seq (WC.block (WC.seq (?_))))))))
              refine WC.region (WL.assign rfl rfl (WL.nil (WX.then_normal (WC.block (?_)))))
              obtain ⟨rao, rc, rxs, hri, hrl, hrx⟩ := three_row (i := i) hrs (by omega) hallc (by rw [xss_len]; exact Nat.le_refl _)
              obtain ⟨pao, pc, pxs, hpi, hpl, hpx0⟩ := three_row (i := i) hps (by omega) halla (by rw [xss_len]; exact Nat.le_refl _)
              obtain ⟨qao, qc, qxs, hqi, hql, hqx0⟩ := three_row (i := i) hqs (by omega) hallb (by rw [xss_len]; exact Nat.le_refl _)
              refine WC.loop (σ := Nat) (fun k => [(5, .slice ap ps.length cp), (7, .slice aq qs.length cq), (13, .slice ar ts.length cr), (15, vi i), (16, vi k)])
                (fun k w' => k ≤ ma ∧ RS (fun b => b < N) w' ap cp ps ∧ RS (fun b => b < N) w' aq cq qs ∧ RS (· < w4.heap.size) w' ar cr ts ∧ Chg Nob w w') (fun k => ma - k) 0 ⟨rfl, rfl, rfl, rfl, rfl, trivial⟩ ⟨Nat.zero_le _, hp, hq, hr, hw⟩ ?_
              clear hp hq hr hw
              rintro k w6 ⟨hk, hp, hq, hr, hw⟩
              refine WC.seq (WC.seq (WC.region (WL.move rfl rfl (WL.move rfl rfl (WL.move rfl rfl (?_))))))
              refine WL.indexT Try.underlying22 Try.sizeOf28 hr.outer rfl rfl ⟨hri, rfl⟩ rfl ?_
              intro b_27 o_27 hc_27
              refine WL.load Try.isAgg28 rfl (hc_27 0 _ rfl) rfl (WL.len Try.underlying28 rfl rfl (?_))
              refine WL.lss? rfl rfl rfl (fun h123 => ?_) (fun h123 => ?_)
              ·
                refine WL.nil (WX.then_normal (WC.cond_true rfl (WC.skip (WX.then_normal (WC.seq (WC.block (WC.seq (?_))))))))
                have h123' : (k : Int) < (rxs.length : Int) := h123
                have hrr : RSl (· < w4.heap.size) _ eb rao rc rxs := hr.at hri
                have hpr : RSl (fun b => b < N) _ eb pao pc pxs := hp.at hpi
                have hqr : RSl (fun b => b < N) _ eb qao qc qxs := hq.at hqi
                have frx := hrx k (by omega)
                have fpx := hpx0 k (by omega)
                have fqx := hqx0 k (by omega)
                obtain ⟨c1, d1, rfl⟩ := hr.outer.place hri
                obtain ⟨c2', d2, rfl⟩ := hp.outer.place hpi
                obtain ⟨c3, d3, rfl⟩ := hq.outer.place hqi
                obtain ⟨c4, d4, rfl⟩ := hrr.place frx
                obtain ⟨c5, d5, rfl⟩ := hpr.place fpx
                obtain ⟨c6, d6, rfl⟩ := hqr.place fqx
                refine WC.draw (Nob) [0, 1, 2, 3, 4, 5, 6, 7, 8, 9, 10, 11, 12, 13, 14, 15, 16, 17, 18, 19, 20, 21, 22] [] mixed rfl rfl (fun wd_28 kd_28 zd_28 => ?_)
                have zs_kd_28 := kd_28.size
                replace hp := hp.pure kd_28
                replace hq := hq.pure kd_28
                replace hr := hr.pure kd_28
                replace hw := hw.pure kd_28
                replace hrr := hrr.pure kd_28
                replace hpr := hpr.pure kd_28
                replace hqr := hqr.pure kd_28
                apply DQ.step (E' := [(13, _)])
                case ho => rfl
                case hs => exact ⟨rfl, trivial⟩
                case hk => rfl
                case h1 =>
                  intro wq_29 kq_29
                  refine WL.move rfl rfl (?_)
                  refine WL.nil ?_
                  exact WX.one ⟨rfl, by first | exact Chg.refl _ _ | assumption⟩
                apply DQ.step (E' := [(15, _)])
                case ho => rfl
                case hs => exact ⟨rfl, trivial⟩
                case hk => rfl
                case h1 =>
                  intro wq_30 kq_30
                  refine WL.move rfl rfl (?_)
                  refine WL.nil ?_
                  exact WX.one ⟨rfl, by first | exact Chg.refl _ _ | assumption⟩
                apply DQ.step (E' := [(126, _), (127, _)])
                case ho => rfl
                case hs => exact ⟨rfl, rfl, trivial⟩
                case hk => rfl
                case h1 =>
                  intro wq_31 kq_31
                  have zs_kq_31 := kq_31.size
                  replace hp := hp.pure kq_31
                  replace hq := hq.pure kq_31
                  replace hr := hr.pure kq_31
                  replace hw := hw.pure kq_31
                  replace hrr := hrr.pure kq_31
                  replace hpr := hpr.pure kq_31
                  replace hqr := hqr.pure kq_31
                  refine WL.indexC hr.outer Try.underlying22 Try.sizeOf28 rfl rfl ⟨hri, rfl⟩ rfl ?_
                  refine WL.nil ?_
                  exact WX.one ⟨rfl, by first | exact Chg.refl _ _ | assumption⟩
                apply DQ.step (E' := [(128, _)])
                case ho => rfl
                case hs => exact ⟨rfl, trivial⟩
                case hk => rfl
                case h1 =>
                  intro wq_32 kq_32
                  have zs_kq_32 := kq_32.size
                  replace hp := hp.pure kq_32
                  replace hq := hq.pure kq_32
                  replace hr := hr.pure kq_32
                  replace hw := hw.pure kq_32
                  replace hrr := hrr.pure kq_32
                  replace hpr := hpr.pure kq_32
                  replace hqr := hqr.pure kq_32
                  refine WL.load Try.isAgg28 rfl ((hr.outer.cellsAt hri) 0 _ rfl) rfl (?_)
                  refine WL.nil ?_
                  exact WX.one ⟨rfl, by first | exact Chg.refl _ _ | assumption⟩
                apply DQ.step (E' := [(16, _)])
                case ho => rfl
                case hs => exact ⟨rfl, trivial⟩
                case hk => rfl
                case h1 =>
                  intro wq_33 kq_33
                  refine WL.move rfl rfl (?_)
                  refine WL.nil ?_
                  exact WX.one ⟨rfl, by first | exact Chg.refl _ _ | assumption⟩
                apply DQ.step (E' := [(129, _), (130, _)])
                case ho => rfl
                case hs => exact ⟨rfl, rfl, trivial⟩
                case hk => rfl
                case h1 =>
                  intro wq_34 kq_34
                  have zs_kq_34 := kq_34.size
                  replace hp := hp.pure kq_34
                  replace hq := hq.pure kq_34
                  replace hr := hr.pure kq_34
                  replace hw := hw.pure kq_34
                  replace hrr := hrr.pure kq_34
                  replace hpr := hpr.pure kq_34
                  replace hqr := hqr.pure kq_34
                  refine WL.indexC hrr Try.underlying28 Try.sizeOf5 rfl rfl ⟨frx, rfl⟩ rfl ?_
                  refine WL.nil ?_
                  exact WX.one ⟨rfl, by first | exact Chg.refl _ _ | assumption⟩
                apply DQ.step (E' := [(131, _)])
                case ho => rfl
                case hs => exact ⟨rfl, trivial⟩
                case hk => rfl
                case h1 =>
                  intro wq_35 kq_35
                  have zs_kq_35 := kq_35.size
                  replace hp := hp.pure kq_35
                  replace hq := hq.pure kq_35
                  replace hr := hr.pure kq_35
                  replace hw := hw.pure kq_35
                  replace hrr := hrr.pure kq_35
                  replace hpr := hpr.pure kq_35
                  replace hqr := hqr.pure kq_35
                  refine WL.load Try.isAgg5 rfl ((hrr.cellsAt frx) 0 _ rfl) rfl (?_)
                  refine WL.nil ?_
                  exact WX.one ⟨rfl, by first | exact Chg.refl _ _ | assumption⟩
                apply DQ.step (E' := [(5, _)])
                case ho => rfl
                case hs => exact ⟨rfl, trivial⟩
                case hk => rfl
                case h1 =>
                  intro wq_36 kq_36
                  refine WL.move rfl rfl (?_)
                  refine WL.nil ?_
                  exact WX.one ⟨rfl, by first | exact Chg.refl _ _ | assumption⟩
                apply DQ.step (E' := [(15, _)])
                case ho => rfl
                case hs => exact ⟨rfl, trivial⟩
                case hk => rfl
                case h1 =>
                  intro wq_37 kq_37
                  refine WL.move rfl rfl (?_)
                  refine WL.nil ?_
                  exact WX.one ⟨rfl, by first | exact Chg.refl _ _ | assumption⟩
                apply DQ.step (E' := [(133, _), (134, _)])
                case ho => rfl
                case hs => exact ⟨rfl, rfl, trivial⟩
                case hk => rfl
                case h1 =>
                  intro wq_38 kq_38
                  have zs_kq_38 := kq_38.size
                  replace hp := hp.pure kq_38
                  replace hq := hq.pure kq_38
                  replace hr := hr.pure kq_38
                  replace hw := hw.pure kq_38
                  replace hrr := hrr.pure kq_38
                  replace hpr := hpr.pure kq_38
                  replace hqr := hqr.pure kq_38
                  refine WL.indexC hp.outer Try.underlying22 Try.sizeOf28 rfl rfl ⟨hpi, rfl⟩ rfl ?_
                  refine WL.nil ?_
                  exact WX.one ⟨rfl, by first | exact Chg.refl _ _ | assumption⟩
                apply DQ.step (E' := [(135, _)])
                case ho => rfl
                case hs => exact ⟨rfl, trivial⟩
                case hk => rfl
                case h1 =>
                  intro wq_39 kq_39
                  have zs_kq_39 := kq_39.size
                  replace hp := hp.pure kq_39
                  replace hq := hq.pure kq_39
                  replace hr := hr.pure kq_39
                  replace hw := hw.pure kq_39
                  replace hrr := hrr.pure kq_39
                  replace hpr := hpr.pure kq_39
                  replace hqr := hqr.pure kq_39
                  refine WL.load Try.isAgg28 rfl ((hp.outer.cellsAt hpi) 0 _ rfl) rfl (?_)
                  refine WL.nil ?_
                  exact WX.one ⟨rfl, by first | exact Chg.refl _ _ | assumption⟩
                apply DQ.step (E' := [(16, _)])
                case ho => rfl
                case hs => exact ⟨rfl, trivial⟩
                case hk => rfl
                case h1 =>
                  intro wq_40 kq_40
                  refine WL.move rfl rfl (?_)
                  refine WL.nil ?_
                  exact WX.one ⟨rfl, by first | exact Chg.refl _ _ | assumption⟩
                apply DQ.step (E' := [(136, _), (137, _)])
                case ho => rfl
                case hs => exact ⟨rfl, rfl, trivial⟩
                case hk => rfl
                case h1 =>
                  intro wq_41 kq_41
                  have zs_kq_41 := kq_41.size
                  replace hp := hp.pure kq_41
                  replace hq := hq.pure kq_41
                  replace hr := hr.pure kq_41
                  replace hw := hw.pure kq_41
                  replace hrr := hrr.pure kq_41
                  replace hpr := hpr.pure kq_41
                  replace hqr := hqr.pure kq_41
                  refine WL.indexC hpr Try.underlying28 Try.sizeOf5 rfl rfl ⟨fpx, rfl⟩ rfl ?_
                  refine WL.nil ?_
                  exact WX.one ⟨rfl, by first | exact Chg.refl _ _ | assumption⟩
                apply DQ.step (E' := [(138, _)])
                case ho => rfl
                case hs => exact ⟨rfl, trivial⟩
                case hk => rfl
                case h1 =>
                  intro wq_42 kq_42
                  have zs_kq_42 := kq_42.size
                  replace hp := hp.pure kq_42
                  replace hq := hq.pure kq_42
                  replace hr := hr.pure kq_42
                  replace hw := hw.pure kq_42
                  replace hrr := hrr.pure kq_42
                  replace hpr := hpr.pure kq_42
                  replace hqr := hqr.pure kq_42
                  refine WL.load Try.isAgg5 rfl ((hpr.cellsAt fpx) 0 _ rfl) rfl (?_)
                  refine WL.nil ?_
                  exact WX.one ⟨rfl, by first | exact Chg.refl _ _ | assumption⟩
                apply DQ.step (E' := [(7, _)])
                case ho => rfl
                case hs => exact ⟨rfl, trivial⟩
                case hk => rfl
                case h1 =>
                  intro wq_43 kq_43
                  refine WL.move rfl rfl (?_)
                  refine WL.nil ?_
                  exact WX.one ⟨rfl, by first | exact Chg.refl _ _ | assumption⟩
                apply DQ.step (E' := [(15, _)])
                case ho => rfl
                case hs => exact ⟨rfl, trivial⟩
                case hk => rfl
                case h1 =>
                  intro wq_44 kq_44
                  refine WL.move rfl rfl (?_)
                  refine WL.nil ?_
                  exact WX.one ⟨rfl, by first | exact Chg.refl _ _ | assumption⟩
                apply DQ.step (E' := [(140, _), (141, _)])
                case ho => rfl
                case hs => exact ⟨rfl, rfl, trivial⟩
                case hk => rfl
                case h1 =>
                  intro wq_45 kq_45
                  have zs_kq_45 := kq_45.size
                  replace hp := hp.pure kq_45
                  replace hq := hq.pure kq_45
                  replace hr := hr.pure kq_45
                  replace hw := hw.pure kq_45
                  replace hrr := hrr.pure kq_45
                  replace hpr := hpr.pure kq_45
                  replace hqr := hqr.pure kq_45
                  refine WL.indexC hq.outer Try.underlying22 Try.sizeOf28 rfl rfl ⟨hqi, rfl⟩ rfl ?_
                  refine WL.nil ?_
                  exact WX.one ⟨rfl, by first | exact Chg.refl _ _ | assumption⟩
                apply DQ.step (E' := [(142, _)])
                case ho => rfl
                case hs => exact ⟨rfl, trivial⟩
                case hk => rfl
                case h1 =>
                  intro wq_46 kq_46
                  have zs_kq_46 := kq_46.size
                  replace hp := hp.pure kq_46
                  replace hq := hq.pure kq_46
                  replace hr := hr.pure kq_46
                  replace hw := hw.pure kq_46
                  replace hrr := hrr.pure kq_46
                  replace hpr := hpr.pure kq_46
                  replace hqr := hqr.pure kq_46
                  refine WL.load Try.isAgg28 rfl ((hq.outer.cellsAt hqi) 0 _ rfl) rfl (?_)
                  refine WL.nil ?_
                  exact WX.one ⟨rfl, by first | exact Chg.refl _ _ | assumption⟩
                apply DQ.step (E' := [(16, _)])
                case ho => rfl
                case hs => exact ⟨rfl, trivial⟩
                case hk => rfl
                case h1 =>
                  intro wq_47 kq_47
                  refine WL.move rfl rfl (?_)
                  refine WL.nil ?_
                  exact WX.one ⟨rfl, by first | exact Chg.refl _ _ | assumption⟩
                apply DQ.step (E' := [(143, _), (144, _)])
                case ho => rfl
                case hs => exact ⟨rfl, rfl, trivial⟩
                case hk => rfl
                case h1 =>
                  intro wq_48 kq_48
                  have zs_kq_48 := kq_48.size
                  replace hp := hp.pure kq_48
                  replace hq := hq.pure kq_48
                  replace hr := hr.pure kq_48
                  replace hw := hw.pure kq_48
                  replace hrr := hrr.pure kq_48
                  replace hpr := hpr.pure kq_48
                  replace hqr := hqr.pure kq_48
                  refine WL.indexC hqr Try.underlying28 Try.sizeOf5 rfl rfl ⟨fqx, rfl⟩ rfl ?_
                  refine WL.nil ?_
                  exact WX.one ⟨rfl, by first | exact Chg.refl _ _ | assumption⟩
                apply DQ.step (E' := [(145, _)])
                case ho => rfl
                case hs => exact ⟨rfl, trivial⟩
                case hk => rfl
                case h1 =>
                  intro wq_49 kq_49
                  have zs_kq_49 := kq_49.size
                  replace hp := hp.pure kq_49
                  replace hq := hq.pure kq_49
                  replace hr := hr.pure kq_49
                  replace hw := hw.pure kq_49
                  replace hrr := hrr.pure kq_49
                  replace hpr := hpr.pure kq_49
                  replace hqr := hqr.pure kq_49
                  refine WL.load Try.isAgg5 rfl ((hqr.cellsAt fqx) 0 _ rfl) rfl (?_)
                  refine WL.nil ?_
                  exact WX.one ⟨rfl, by first | exact Chg.refl _ _ | assumption⟩
                apply DQ.step (E' := [(139, _), (146, _)])
                case ho => rfl
                case hs => exact ⟨rfl, rfl, trivial⟩
                case hk => rfl
                case h1 =>
                  intro wq_50 kq_50
                  refine WL.num rfl rfl (n_xor8 _ _ _ _) rfl (?_)
                  refine WL.nil ?_
                  exact WX.one ⟨rfl, by first | exact Chg.refl _ _ | assumption⟩
                apply DQ.step (E' := [(132, _), (147, _)])
                case ho => rfl
                case hs => exact ⟨rfl, rfl, trivial⟩
                case hk => rfl
                case h1 =>
                  intro wq_51 kq_51
                  refine WL.neq rfl rfl rfl ?_
                  rw [hpx i k, neq_self3]
                  refine WL.nil ?_
                  exact WX.one ⟨rfl, by first | exact Chg.refl _ _ | assumption⟩
                refine DQ.done (fun _ => ?_)
                refine DL.done (fun we_52 ke_52 => ?_)
                have zs_ke_52 := ke_52.size
                replace hp := hp.pure ke_52
                replace hq := hq.pure ke_52
                replace hr := hr.pure ke_52
                replace hw := hw.pure ke_52
                replace hrr := hrr.pure ke_52
                replace hpr := hpr.pure ke_52
                replace hqr := hqr.pure ke_52
                refine WX.then_normal (WC.cond_false rfl (WC.skip (WX.block_normal (WX.then_normal (WC.region (WL.move rfl rfl (WL.add64 rfl rfl (by first | omega | (constructor <;> omega)) rfl (?_))))))))
                refine WL.assign rfl rfl (WL.nil (?_))
                first
                  | (refine WX.loop_next (k + 1) ⟨rfl, rfl, rfl, rfl, rfl, trivial⟩ ⟨by omega, hp, hq, hr, hw⟩ (by show _ - _ < _ - _; omega))
                  | (refine WX.loop_next (i + 1) ⟨rfl, rfl, rfl, rfl, trivial⟩ ⟨by omega, hp, hq, hr, hw⟩ (by show _ - _ < _ - _; omega))
                  | (refine WX.loop_next (k + 1) ⟨rfl, rfl, rfl, rfl, rfl, rfl, rfl, rfl, trivial⟩ ⟨by omega, hg.own.lt _ rfl, hg, hC, ha, hb, hp, hq, hw⟩ (by show _ - _ < _ - _; omega))
                  | (refine WX.loop_next (cs ++ [⟨some ⟨gr, 0, none⟩, c_h1, xorL x.xs yxs⟩], ao2, c2, wz.heap.size) ⟨rfl, rfl, rfl, rfl, rfl, ?_, trivial⟩ ⟨?_, by dsimp only; omega, Nat.le_refl _, hCn, ?_, ha, hb, hp, hq, hw⟩ ?_
                     ·
                       dsimp only
                       rw [List.length_append]
                       rfl
                     ·
                       dsimp only
                       rw [List.length_append]
                       show cs.length + 1 ≤ ra.length
                       omega
                     ·
                       intro i x' y' z' hz' hx' hy'
                       dsimp only at hz'
                       rcases Nat.lt_or_ge i cs.length with h1 | h1
                       ·
                         rw [List.getElem?_append_left h1] at hz'
                         exact hxor i x' y' z' hz' hx' hy'
                       ·
                         rw [List.getElem?_append_right h1] at hz'
                         have h2 := (List.getElem?_eq_some_iff.1 hz').1
                         simp at h2
                         have h3 : i = cs.length := by omega
                         subst h3
                         rw [Nat.sub_self] at hz'
                         simp at hz'
                         rw [hx] at hx'
                         rw [hy] at hy'
                         injection hx' with hx'
                         injection hy' with hy'
                         rw [← hz', ← hx', ← hy']
                     ·
                       dsimp only
                       rw [List.length_append]
                       show ra.length - (cs.length + 1) < ra.length - cs.length
                       omega)
              ·
                refine WL.nil (WX.then_normal (WC.cond_false rfl (WC.exit (WX.then_exit (WX.then_exit (WX.block_here (WX.block_normal (?_))))))))
                refine WX.then_normal (WC.region (WL.move rfl rfl (WL.add64 rfl rfl (by first | omega | (constructor <;> omega)) rfl (WL.assign rfl rfl (WL.nil (?_))))))
                first
                  | (refine WX.loop_next (k + 1) ⟨rfl, rfl, rfl, rfl, rfl, trivial⟩ ⟨by omega, hp, hq, hr, hw⟩ (by show _ - _ < _ - _; omega))
                  | (refine WX.loop_next (i + 1) ⟨rfl, rfl, rfl, rfl, trivial⟩ ⟨by omega, hp, hq, hr, hw⟩ (by show _ - _ < _ - _; omega))
                  | (refine WX.loop_next (k + 1) ⟨rfl, rfl, rfl, rfl, rfl, rfl, rfl, rfl, trivial⟩ ⟨by omega, hg.own.lt _ rfl, hg, hC, ha, hb, hp, hq, hw⟩ (by show _ - _ < _ - _; omega))
                  | (refine WX.loop_next (cs ++ [⟨some ⟨gr, 0, none⟩, c_h1, xorL x.xs yxs⟩], ao2, c2, wz.heap.size) ⟨rfl, rfl, rfl, rfl, rfl, ?_, trivial⟩ ⟨?_, by dsimp only; omega, Nat.le_refl _, hCn, ?_, ha, hb, hp, hq, hw⟩ ?_
                     ·
                       dsimp only
                       rw [List.length_append]
                       rfl
                     ·
                       dsimp only
                       rw [List.length_append]
                       show cs.length + 1 ≤ ra.length
                       omega
                     ·
                       intro i x' y' z' hz' hx' hy'
                       dsimp only at hz'
                       rcases Nat.lt_or_ge i cs.length with h1 | h1
                       ·
                         rw [List.getElem?_append_left h1] at hz'
                         exact hxor i x' y' z' hz' hx' hy'
                       ·
                         rw [List.getElem?_append_right h1] at hz'
                         have h2 := (List.getElem?_eq_some_iff.1 hz').1
                         simp at h2
                         have h3 : i = cs.length := by omega
                         subst h3
                         rw [Nat.sub_self] at hz'
                         simp at hz'
                         rw [hx] at hx'
                         rw [hy] at hy'
                         injection hx' with hx'
                         injection hy' with hy'
                         rw [← hz', ← hx', ← hy']
                     ·
                       dsimp only
                       rw [List.length_append]
                       show ra.length - (cs.length + 1) < ra.length - cs.length
                       omega)
            ·
              refine WL.nil (WX.then_normal (WC.cond_false rfl (WC.exit (WX.then_exit (WX.then_exit (WX.block_here (WX.then_normal (?_))))))))
              refine WC.seq (WC.region (WL.assign rfl rfl (WL.nil (WX.then_normal (WC.ret (?_))))))
              refine WX.ret1 (.inl rfl) Try.results3 rfl ?_
              exact ⟨_, rfl, rfl, hw⟩
theorem paritySums_calls {w : World} {aa ab : Option Addr} {ca cb : Nat} {ra rb : List Rw} (ha : RS (· < w.heap.size) w aa ca ra) (hb : RS (· < w.heap.size) w ab cb rb) (la : bounded ra) (lb : bounded rb) :
    Calls Try.prog 3 [.slice aa ra.length ca, .slice ab rb.length cb].toArray w (Ret fun v w' => v = .bool true ∧ Chg Nob w w') := by
  by_cases h1 : okM ra
  · obtain ⟨na, hna, _⟩ := lenC_some h1.2
    by_cases h2 : okM rb
    · obtain ⟨nb, hnb, _⟩ := lenC_some h2.2
      exact paritySums_good ha hb la lb na nb h1.1 hna h2.1 hnb
    · exact paritySums_bad2 ha hb la lb na h1.1 hna h2
  · exact paritySums_bad1 ha hb la lb h1
end Go.Proofs.Ytbbpgbdiifmkhaa
