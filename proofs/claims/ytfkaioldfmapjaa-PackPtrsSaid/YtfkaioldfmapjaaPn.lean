import Derived.Test.YtfkaioldfmapjaaHj
import Derived.Test.YtfkaioldfmapjaaPm
namespace Go.Proofs.Ytfkaioldfmapjaa
open Go.RowKit Go.HL

theorem check_good {l : List Item} (hl : l.length ≤ 2000) (hg : ∀ i ∈ l, Good i) : checkE l = 0 := by
  unfold checkE
  have h1 : ¬ (2000 < l.length ∨ l.any longI = true) := by
    rintro (h | h)
    · omega
    · obtain ⟨i, hi, h2⟩ := List.any_eq_true.1 h
      rw [(hg i hi).1] at h2
      cases h2
  rw [if_neg h1, if_pos (List.all_eq_true.2 fun i hi => (hg i hi).2.1)]
theorem good_check {l : List Item} (h : checkE l = 0) (hwf : ∀ i ∈ l, RIt i) : ∀ i ∈ l, Good i := fun i hi => ⟨((checkE_ok h).2 i hi).1, ((checkE_ok h).2 i hi).2, hwf i hi⟩
theorem dec_encAll {l : List Item} (h : checkE l = 0) (hwf : ∀ i ∈ l, RIt i) : dec 0 (encAll l) = some l := enc_dec l 0 (by have := (checkE_ok h).1; omega) (good_check h hwf)
theorem decL_enc {l : List Item} (h : checkE l = 0) (hwf : ∀ i ∈ l, RIt i) : decL (encAll l) = l := by simp [decL, dec_encAll h hwf]
theorem decE_enc {l : List Item} (h : checkE l = 0) (hwf : ∀ i ∈ l, RIt i) : decE (encAll l) = 0 := by simp [decE, dec_encAll h hwf]
theorem encAll_inj {l m : List Item} (hl : checkE l = 0) (hm : checkE m = 0) (wl : ∀ i ∈ l, RIt i) (wm : ∀ i ∈ m, RIt i) (h : encAll l = encAll m) : l = m := by
  have h1 := dec_encAll hl wl
  rw [h, dec_encAll hm wm] at h1
  injection h1 with h1
  exact h1.symm
theorem decE_zero {b : List UInt8} (h : decE b = 0) : dec 0 b = some (decL b) := by
  unfold decE at h
  unfold decL
  cases hd : dec 0 b with
  | none => rw [hd] at h; cases h
  | some l => rfl
theorem decE_bad {b : List UInt8} (h : decE b ≠ 0) : decE b = 2 ∧ decL b = [] := by
  unfold decE at *
  unfold decL
  cases hd : dec 0 b with
  | none => exact ⟨rfl, rfl⟩
  | some l => rw [hd] at h; exact absurd rfl h
theorem decE_good {b : List UInt8} (h : decE b = 0) : checkE (decL b) = 0 ∧ encAll (decL b) = b := by
  obtain ⟨h1, h2, h3⟩ := dec_spec b.length b (Nat.le_refl _) 0 (decL b) (by omega) (decE_zero h)
  exact ⟨check_good (by omega) h2, h3⟩

theorem packInverse_calls {w : World} {al am ab : Option Addr} {cl cm cb : Nat} {l m : List Item} {b : List UInt8} (hl : RSl (· < w.heap.size) w eit al cl l) (hm : RSl (· < w.heap.size) w eit am cm m) (hb : RSl (· < w.heap.size) w eb ab cb b)
    (bl : l.length ≤ 4398046511104) (bm : m.length ≤ 4398046511104) (bb : b.length ≤ 140737488351232) (wl : ∀ i ∈ l, RIt i) (wm : ∀ i ∈ m, RIt i) :
    Calls Try.prog 5 [.slice al l.length cl, .slice am m.length cm, .slice ab b.length cb].toArray w (Ret fun v w' => v = .bool true ∧ Chg Nob w w') := by
  have hw := Chg.refl Nob w
  refine Calls.of_WC Try.func5 rfl Try.ntmps5 (by simp) ?_
  refine WC.seq (WC.region (WL.assign rfl rfl (WL.nil (WX.then_normal (WC.seq (WC.seq (WC.region (?_))))))))
  refine WL.call eg_13 rfl rfl (known5_calls _) ?_
  rintro v w0 ⟨rfl, k0⟩
  have zs_k0 := k0.size
  replace hl := hl.pure k0
  replace hm := hm.pure k0
  replace hb := hb.pure k0
  replace hw := hw.pure k0
  refine WL.not rfl rfl (WL.nil (WX.then_normal (WC.cond_false rfl (WC.skip (WX.then_normal (WC.seq (WC.region (?_))))))))
  refine WL.move rfl rfl (?_)
  refine WL.call eg_14 rfl rfl (encode_calls hl (by omega)) ?_
  rintro v w2 ⟨ax, cx, rfl, hx, k2⟩
  have zs_k2 := k2.size
  replace hl := hl.pure k2
  replace hm := hm.pure k2
  replace hb := hb.pure k2
  replace hw := hw.pure k2
  replace hx := hx.lt
  refine WL.move rfl rfl (WL.extract rfl rfl rfl (WL.extract rfl rfl rfl (WL.assign rfl rfl (WL.assign rfl rfl (WL.nil (WX.then_normal (WC.seq (?_))))))))
  refine WC.seq (WC.region (WL.move rfl rfl (?_)))
  refine WL.eql? rfl rfl rfl (fun h25 => ?_) (fun h25 => ?_)
  ·
    refine WL.nil (WX.then_normal (WC.cond_true rfl (WC.seq (WC.region (WL.move rfl rfl (?_))))))
    rw [if_pos h25] at hx ⊢
    have hel := encAll_len (checkE_ok h25).2
    have hll := (checkE_ok h25).1
    have hx2 := hx.rsl.old
    refine WL.call eg_17 rfl rfl (decode_calls' hx2 (by omega)) ?_
    rintro v w4 ⟨⟨ak, ck, rfl, hk⟩, k4⟩
    rw [decL_enc h25 wl] at hk ⊢
    rw [decE_enc h25 wl]
    have zs_k4 := k4.size
    replace hl := hl.pure k4
    replace hm := hm.pure k4
    replace hb := hb.pure k4
    replace hw := hw.pure k4
    replace hx := hx.pure k4
    replace hk := hk.lt
    refine WL.move rfl rfl (WL.extract rfl rfl rfl (WL.extract rfl rfl rfl (WL.assign rfl rfl (WL.assign rfl rfl (WL.nil (WX.then_normal (WC.seq (?_))))))))
    refine WC.seq (WC.region (WL.move rfl rfl (?_)))
    refine WL.neq? rfl rfl rfl (fun h32 => ?_) (fun h32 => ?_)
    ·
      refine WL.move rfl rfl (WL.pass rfl rfl rfl rfl (WL.pass rfl rfl rfl rfl (WL.pass rfl rfl rfl rfl (WL.pass rfl rfl rfl rfl (WL.pickT rfl rfl rfl (WL.nil (WX.then_normal (?_))))))))
      refine WC.cond_true rfl (WC.seq (WC.region (WL.assign rfl rfl (WL.nil (WX.then_normal (WC.ret (WX.then_ret (?_))))))))
      refine WX.then_ret (?_)
      refine WX.ret1 (.inl rfl) Try.results5 rfl ?_
      first
        | (refine ⟨_, rfl, ?_, hw⟩
           rw [(decE_bad h63).2]
           exact congrArg Value.bool (decide_eq_true rfl))
        | (exfalso; exact h65 (decE_bad h63).1)
        | (refine ⟨_, rfl, ?_, hw⟩
           have h63' := decE_good (b := b) (Classical.not_not.1 h63)
           rw [if_pos h77, h63'.2]
           exact congrArg Value.bool (decide_eq_true rfl))
        | (refine ⟨_, rfl, ?_, hw⟩
           have h63' := decE_good (b := b) h63
           rw [if_pos h77, h63'.2]
           exact congrArg Value.bool (decide_eq_true rfl))
        | (exfalso; exact h77 (decE_good (b := b) h63).1)
        | (exfalso; exact h32 rfl)
    ·
      refine WL.move rfl rfl (WL.want rfl rfl rfl (WL.move rfl rfl (WL.want rfl rfl rfl (WL.move rfl rfl (WL.want rfl rfl rfl (?_))))))
      refine WL.call eg_18 rfl rfl (same_calls (S := fun _ => True) (hk.rsl.mono fun _ _ => trivial) (hl.mono fun _ _ => trivial) (by omega)) ?_
      rintro v w5 ⟨rfl, k5⟩
      rw [show decide (l = l) = true from decide_eq_true rfl]
      have zs_k5 := k5.size
      replace hl := hl.pure k5
      replace hm := hm.pure k5
      replace hb := hb.pure k5
      replace hw := hw.pure k5
      replace hx := hx.pure k5
      replace hk := hk.pure k5
      refine WL.want rfl rfl rfl (WL.not rfl rfl (WL.pickF rfl rfl rfl (WL.nil (WX.then_normal (WC.cond_false rfl (WC.skip (WX.then_normal (?_))))))))
      refine WC.seq (WC.region (WL.move rfl rfl (?_)))
      refine WL.call eg_14 rfl rfl (encode_calls hm (by omega)) ?_
      rintro v w2 ⟨ay, cy, rfl, hy, k2⟩
      have zs_k2 := k2.size
      replace hl := hl.pure k2
      replace hm := hm.pure k2
      replace hb := hb.pure k2
      replace hw := hw.pure k2
      replace hx := hx.pure k2
      replace hk := hk.pure k2
      replace hy := hy.lt
      refine WL.move rfl rfl (WL.extract rfl rfl rfl (WL.extract rfl rfl rfl (WL.assign rfl rfl (WL.assign rfl rfl (WL.nil (WX.then_normal (WC.seq (?_))))))))
      refine WC.draw (Nob) [0, 1, 2, 3, 4, 5, 6, 7, 8, 9, 10, 11, 12] [] mixed rfl rfl (fun wd_1 kd_1 zd_1 => ?_)
      have zs_kd_1 := kd_1.size
      replace hl := hl.pure kd_1
      replace hm := hm.pure kd_1
      replace hb := hb.pure kd_1
      replace hw := hw.pure kd_1
      replace hx := hx.pure kd_1
      replace hk := hk.pure kd_1
      replace hy := hy.pure kd_1
      apply DQ.step (E' := [(12, _)])
      case ho => rfl
      case hs => exact ⟨rfl, trivial⟩
      case hk => rfl
      case h1 =>
        intro wq_2 kq_2
        refine WL.move rfl rfl (?_)
        refine WL.nil ?_
        exact WX.one ⟨rfl, by first | exact Chg.refl _ _ | assumption⟩
      apply DQ.split (E' := [(44, _)])
      case ho => rfl
      case hs => exact ⟨rfl, trivial⟩
      case hk => rfl
      case h1 =>
        intro wq_3 kq_3
        refine WL.eql rfl rfl rfl ?_
        refine WL.nil ?_
        exact WX.one ⟨rfl, by first | exact Chg.refl _ _ | assumption⟩
      case ht =>
        intro h45
        replace h45 := of_decide_eq_true h45
        apply DQ.step (E' := [(45, _)])
        case ho => rfl
        case hs => exact ⟨rfl, trivial⟩
        case hk => rfl
        case h1 =>
          intro wq_4 kq_4
          refine WL.move rfl rfl (?_)
          refine WL.nil ?_
          exact WX.one ⟨rfl, by first | exact Chg.refl _ _ | assumption⟩
        apply DQ.step (E' := [(7, _), (46, _)])
        case ho => rfl
        case hs => exact ⟨rfl, rfl, trivial⟩
        case hk => rfl
        case h1 =>
          intro wq_5 kq_5
          refine WL.want rfl rfl rfl (WL.move rfl rfl (?_))
          refine WL.nil ?_
          exact WX.one ⟨rfl, by first | exact Chg.refl _ _ | assumption⟩
        apply DQ.step (E' := [(47, _), (46, _)])
        case ho => rfl
        case hs => exact ⟨rfl, rfl, trivial⟩
        case hk => rfl
        case h1 =>
          intro wq_6 kq_6
          have zs_kq_6 := kq_6.size
          replace hl := hl.pure kq_6
          replace hm := hm.pure kq_6
          replace hb := hb.pure kq_6
          replace hw := hw.pure kq_6
          replace hx := hx.pure kq_6
          replace hk := hk.pure kq_6
          replace hy := hy.pure kq_6
          refine WL.want rfl rfl rfl (WL.toStr Try.underlying24 Try.underlying5 Try.underlying9 hx.rsl rfl rfl (?_))
          refine WL.nil ?_
          exact WX.one ⟨rfl, by first | exact Chg.refl _ _ | assumption⟩
        apply DQ.step (E' := [(11, _), (46, _)])
        case ho => rfl
        case hs => exact ⟨rfl, rfl, trivial⟩
        case hk => rfl
        case h1 =>
          intro wq_7 kq_7
          refine WL.want rfl rfl rfl (WL.move rfl rfl (?_))
          refine WL.nil ?_
          exact WX.one ⟨rfl, by first | exact Chg.refl _ _ | assumption⟩
        apply DQ.step (E' := [(49, _), (46, _)])
        case ho => rfl
        case hs => exact ⟨rfl, rfl, trivial⟩
        case hk => rfl
        case h1 =>
          intro wq_8 kq_8
          have zs_kq_8 := kq_8.size
          replace hl := hl.pure kq_8
          replace hm := hm.pure kq_8
          replace hb := hb.pure kq_8
          replace hw := hw.pure kq_8
          replace hx := hx.pure kq_8
          replace hk := hk.pure kq_8
          replace hy := hy.pure kq_8
          refine WL.want rfl rfl rfl (WL.toStr Try.underlying24 Try.underlying5 Try.underlying9 hy.rsl rfl rfl (?_))
          refine WL.nil ?_
          exact WX.one ⟨rfl, by first | exact Chg.refl _ _ | assumption⟩
        apply DQ.step (E' := [(48, _), (50, _), (46, _)])
        case ho => rfl
        case hs => exact ⟨rfl, rfl, rfl, trivial⟩
        case hk => rfl
        case h1 =>
          intro wq_9 kq_9
          refine WL.want rfl rfl rfl (WL.seql rfl rfl rfl (?_))
          refine WL.nil ?_
          exact WX.one ⟨rfl, by first | exact Chg.refl _ _ | assumption⟩
        apply DQ.step (E' := [(0, _), (46, _)])
        case ho => rfl
        case hs => exact ⟨rfl, rfl, trivial⟩
        case hk => rfl
        case h1 =>
          intro wq_10 kq_10
          refine WL.want rfl rfl rfl (WL.move rfl rfl (?_))
          refine WL.nil ?_
          exact WX.one ⟨rfl, by first | exact Chg.refl _ _ | assumption⟩
        apply DQ.step (E' := [(1, _), (46, _)])
        case ho => rfl
        case hs => exact ⟨rfl, rfl, trivial⟩
        case hk => rfl
        case h1 =>
          intro wq_11 kq_11
          refine WL.want rfl rfl rfl (WL.move rfl rfl (?_))
          refine WL.nil ?_
          exact WX.one ⟨rfl, by first | exact Chg.refl _ _ | assumption⟩
        apply DQ.step (E' := [(52, _), (53, _), (46, _)])
        case ho => rfl
        case hs => exact ⟨rfl, rfl, rfl, trivial⟩
        case hk => rfl
        case h1 =>
          intro wq_12 kq_12
          have zs_kq_12 := kq_12.size
          replace hl := hl.pure kq_12
          replace hm := hm.pure kq_12
          replace hb := hb.pure kq_12
          replace hw := hw.pure kq_12
          replace hx := hx.pure kq_12
          replace hk := hk.pure kq_12
          replace hy := hy.pure kq_12
          refine WL.want rfl rfl rfl (?_)
          refine WL.call eg_18 rfl rfl (same_calls (S := fun _ => True) (hl.mono fun _ _ => trivial) (hm.mono fun _ _ => trivial) (by omega)) ?_
          rintro v w5 ⟨rfl, k5⟩
          have zs_k5 := k5.size
          replace hl := hl.pure k5
          replace hm := hm.pure k5
          replace hb := hb.pure k5
          replace hw := hw.pure k5
          replace hx := hx.pure k5
          replace hk := hk.pure k5
          replace hy := hy.pure k5
          refine WL.nil ?_
          exact WX.one ⟨rfl, by first | exact Chg.refl _ _ | assumption⟩
        apply DQ.step (E' := [(51, _), (54, _), (46, _)])
        case ho => rfl
        case hs => exact ⟨rfl, rfl, rfl, trivial⟩
        case hk => rfl
        case h1 =>
          intro wq_13 kq_13
          refine WL.want rfl rfl rfl (?_)
          refine WL.bneqF Try.underlying4 rfl rfl (decide_eq_decide.2 ⟨fun h => encAll_inj h25 h45 wl wm (by rw [if_pos h45] at h; injection h with h; simpa using h), fun h => by rw [if_pos h45, h]⟩) rfl ?_
          refine WL.nil ?_
          exact WX.one ⟨rfl, by first | exact Chg.refl _ _ | assumption⟩
        apply DQ.step (E' := [(46, _), (55, _)])
        case ho => rfl
        case hs => exact ⟨rfl, rfl, trivial⟩
        case hk => rfl
        case h1 =>
          intro wq_14 kq_14
          refine WL.pickT rfl rfl rfl (?_)
          refine WL.nil ?_
          exact WX.one ⟨rfl, by first | exact Chg.refl _ _ | assumption⟩
        refine DQ.done (fun _ => ?_)
        refine DL.done (fun we_15 ke_15 => ?_)
        have zs_ke_15 := ke_15.size
        replace hl := hl.pure ke_15
        replace hm := hm.pure ke_15
        replace hb := hb.pure ke_15
        replace hw := hw.pure ke_15
        replace hx := hx.pure ke_15
        replace hk := hk.pure ke_15
        replace hy := hy.pure ke_15
        refine WX.then_normal (WC.cond_false rfl (WC.skip (WX.then_normal (WC.seq (WC.region (WL.move rfl rfl (?_)))))))
        have hb2 := hb.old
        refine WL.call eg_17 rfl rfl (decode_calls' hb2 bb) ?_
        rintro v w4 ⟨⟨ai, ci, rfl, hi⟩, k4⟩
        have zs_k4 := k4.size
        replace hl := hl.pure k4
        replace hm := hm.pure k4
        replace hb := hb.pure k4
        replace hw := hw.pure k4
        replace hx := hx.pure k4
        replace hk := hk.pure k4
        replace hy := hy.pure k4
        replace hi := hi.lt
        refine WL.move rfl rfl (WL.extract rfl rfl rfl (WL.extract rfl rfl rfl (WL.assign rfl rfl (WL.assign rfl rfl (WL.nil (WX.then_normal (WC.seq (?_))))))))
        refine WC.seq (WC.region (WL.move rfl rfl (?_)))
        refine WL.neq? rfl rfl rfl (fun h63 => ?_) (fun h63 => ?_)
        ·
          refine WL.nil (WX.then_normal (WC.cond_true rfl (WC.seq (WC.region (WL.move rfl rfl (?_))))))
          refine WL.eql? rfl rfl rfl (fun h65 => ?_) (fun h65 => ?_)
          ·
            refine WL.move rfl rfl (WL.want rfl rfl rfl (WL.move rfl rfl (WL.want rfl rfl rfl (WL.len Try.underlying22 rfl rfl (WL.want rfl rfl rfl (WL.eql rfl rfl rfl (WL.pickT rfl rfl rfl (?_))))))))
            refine WL.assign rfl rfl (WL.nil (WX.then_normal (WC.ret (WX.then_ret (?_)))))
            refine WX.ret1 (.inl rfl) Try.results5 rfl ?_
            first
              | (refine ⟨_, rfl, ?_, hw⟩
                 rw [(decE_bad h63).2]
                 exact congrArg Value.bool (decide_eq_true rfl))
              | (exfalso; exact h65 (decE_bad h63).1)
              | (refine ⟨_, rfl, ?_, hw⟩
                 have h63' := decE_good (b := b) (Classical.not_not.1 h63)
                 rw [if_pos h77, h63'.2]
                 exact congrArg Value.bool (decide_eq_true rfl))
              | (refine ⟨_, rfl, ?_, hw⟩
                 have h63' := decE_good (b := b) h63
                 rw [if_pos h77, h63'.2]
                 exact congrArg Value.bool (decide_eq_true rfl))
              | (exfalso; exact h77 (decE_good (b := b) h63).1)
              | (exfalso; exact h32 rfl)
          ·
            refine WL.move rfl rfl (WL.pass rfl rfl rfl rfl (WL.pass rfl rfl rfl rfl (WL.pass rfl rfl rfl rfl (WL.pickF rfl rfl rfl (WL.assign rfl rfl (WL.nil (WX.then_normal (?_))))))))
            refine WC.ret (WX.then_ret (?_))
            refine WX.ret1 (.inl rfl) Try.results5 rfl ?_
            first
              | (refine ⟨_, rfl, ?_, hw⟩
                 rw [(decE_bad h63).2]
                 exact congrArg Value.bool (decide_eq_true rfl))
              | (exfalso; exact h65 (decE_bad h63).1)
              | (refine ⟨_, rfl, ?_, hw⟩
                 have h63' := decE_good (b := b) (Classical.not_not.1 h63)
                 rw [if_pos h77, h63'.2]
                 exact congrArg Value.bool (decide_eq_true rfl))
              | (refine ⟨_, rfl, ?_, hw⟩
                 have h63' := decE_good (b := b) h63
                 rw [if_pos h77, h63'.2]
                 exact congrArg Value.bool (decide_eq_true rfl))
              | (exfalso; exact h77 (decE_good (b := b) h63).1)
              | (exfalso; exact h32 rfl)
        ·
          refine WL.nil (WX.then_normal (WC.cond_false rfl (WC.skip (WX.then_normal (WC.seq (WC.region (WL.move rfl rfl (?_))))))))
          have hd2 := decL_len b
          refine WL.call eg_14 rfl rfl (encode_calls hi.rsl (by omega)) ?_
          rintro v w2 ⟨az, cz, rfl, hz, k2⟩
          have zs_k2 := k2.size
          replace hl := hl.pure k2
          replace hm := hm.pure k2
          replace hb := hb.pure k2
          replace hw := hw.pure k2
          replace hx := hx.pure k2
          replace hk := hk.pure k2
          replace hy := hy.pure k2
          replace hi := hi.pure k2
          replace hz := hz.lt
          refine WL.move rfl rfl (WL.extract rfl rfl rfl (WL.extract rfl rfl rfl (WL.assign rfl rfl (WL.assign rfl rfl (WL.nil (WX.then_normal (WC.seq (?_))))))))
          refine WC.region (WL.move rfl rfl (?_))
          refine WL.eql? rfl rfl rfl (fun h77 => ?_) (fun h77 => ?_)
          ·
            refine WL.move rfl rfl (WL.want rfl rfl rfl (WL.move rfl rfl (WL.want rfl rfl rfl (WL.toStr Try.underlying24 Try.underlying5 Try.underlying9 hz.rsl rfl rfl (WL.want rfl rfl rfl (WL.move rfl rfl (WL.want rfl rfl rfl (?_))))))))
            refine WL.toStr Try.underlying24 Try.underlying5 Try.underlying9 hb rfl rfl (WL.want rfl rfl rfl (WL.seql rfl rfl rfl (WL.pickT rfl rfl rfl (WL.assign rfl rfl (WL.nil (WX.then_normal (WC.ret (?_))))))))
            refine WX.ret1 (.inl rfl) Try.results5 rfl ?_
            first
              | (refine ⟨_, rfl, ?_, hw⟩
                 rw [(decE_bad h63).2]
                 exact congrArg Value.bool (decide_eq_true rfl))
              | (exfalso; exact h65 (decE_bad h63).1)
              | (refine ⟨_, rfl, ?_, hw⟩
                 have h63' := decE_good (b := b) (Classical.not_not.1 h63)
                 rw [if_pos h77, h63'.2]
                 exact congrArg Value.bool (decide_eq_true rfl))
              | (refine ⟨_, rfl, ?_, hw⟩
                 have h63' := decE_good (b := b) h63
                 rw [if_pos h77, h63'.2]
                 exact congrArg Value.bool (decide_eq_true rfl))
              | (exfalso; exact h77 (decE_good (b := b) h63).1)
              | (exfalso; exact h32 rfl)
          ·
            refine WL.move rfl rfl (WL.pass rfl rfl rfl rfl (WL.pass rfl rfl rfl rfl (WL.pass rfl rfl rfl rfl (WL.pass rfl rfl rfl rfl (WL.pass rfl rfl rfl rfl (WL.pickF rfl rfl rfl (WL.assign rfl rfl (?_))))))))
            refine WL.nil (WX.then_normal (WC.ret (?_)))
            refine WX.ret1 (.inl rfl) Try.results5 rfl ?_
            first
              | (refine ⟨_, rfl, ?_, hw⟩
                 rw [(decE_bad h63).2]
                 exact congrArg Value.bool (decide_eq_true rfl))
              | (exfalso; exact h65 (decE_bad h63).1)
              | (refine ⟨_, rfl, ?_, hw⟩
                 have h63' := decE_good (b := b) (Classical.not_not.1 h63)
                 rw [if_pos h77, h63'.2]
                 exact congrArg Value.bool (decide_eq_true rfl))
              | (refine ⟨_, rfl, ?_, hw⟩
                 have h63' := decE_good (b := b) h63
                 rw [if_pos h77, h63'.2]
                 exact congrArg Value.bool (decide_eq_true rfl))
              | (exfalso; exact h77 (decE_good (b := b) h63).1)
              | (exfalso; exact h32 rfl)
      case hf =>
        intro h45
        replace h45 := of_decide_eq_false h45
        apply DQ.step (E' := [(45, _)])
        case ho => rfl
        case hs => exact ⟨rfl, trivial⟩
        case hk => rfl
        case h1 =>
          intro wq_4 kq_4
          refine WL.move rfl rfl (?_)
          refine WL.nil ?_
          exact WX.one ⟨rfl, by first | exact Chg.refl _ _ | assumption⟩
        apply DQ.step (E' := [(7, _), (46, _)])
        case ho => rfl
        case hs => exact ⟨rfl, rfl, trivial⟩
        case hk => rfl
        case h1 =>
          intro wq_5 kq_5
          refine WL.pass rfl rfl rfl rfl (WL.nil (?_))
          exact WX.one ⟨rfl, by first | exact Chg.refl _ _ | assumption⟩
        apply DQ.step (E' := [(47, _), (46, _)])
        case ho => rfl
        case hs => exact ⟨rfl, rfl, trivial⟩
        case hk => rfl
        case h1 =>
          intro wq_6 kq_6
          have zs_kq_6 := kq_6.size
          replace hl := hl.pure kq_6
          replace hm := hm.pure kq_6
          replace hb := hb.pure kq_6
          replace hw := hw.pure kq_6
          replace hx := hx.pure kq_6
          replace hk := hk.pure kq_6
          replace hy := hy.pure kq_6
          refine WL.pass rfl rfl rfl rfl (WL.nil (?_))
          exact WX.one ⟨rfl, by first | exact Chg.refl _ _ | assumption⟩
        apply DQ.step (E' := [(11, _), (46, _)])
        case ho => rfl
        case hs => exact ⟨rfl, rfl, trivial⟩
        case hk => rfl
        case h1 =>
          intro wq_7 kq_7
          refine WL.pass rfl rfl rfl rfl (WL.nil (?_))
          exact WX.one ⟨rfl, by first | exact Chg.refl _ _ | assumption⟩
        apply DQ.step (E' := [(49, _), (46, _)])
        case ho => rfl
        case hs => exact ⟨rfl, rfl, trivial⟩
        case hk => rfl
        case h1 =>
          intro wq_8 kq_8
          have zs_kq_8 := kq_8.size
          replace hl := hl.pure kq_8
          replace hm := hm.pure kq_8
          replace hb := hb.pure kq_8
          replace hw := hw.pure kq_8
          replace hx := hx.pure kq_8
          replace hk := hk.pure kq_8
          replace hy := hy.pure kq_8
          refine WL.pass rfl rfl rfl rfl (WL.nil (?_))
          exact WX.one ⟨rfl, by first | exact Chg.refl _ _ | assumption⟩
        apply DQ.step (E' := [(48, _), (50, _), (46, _)])
        case ho => rfl
        case hs => exact ⟨rfl, rfl, rfl, trivial⟩
        case hk => rfl
        case h1 =>
          intro wq_9 kq_9
          refine WL.pass rfl rfl rfl rfl (WL.nil (?_))
          exact WX.one ⟨rfl, by first | exact Chg.refl _ _ | assumption⟩
        apply DQ.step (E' := [(0, _), (46, _)])
        case ho => rfl
        case hs => exact ⟨rfl, rfl, trivial⟩
        case hk => rfl
        case h1 =>
          intro wq_10 kq_10
          refine WL.pass rfl rfl rfl rfl (WL.nil (?_))
          exact WX.one ⟨rfl, by first | exact Chg.refl _ _ | assumption⟩
        apply DQ.step (E' := [(1, _), (46, _)])
        case ho => rfl
        case hs => exact ⟨rfl, rfl, trivial⟩
        case hk => rfl
        case h1 =>
          intro wq_11 kq_11
          refine WL.pass rfl rfl rfl rfl (WL.nil (?_))
          exact WX.one ⟨rfl, by first | exact Chg.refl _ _ | assumption⟩
        apply DQ.step (E' := [(52, _), (53, _), (46, _)])
        case ho => rfl
        case hs => exact ⟨rfl, rfl, rfl, trivial⟩
        case hk => rfl
        case h1 =>
          intro wq_12 kq_12
          have zs_kq_12 := kq_12.size
          replace hl := hl.pure kq_12
          replace hm := hm.pure kq_12
          replace hb := hb.pure kq_12
          replace hw := hw.pure kq_12
          replace hx := hx.pure kq_12
          replace hk := hk.pure kq_12
          replace hy := hy.pure kq_12
          refine WL.pass rfl rfl rfl rfl (WL.nil (?_))
          exact WX.one ⟨rfl, by first | exact Chg.refl _ _ | assumption⟩
        apply DQ.step (E' := [(51, _), (54, _), (46, _)])
        case ho => rfl
        case hs => exact ⟨rfl, rfl, rfl, trivial⟩
        case hk => rfl
        case h1 =>
          intro wq_13 kq_13
          refine WL.pass rfl rfl rfl rfl (WL.nil (?_))
          exact WX.one ⟨rfl, by first | exact Chg.refl _ _ | assumption⟩
        apply DQ.step (E' := [(46, _), (55, _)])
        case ho => rfl
        case hs => exact ⟨rfl, rfl, trivial⟩
        case hk => rfl
        case h1 =>
          intro wq_14 kq_14
          refine WL.pickF rfl rfl rfl (?_)
          refine WL.nil ?_
          exact WX.one ⟨rfl, by first | exact Chg.refl _ _ | assumption⟩
        refine DQ.done (fun _ => ?_)
        refine DL.done (fun we_15 ke_15 => ?_)
        have zs_ke_15 := ke_15.size
        replace hl := hl.pure ke_15
        replace hm := hm.pure ke_15
        replace hb := hb.pure ke_15
        replace hw := hw.pure ke_15
        replace hx := hx.pure ke_15
        replace hk := hk.pure ke_15
        replace hy := hy.pure ke_15
        refine WX.then_normal (WC.cond_false rfl (WC.skip (WX.then_normal (WC.seq (WC.region (WL.move rfl rfl (?_)))))))
        have hb2 := hb.old
        refine WL.call eg_17 rfl rfl (decode_calls' hb2 bb) ?_
        rintro v w4 ⟨⟨ai, ci, rfl, hi⟩, k4⟩
        have zs_k4 := k4.size
        replace hl := hl.pure k4
        replace hm := hm.pure k4
        replace hb := hb.pure k4
        replace hw := hw.pure k4
        replace hx := hx.pure k4
        replace hk := hk.pure k4
        replace hy := hy.pure k4
        replace hi := hi.lt
        refine WL.move rfl rfl (WL.extract rfl rfl rfl (WL.extract rfl rfl rfl (WL.assign rfl rfl (WL.assign rfl rfl (WL.nil (WX.then_normal (WC.seq (?_))))))))
        refine WC.seq (WC.region (WL.move rfl rfl (?_)))
        refine WL.neq? rfl rfl rfl (fun h63 => ?_) (fun h63 => ?_)
        ·
          refine WL.nil (WX.then_normal (WC.cond_true rfl (WC.seq (WC.region (WL.move rfl rfl (?_))))))
          refine WL.eql? rfl rfl rfl (fun h65 => ?_) (fun h65 => ?_)
          ·
            refine WL.move rfl rfl (WL.want rfl rfl rfl (WL.move rfl rfl (WL.want rfl rfl rfl (WL.len Try.underlying22 rfl rfl (WL.want rfl rfl rfl (WL.eql rfl rfl rfl (WL.pickT rfl rfl rfl (?_))))))))
            refine WL.assign rfl rfl (WL.nil (WX.then_normal (WC.ret (WX.then_ret (?_)))))
            refine WX.ret1 (.inl rfl) Try.results5 rfl ?_
            first
              | (refine ⟨_, rfl, ?_, hw⟩
                 rw [(decE_bad h63).2]
                 exact congrArg Value.bool (decide_eq_true rfl))
              | (exfalso; exact h65 (decE_bad h63).1)
              | (refine ⟨_, rfl, ?_, hw⟩
                 have h63' := decE_good (b := b) (Classical.not_not.1 h63)
                 rw [if_pos h77, h63'.2]
                 exact congrArg Value.bool (decide_eq_true rfl))
              | (refine ⟨_, rfl, ?_, hw⟩
                 have h63' := decE_good (b := b) h63
                 rw [if_pos h77, h63'.2]
                 exact congrArg Value.bool (decide_eq_true rfl))
              | (exfalso; exact h77 (decE_good (b := b) h63).1)
              | (exfalso; exact h32 rfl)
          ·
            refine WL.move rfl rfl (WL.pass rfl rfl rfl rfl (WL.pass rfl rfl rfl rfl (WL.pass rfl rfl rfl rfl (WL.pickF rfl rfl rfl (WL.assign rfl rfl (WL.nil (WX.then_normal (?_))))))))
            refine WC.ret (WX.then_ret (?_))
            refine WX.ret1 (.inl rfl) Try.results5 rfl ?_
            first
              | (refine ⟨_, rfl, ?_, hw⟩
                 rw [(decE_bad h63).2]
                 exact congrArg Value.bool (decide_eq_true rfl))
              | (exfalso; exact h65 (decE_bad h63).1)
              | (refine ⟨_, rfl, ?_, hw⟩
                 have h63' := decE_good (b := b) (Classical.not_not.1 h63)
                 rw [if_pos h77, h63'.2]
                 exact congrArg Value.bool (decide_eq_true rfl))
              | (refine ⟨_, rfl, ?_, hw⟩
                 have h63' := decE_good (b := b) h63
                 rw [if_pos h77, h63'.2]
                 exact congrArg Value.bool (decide_eq_true rfl))
              | (exfalso; exact h77 (decE_good (b := b) h63).1)
              | (exfalso; exact h32 rfl)
        ·
          refine WL.nil (WX.then_normal (WC.cond_false rfl (WC.skip (WX.then_normal (WC.seq (WC.region (WL.move rfl rfl (?_))))))))
          have hd2 := decL_len b
          refine WL.call eg_14 rfl rfl (encode_calls hi.rsl (by omega)) ?_
          rintro v w2 ⟨az, cz, rfl, hz, k2⟩
          have zs_k2 := k2.size
          replace hl := hl.pure k2
          replace hm := hm.pure k2
          replace hb := hb.pure k2
          replace hw := hw.pure k2
          replace hx := hx.pure k2
          replace hk := hk.pure k2
          replace hy := hy.pure k2
          replace hi := hi.pure k2
          replace hz := hz.lt
          refine WL.move rfl rfl (WL.extract rfl rfl rfl (WL.extract rfl rfl rfl (WL.assign rfl rfl (WL.assign rfl rfl (WL.nil (WX.then_normal (WC.seq (?_))))))))
          refine WC.region (WL.move rfl rfl (?_))
          refine WL.eql? rfl rfl rfl (fun h77 => ?_) (fun h77 => ?_)
          ·
            refine WL.move rfl rfl (WL.want rfl rfl rfl (WL.move rfl rfl (WL.want rfl rfl rfl (WL.toStr Try.underlying24 Try.underlying5 Try.underlying9 hz.rsl rfl rfl (WL.want rfl rfl rfl (WL.move rfl rfl (WL.want rfl rfl rfl (?_))))))))
            refine WL.toStr Try.underlying24 Try.underlying5 Try.underlying9 hb rfl rfl (WL.want rfl rfl rfl (WL.seql rfl rfl rfl (WL.pickT rfl rfl rfl (WL.assign rfl rfl (WL.nil (WX.then_normal (WC.ret (?_))))))))
            refine WX.ret1 (.inl rfl) Try.results5 rfl ?_
            first
              | (refine ⟨_, rfl, ?_, hw⟩
                 rw [(decE_bad h63).2]
                 exact congrArg Value.bool (decide_eq_true rfl))
              | (exfalso; exact h65 (decE_bad h63).1)
              | (refine ⟨_, rfl, ?_, hw⟩
                 have h63' := decE_good (b := b) (Classical.not_not.1 h63)
                 rw [if_pos h77, h63'.2]
                 exact congrArg Value.bool (decide_eq_true rfl))
              | (refine ⟨_, rfl, ?_, hw⟩
                 have h63' := decE_good (b := b) h63
                 rw [if_pos h77, h63'.2]
                 exact congrArg Value.bool (decide_eq_true rfl))
              | (exfalso; exact h77 (decE_good (b := b) h63).1)
              | (exfalso; exact h32 rfl)
          ·
            refine WL.move rfl rfl (WL.pass rfl rfl rfl rfl (WL.pass rfl rfl rfl rfl (WL.pass rfl rfl rfl rfl (WL.pass rfl rfl rfl rfl (WL.pass rfl rfl rfl rfl (WL.pickF rfl rfl rfl (WL.assign rfl rfl (?_))))))))
            refine WL.nil (WX.then_normal (WC.ret (?_)))
            refine WX.ret1 (.inl rfl) Try.results5 rfl ?_
            first
              | (refine ⟨_, rfl, ?_, hw⟩
                 rw [(decE_bad h63).2]
                 exact congrArg Value.bool (decide_eq_true rfl))
              | (exfalso; exact h65 (decE_bad h63).1)
              | (refine ⟨_, rfl, ?_, hw⟩
                 have h63' := decE_good (b := b) (Classical.not_not.1 h63)
                 rw [if_pos h77, h63'.2]
                 exact congrArg Value.bool (decide_eq_true rfl))
              | (refine ⟨_, rfl, ?_, hw⟩
                 have h63' := decE_good (b := b) h63
                 rw [if_pos h77, h63'.2]
                 exact congrArg Value.bool (decide_eq_true rfl))
              | (exfalso; exact h77 (decE_good (b := b) h63).1)
              | (exfalso; exact h32 rfl)
  ·
    refine WL.nil (WX.then_normal (WC.cond_false rfl (WC.skip (WX.then_normal (WC.seq (WC.region (WL.move rfl rfl (?_))))))))
    have hb2 := hb.old
    refine WL.call eg_17 rfl rfl (decode_calls' hb2 bb) ?_
    rintro v w4 ⟨⟨ai, ci, rfl, hi⟩, k4⟩
    have zs_k4 := k4.size
    replace hl := hl.pure k4
    replace hm := hm.pure k4
    replace hb := hb.pure k4
    replace hw := hw.pure k4
    replace hx := hx.pure k4
    replace hi := hi.lt
    refine WL.move rfl rfl (WL.extract rfl rfl rfl (WL.extract rfl rfl rfl (WL.assign rfl rfl (WL.assign rfl rfl (WL.nil (WX.then_normal (WC.seq (?_))))))))
    refine WC.seq (WC.region (WL.move rfl rfl (?_)))
    refine WL.neq? rfl rfl rfl (fun h63 => ?_) (fun h63 => ?_)
    ·
      refine WL.nil (WX.then_normal (WC.cond_true rfl (WC.seq (WC.region (WL.move rfl rfl (?_))))))
      refine WL.eql? rfl rfl rfl (fun h65 => ?_) (fun h65 => ?_)
      ·
        refine WL.move rfl rfl (WL.want rfl rfl rfl (WL.move rfl rfl (WL.want rfl rfl rfl (WL.len Try.underlying22 rfl rfl (WL.want rfl rfl rfl (WL.eql rfl rfl rfl (WL.pickT rfl rfl rfl (?_))))))))
        refine WL.assign rfl rfl (WL.nil (WX.then_normal (WC.ret (WX.then_ret (?_)))))
        refine WX.ret1 (.inl rfl) Try.results5 rfl ?_
        first
          | (refine ⟨_, rfl, ?_, hw⟩
             rw [(decE_bad h63).2]
             exact congrArg Value.bool (decide_eq_true rfl))
          | (exfalso; exact h65 (decE_bad h63).1)
          | (refine ⟨_, rfl, ?_, hw⟩
             have h63' := decE_good (b := b) (Classical.not_not.1 h63)
             rw [if_pos h77, h63'.2]
             exact congrArg Value.bool (decide_eq_true rfl))
          | (refine ⟨_, rfl, ?_, hw⟩
             have h63' := decE_good (b := b) h63
             rw [if_pos h77, h63'.2]
             exact congrArg Value.bool (decide_eq_true rfl))
          | (exfalso; exact h77 (decE_good (b := b) h63).1)
          | (exfalso; exact h32 rfl)
      ·
        refine WL.move rfl rfl (WL.pass rfl rfl rfl rfl (WL.pass rfl rfl rfl rfl (WL.pass rfl rfl rfl rfl (WL.pickF rfl rfl rfl (WL.assign rfl rfl (WL.nil (WX.then_normal (?_))))))))
        refine WC.ret (WX.then_ret (?_))
        refine WX.ret1 (.inl rfl) Try.results5 rfl ?_
        first
          | (refine ⟨_, rfl, ?_, hw⟩
             rw [(decE_bad h63).2]
             exact congrArg Value.bool (decide_eq_true rfl))
          | (exfalso; exact h65 (decE_bad h63).1)
          | (refine ⟨_, rfl, ?_, hw⟩
             have h63' := decE_good (b := b) (Classical.not_not.1 h63)
             rw [if_pos h77, h63'.2]
             exact congrArg Value.bool (decide_eq_true rfl))
          | (refine ⟨_, rfl, ?_, hw⟩
             have h63' := decE_good (b := b) h63
             rw [if_pos h77, h63'.2]
             exact congrArg Value.bool (decide_eq_true rfl))
          | (exfalso; exact h77 (decE_good (b := b) h63).1)
          | (exfalso; exact h32 rfl)
    ·
      refine WL.nil (WX.then_normal (WC.cond_false rfl (WC.skip (WX.then_normal (WC.seq (WC.region (WL.move rfl rfl (?_))))))))
      have hd2 := decL_len b
      refine WL.call eg_14 rfl rfl (encode_calls hi.rsl (by omega)) ?_
      rintro v w2 ⟨az, cz, rfl, hz, k2⟩
      have zs_k2 := k2.size
      replace hl := hl.pure k2
      replace hm := hm.pure k2
      replace hb := hb.pure k2
      replace hw := hw.pure k2
      replace hx := hx.pure k2
      replace hi := hi.pure k2
      replace hz := hz.lt
      refine WL.move rfl rfl (WL.extract rfl rfl rfl (WL.extract rfl rfl rfl (WL.assign rfl rfl (WL.assign rfl rfl (WL.nil (WX.then_normal (WC.seq (?_))))))))
      refine WC.region (WL.move rfl rfl (?_))
      refine WL.eql? rfl rfl rfl (fun h77 => ?_) (fun h77 => ?_)
      ·
        refine WL.move rfl rfl (WL.want rfl rfl rfl (WL.move rfl rfl (WL.want rfl rfl rfl (WL.toStr Try.underlying24 Try.underlying5 Try.underlying9 hz.rsl rfl rfl (WL.want rfl rfl rfl (WL.move rfl rfl (WL.want rfl rfl rfl (?_))))))))
        refine WL.toStr Try.underlying24 Try.underlying5 Try.underlying9 hb rfl rfl (WL.want rfl rfl rfl (WL.seql rfl rfl rfl (WL.pickT rfl rfl rfl (WL.assign rfl rfl (WL.nil (WX.then_normal (WC.ret (?_))))))))
        refine WX.ret1 (.inl rfl) Try.results5 rfl ?_
        first
          | (refine ⟨_, rfl, ?_, hw⟩
             rw [(decE_bad h63).2]
             exact congrArg Value.bool (decide_eq_true rfl))
          | (exfalso; exact h65 (decE_bad h63).1)
          | (refine ⟨_, rfl, ?_, hw⟩
             have h63' := decE_good (b := b) (Classical.not_not.1 h63)
             rw [if_pos h77, h63'.2]
             exact congrArg Value.bool (decide_eq_true rfl))
          | (refine ⟨_, rfl, ?_, hw⟩
             have h63' := decE_good (b := b) h63
             rw [if_pos h77, h63'.2]
             exact congrArg Value.bool (decide_eq_true rfl))
          | (exfalso; exact h77 (decE_good (b := b) h63).1)
          | (exfalso; exact h32 rfl)
      ·
        refine WL.move rfl rfl (WL.pass rfl rfl rfl rfl (WL.pass rfl rfl rfl rfl (WL.pass rfl rfl rfl rfl (WL.pass rfl rfl rfl rfl (WL.pass rfl rfl rfl rfl (WL.pickF rfl rfl rfl (WL.assign rfl rfl (?_))))))))
        refine WL.nil (WX.then_normal (WC.ret (?_)))
        refine WX.ret1 (.inl rfl) Try.results5 rfl ?_
        first
          | (refine ⟨_, rfl, ?_, hw⟩
             rw [(decE_bad h63).2]
             exact congrArg Value.bool (decide_eq_true rfl))
          | (exfalso; exact h65 (decE_bad h63).1)
          | (refine ⟨_, rfl, ?_, hw⟩
             have h63' := decE_good (b := b) (Classical.not_not.1 h63)
             rw [if_pos h77, h63'.2]
             exact congrArg Value.bool (decide_eq_true rfl))
          | (refine ⟨_, rfl, ?_, hw⟩
             have h63' := decE_good (b := b) h63
             rw [if_pos h77, h63'.2]
             exact congrArg Value.bool (decide_eq_true rfl))
          | (exfalso; exact h77 (decE_good (b := b) h63).1)
          | (exfalso; exact h32 rfl)
end Go.Proofs.Ytfkaioldfmapjaa
