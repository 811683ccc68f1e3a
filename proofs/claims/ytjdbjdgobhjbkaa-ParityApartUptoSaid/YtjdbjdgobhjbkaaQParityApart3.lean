import Derived.Test.YtjdbjdgobhjbkaaQParityApart2
namespace Go.Proofs.Ytjdbjdgobhjbkaa
open Go.RowKit Go.HL

/-! where the tables are there already -/
theorem doR_calls {w : World} {g : Nat} (hR : Blk w g 65 FR) (fv : Value) :
    Calls Try.prog 52 [.pointer (some ⟨g, 0, none⟩), fv].toArray w (Ret fun v w' => v = .tuple #[] ∧ Chg Nob w w') := by
  refine (do_done hR fv).mono ?_
  rintro e w' ⟨rfl, rfl⟩
  exact ⟨_, rfl, rfl, Chg.refl _ _⟩
theorem tablesR_calls {w : World} {g : Nat} (hR : Blk w g 65 FR) : Calls Try.prog 47 [.pointer (some ⟨g, 0, none⟩)].toArray w (Ret fun v w' => v = .tuple #[] ∧ Chg Nob w w') := by
  have hw := Chg.refl Nob w
  refine Calls.of_WC Try.func47 rfl Try.ntmps47 (by simp) ?_
  refine WC.seq (WC.region (?_))
  refine WL.box rfl rfl ?_
  intro g_1 w_1 hge_1 hlt_1 hb_1 k_1
  have zs_k_1 := k_1.size
  replace hR := hR.pure k_1
  replace hw := hw.pure k_1
  refine WL.nil (WX.then_normal (WC.region (WL.loadB Try.isAgg28 hb_1 rfl rfl rfl (WL.nilCheck rfl rfl (WL.fieldAddr (fld_65_0) rfl rfl (?_))))))
  refine WL.makeFunc rfl rfl ?_
  refine WL.call eg_52 rfl rfl (doR_calls hR _) ?_
  rintro v w2 ⟨rfl, k⟩
  have zs_k := k.size
  replace hR := hR.pure k
  replace hw := hw.pure k
  replace hb_1 := hb_1.pure k
  refine WL.nil (?_)
  refine WX.ret0 (.inr rfl) Try.results47 ?_
  exact ⟨_, rfl, rfl, hw⟩
set_option maxRecDepth 100000 in
theorem readyR_calls {w : World} {g : Nat} (hR : Blk w g 65 FR) : Calls Try.prog 29 [.pointer (some ⟨g, 0, none⟩)].toArray w (Ret fun v w' => v = .pointer (some ⟨g, 0, none⟩) ∧ Chg Nob w w') := by
  have hw := Chg.refl Nob w
  refine Calls.of_WC Try.func29 rfl Try.ntmps29 (by simp) ?_
  refine WC.seq (WC.region (WL.assign rfl rfl (WL.nil (WX.then_normal (WC.seq (WC.seq (WC.region (?_))))))))
  refine WL.move rfl rfl (?_)
  refine WL.pnil Try.underlying28 rfl rfl rfl ?_
  rw [show (some (⟨g, 0, none⟩ : Addr)).isNone = false from rfl]
  refine WL.nil (WX.then_normal (WC.cond_false rfl (WC.skip (WX.then_normal (WC.seq (WC.region (WL.move rfl rfl (?_))))))))
  refine WL.call eg_47 rfl rfl (tablesR_calls hR) ?_
  rintro v w2 ⟨rfl, k⟩
  have zs_k := k.size
  replace hR := hR.pure k
  replace hw := hw.pure k
  refine WL.nil (WX.then_normal (WC.seq (WC.region (WL.move rfl rfl (WL.assign rfl rfl (WL.nil (WX.then_normal (?_))))))))
  refine WC.ret (?_)
  refine WX.ret1 (.inl rfl) Try.results29 rfl ?_
  exact ⟨_, rfl, rfl, hw⟩
theorem mulR_calls {w : World} {g : Nat} (hR : Blk w g 65 FR) (a b : UInt8) : Calls Try.prog 15 [.pointer (some ⟨g, 0, none⟩), v8 a, v8 b].toArray w (Ret fun v w' => v = v8 (mul a b) ∧ Chg Nob w w') := by
  have hw := Chg.refl Nob w
  have hla := L_lt a
  have hlb := L_lt b
  refine Calls.of_WC Try.func15 rfl Try.ntmps15 (by simp) ?_
  refine WC.seq (WC.region (WL.assign rfl rfl (WL.nil (WX.then_normal (WC.seq (WC.seq (WC.region (?_))))))))
  refine WL.move rfl rfl (?_)
  refine WL.eql? rfl rfl rfl (fun h8 => ?_) (fun h8 => ?_)
  ·
    refine WL.move rfl rfl (WL.pass rfl rfl rfl rfl (WL.pass rfl rfl rfl rfl (WL.pickT rfl rfl rfl (WL.nil (WX.then_normal (WC.cond_true rfl (WC.seq (?_))))))))
    refine WC.region (WL.assign rfl rfl (WL.nil (WX.then_normal (WC.ret (WX.then_ret (?_))))))
    refine WX.ret1 (.inl rfl) Try.results15 rfl ?_
    first
      | (have ha := u8_zero h8
         subst ha
         refine ⟨_, rfl, ?_, hw⟩
         rw [mul_zero_l]
         rfl)
      | (have hb := u8_zero h11
         subst hb
         refine ⟨_, rfl, ?_, hw⟩
         rw [mul_zero_r]
         rfl)
      | (refine ⟨_, rfl, ?_, hw⟩
         rw [mul, if_neg (by rintro (h | h); exact u8_ne h8 h; exact u8_ne h11 h)])
  ·
    refine WL.move rfl rfl (WL.want rfl rfl rfl (WL.move rfl rfl (WL.want rfl rfl rfl (?_))))
    refine WL.eql? rfl rfl rfl (fun h11 => ?_) (fun h11 => ?_)
    ·
      refine WL.pickF rfl rfl rfl (WL.nil (WX.then_normal (WC.cond_true rfl (WC.seq (WC.region (WL.assign rfl rfl (WL.nil (?_))))))))
      refine WX.then_normal (WC.ret (WX.then_ret (?_)))
      refine WX.ret1 (.inl rfl) Try.results15 rfl ?_
      first
        | (have ha := u8_zero h8
           subst ha
           refine ⟨_, rfl, ?_, hw⟩
           rw [mul_zero_l]
           rfl)
        | (have hb := u8_zero h11
           subst hb
           refine ⟨_, rfl, ?_, hw⟩
           rw [mul_zero_r]
           rfl)
        | (refine ⟨_, rfl, ?_, hw⟩
           rw [mul, if_neg (by rintro (h | h); exact u8_ne h8 h; exact u8_ne h11 h)])
    ·
      refine WL.pickF rfl rfl rfl (WL.nil (WX.then_normal (WC.cond_false rfl (WC.skip (WX.then_normal (WC.seq (WC.region (?_))))))))
      refine WL.move rfl rfl (?_)
      refine WL.call eg_29 rfl rfl (readyR_calls hR) ?_
      rintro v w2 ⟨rfl, k⟩
      have zs_k := k.size
      replace hR := hR.pure k
      replace hw := hw.pure k
      refine WL.assign rfl rfl (WL.nil (WX.then_normal (WC.seq (?_))))
      refine WC.draw (Nob) [0, 1, 2, 3, 4, 5, 6, 7, 8, 9, 10, 11, 12, 13, 14, 15, 16, 17, 18] [] mixed rfl rfl (fun wd_1 kd_1 zd_1 => ?_)
      have zs_kd_1 := kd_1.size
      replace hR := hR.pure kd_1
      replace hw := hw.pure kd_1
      apply DQ.step (E' := [(0, _)])
      case ho => rfl
      case hs => exact ⟨rfl, trivial⟩
      case hk => rfl
      case h1 =>
        intro wq_2 kq_2
        refine WL.move rfl rfl (?_)
        refine WL.nil ?_
        exact WX.one ⟨rfl, by first | exact Chg.refl _ _ | assumption⟩
      apply DQ.step (E' := [(0, _)])
      case ho => rfl
      case hs => exact ⟨rfl, trivial⟩
      case hk => rfl
      case h1 =>
        intro wq_3 kq_3
        refine WL.move rfl rfl (?_)
        refine WL.nil ?_
        exact WX.one ⟨rfl, by first | exact Chg.refl _ _ | assumption⟩
      apply DQ.step (E' := [(1, _)])
      case ho => rfl
      case hs => exact ⟨rfl, trivial⟩
      case hk => rfl
      case h1 =>
        intro wq_4 kq_4
        refine WL.move rfl rfl (?_)
        refine WL.nil ?_
        exact WX.one ⟨rfl, by first | exact Chg.refl _ _ | assumption⟩
      apply DQ.step (E' := [(16, _)])
      case ho => rfl
      case hs => exact ⟨rfl, trivial⟩
      case hk => rfl
      case h1 =>
        intro wq_5 kq_5
        refine WL.nilCheck rfl rfl (?_)
        refine WL.nil ?_
        exact WX.one ⟨rfl, by first | exact Chg.refl _ _ | assumption⟩
      apply DQ.step (E' := [(18, _)])
      case ho => rfl
      case hs => exact ⟨rfl, trivial⟩
      case hk => rfl
      case h1 =>
        intro wq_6 kq_6
        refine WL.fieldAddr (fld_65_2) rfl rfl (?_)
        refine WL.nil ?_
        exact WX.one ⟨rfl, by first | exact Chg.refl _ _ | assumption⟩
      apply DQ.step (E' := [(19, _), (17, _)])
      case ho => rfl
      case hs => exact ⟨rfl, rfl, trivial⟩
      case hk => rfl
      case h1 =>
        intro wq_7 kq_7
        have zs_kq_7 := kq_7.size
        replace hR := hR.pure kq_7
        replace hw := hw.pure kq_7
        refine WL.indexArrO a.toNat Try.underlying63 Try.sizeOf3 rfl rfl ⟨rfl, a.toNat_lt⟩ rfl ?_
        refine WL.nil ?_
        exact WX.one ⟨rfl, by first | exact Chg.refl _ _ | assumption⟩
      apply DQ.step (E' := [(20, _)])
      case ho => rfl
      case hs => exact ⟨rfl, trivial⟩
      case hk => rfl
      case h1 =>
        intro wq_8 kq_8
        have zs_kq_8 := kq_8.size
        replace hR := hR.pure kq_8
        replace hw := hw.pure kq_8
        refine WL.loadB Try.isAgg3 hR rfl (FR_l a) rfl ?_
        refine WL.nil ?_
        exact WX.one ⟨rfl, by first | exact Chg.refl _ _ | assumption⟩
      apply DQ.step (E' := [(0, _)])
      case ho => rfl
      case hs => exact ⟨rfl, trivial⟩
      case hk => rfl
      case h1 =>
        intro wq_9 kq_9
        refine WL.move rfl rfl (?_)
        refine WL.nil ?_
        exact WX.one ⟨rfl, by first | exact Chg.refl _ _ | assumption⟩
      apply DQ.step (E' := [(2, _)])
      case ho => rfl
      case hs => exact ⟨rfl, trivial⟩
      case hk => rfl
      case h1 =>
        intro wq_10 kq_10
        refine WL.move rfl rfl (?_)
        refine WL.nil ?_
        exact WX.one ⟨rfl, by first | exact Chg.refl _ _ | assumption⟩
      apply DQ.step (E' := [(22, _)])
      case ho => rfl
      case hs => exact ⟨rfl, trivial⟩
      case hk => rfl
      case h1 =>
        intro wq_11 kq_11
        refine WL.nilCheck rfl rfl (?_)
        refine WL.nil ?_
        exact WX.one ⟨rfl, by first | exact Chg.refl _ _ | assumption⟩
      apply DQ.step (E' := [(24, _)])
      case ho => rfl
      case hs => exact ⟨rfl, trivial⟩
      case hk => rfl
      case h1 =>
        intro wq_12 kq_12
        refine WL.fieldAddr (fld_65_2) rfl rfl (?_)
        refine WL.nil ?_
        exact WX.one ⟨rfl, by first | exact Chg.refl _ _ | assumption⟩
      apply DQ.step (E' := [(25, _), (23, _)])
      case ho => rfl
      case hs => exact ⟨rfl, rfl, trivial⟩
      case hk => rfl
      case h1 =>
        intro wq_13 kq_13
        have zs_kq_13 := kq_13.size
        replace hR := hR.pure kq_13
        replace hw := hw.pure kq_13
        refine WL.indexArrO b.toNat Try.underlying63 Try.sizeOf3 rfl rfl ⟨rfl, b.toNat_lt⟩ rfl ?_
        refine WL.nil ?_
        exact WX.one ⟨rfl, by first | exact Chg.refl _ _ | assumption⟩
      apply DQ.step (E' := [(26, _)])
      case ho => rfl
      case hs => exact ⟨rfl, trivial⟩
      case hk => rfl
      case h1 =>
        intro wq_14 kq_14
        have zs_kq_14 := kq_14.size
        replace hR := hR.pure kq_14
        replace hw := hw.pure kq_14
        refine WL.loadB Try.isAgg3 hR rfl (FR_l b) rfl ?_
        refine WL.nil ?_
        exact WX.one ⟨rfl, by first | exact Chg.refl _ _ | assumption⟩
      apply DQ.step (E' := [(21, _), (27, _)])
      case ho => rfl
      case hs => exact ⟨rfl, rfl, trivial⟩
      case hk => rfl
      case h1 =>
        intro wq_15 kq_15
        refine WL.add64 rfl rfl (by first | omega | (constructor <;> omega)) rfl (?_)
        refine WL.nil ?_
        exact WX.one ⟨rfl, by first | exact Chg.refl _ _ | assumption⟩
      apply DQ.step (E' := [(15, _)])
      case ho => rfl
      case hs => exact ⟨rfl, trivial⟩
      case hk => rfl
      case h1 =>
        intro wq_16 kq_16
        refine WL.nilCheck rfl rfl (?_)
        refine WL.nil ?_
        exact WX.one ⟨rfl, by first | exact Chg.refl _ _ | assumption⟩
      apply DQ.step (E' := [(29, _)])
      case ho => rfl
      case hs => exact ⟨rfl, trivial⟩
      case hk => rfl
      case h1 =>
        intro wq_17 kq_17
        refine WL.fieldAddr (fld_65_1) rfl rfl (?_)
        refine WL.nil ?_
        exact WX.one ⟨rfl, by first | exact Chg.refl _ _ | assumption⟩
      apply DQ.step (E' := [(30, _), (28, _)])
      case ho => rfl
      case hs => exact ⟨rfl, rfl, trivial⟩
      case hk => rfl
      case h1 =>
        intro wq_18 kq_18
        have zs_kq_18 := kq_18.size
        replace hR := hR.pure kq_18
        replace hw := hw.pure kq_18
        refine WL.indexArrO (L a + L b) Try.underlying62 Try.sizeOf5 rfl rfl ⟨by omega, by omega⟩ rfl ?_
        refine WL.nil ?_
        exact WX.one ⟨rfl, by first | exact Chg.refl _ _ | assumption⟩
      apply DQ.step (E' := [(31, _)])
      case ho => rfl
      case hs => exact ⟨rfl, trivial⟩
      case hk => rfl
      case h1 =>
        intro wq_19 kq_19
        have zs_kq_19 := kq_19.size
        replace hR := hR.pure kq_19
        replace hw := hw.pure kq_19
        refine WL.loadB Try.isAgg5 hR rfl (FR_e (by omega)) rfl ?_
        refine WL.nil ?_
        exact WX.one ⟨rfl, by first | exact Chg.refl _ _ | assumption⟩
      apply DQ.step (E' := [(32, _)])
      case ho => rfl
      case hs => exact ⟨rfl, trivial⟩
      case hk => rfl
      case h1 =>
        intro wq_20 kq_20
        refine WL.assign rfl rfl (?_)
        refine WL.nil ?_
        exact WX.one ⟨rfl, by first | exact Chg.refl _ _ | assumption⟩
      refine DQ.done (fun _ => ?_)
      refine DL.done (fun we_21 ke_21 => ?_)
      have zs_ke_21 := ke_21.size
      replace hR := hR.pure ke_21
      replace hw := hw.pure ke_21
      refine WX.then_normal (WC.ret (?_))
      refine WX.ret1 (.inl rfl) Try.results15 rfl ?_
      first
        | (have ha := u8_zero h8
           subst ha
           refine ⟨_, rfl, ?_, hw⟩
           rw [mul_zero_l]
           rfl)
        | (have hb := u8_zero h11
           subst hb
           refine ⟨_, rfl, ?_, hw⟩
           rw [mul_zero_r]
           rfl)
        | (refine ⟨_, rfl, ?_, hw⟩
           rw [mul, if_neg (by rintro (h | h); exact u8_ne h8 h; exact u8_ne h11 h)])
theorem mulT_calls {w : World} {g : Nat} (hF : Fld w g) (a b : UInt8) (ha : a ≠ 0) (hb : b ≠ 0) : Calls Try.prog 15 [.pointer (some ⟨g, 0, none⟩), v8 a, v8 b].toArray w (Ret fun v w' => v = v8 (mul a b) ∧ Blk w' g 65 FR ∧ Chg (fun x => x = g) w w') := by
  have hw := Chg.refl (fun x => x = g) w
  have hla := L_lt a
  have hlb := L_lt b
  refine Calls.of_WC Try.func15 rfl Try.ntmps15 (by simp) ?_
  refine WC.seq (WC.region (WL.assign rfl rfl (WL.nil (WX.then_normal (WC.seq (WC.seq (WC.region (?_))))))))
  refine WL.move rfl rfl (?_)
  refine WL.eql? rfl rfl rfl (fun h8 => ?_) (fun h8 => ?_)
  ·
    refine WL.move rfl rfl (WL.pass rfl rfl rfl rfl (WL.pass rfl rfl rfl rfl (WL.pickT rfl rfl rfl (WL.nil (WX.then_normal (WC.cond_true rfl (WC.seq (?_))))))))
    refine WC.region (WL.assign rfl rfl (WL.nil (WX.then_normal (WC.ret (WX.then_ret (?_))))))
    refine WX.ret1 (.inl rfl) Try.results15 rfl ?_
    first
      | (exfalso; exact ha (u8_zero h8))
      | (exfalso; exact hb (u8_zero h11))
      | (refine ⟨_, rfl, ?_, hR, hw⟩
         rw [mul, if_neg (by rintro (h | h); exact u8_ne h8 h; exact u8_ne h11 h)])
  ·
    refine WL.move rfl rfl (WL.want rfl rfl rfl (WL.move rfl rfl (WL.want rfl rfl rfl (?_))))
    refine WL.eql? rfl rfl rfl (fun h11 => ?_) (fun h11 => ?_)
    ·
      refine WL.pickF rfl rfl rfl (WL.nil (WX.then_normal (WC.cond_true rfl (WC.seq (WC.region (WL.assign rfl rfl (WL.nil (?_))))))))
      refine WX.then_normal (WC.ret (WX.then_ret (?_)))
      refine WX.ret1 (.inl rfl) Try.results15 rfl ?_
      first
        | (exfalso; exact ha (u8_zero h8))
        | (exfalso; exact hb (u8_zero h11))
        | (refine ⟨_, rfl, ?_, hR, hw⟩
           rw [mul, if_neg (by rintro (h | h); exact u8_ne h8 h; exact u8_ne h11 h)])
    ·
      refine WL.pickF rfl rfl rfl (WL.nil (WX.then_normal (WC.cond_false rfl (WC.skip (WX.then_normal (WC.seq (WC.region (?_))))))))
      refine WL.move rfl rfl (?_)
      refine WL.call eg_29 rfl rfl (ready_calls hF) ?_
      rintro v w2 ⟨rfl, hR, k⟩
      have zs_k := k.size
      replace hw := hw.chg k (by first | (intro x h1 h2; exact h2) | (intro x h0 h1 h2; exact hS x h1 h2) | (intro x h0 h1 h2; have h3 : _ = _ := h2; subst h3; exact hSR h1.1) | (intro x h1 h2; have h3 : _ = _ := h2; subst h3; assumption) | (intro x h1 h2; have h3 : _ = _ := h2; exfalso; omega) | (intro b h1 h2 h3; have h4 : _ = _ := h3; (try dsimp only at h2); exfalso; omega) | (intro h1; have h2 : _ = _ := h1; exfalso; omega) | (intro h1; have h2 : _ ≤ _ := h1; exfalso; omega) | (intros; exfalso; (try dsimp only at *); omega) | (intro b h1 h2 h3; exfalso; have h4 := h3.2; (try dsimp only at *); omega) | (intro h1; exfalso; have h4 := h1.2; (try dsimp only at *); omega) | (intro x h1 h2; exfalso; have h4 := h2.2; (try dsimp only at *); omega) | (intro x h1 h2; exact ⟨_, rfl, h2⟩) | (intro x h1 h2; have h4 := h2.1; have h5 := h2.2; exfalso; omega) | (intro x h1 h2; exact h2.1) | (intro x h1 h2; rcases h2.1 with h3 | h3; exact h3; exfalso; omega) | (intro x h1 h2; rcases h2 with h3 | h3; exact h3; exfalso; omega))
      refine WL.assign rfl rfl (WL.nil (WX.then_normal (WC.seq (?_))))
      refine WC.draw (Nob) [0, 1, 2, 3, 4, 5, 6, 7, 8, 9, 10, 11, 12, 13, 14, 15, 16, 17, 18] [] mixed rfl rfl (fun wd_1 kd_1 zd_1 => ?_)
      have zs_kd_1 := kd_1.size
      replace hw := hw.pure kd_1
      replace hR := hR.pure kd_1
      apply DQ.step (E' := [(0, _)])
      case ho => rfl
      case hs => exact ⟨rfl, trivial⟩
      case hk => rfl
      case h1 =>
        intro wq_2 kq_2
        refine WL.move rfl rfl (?_)
        refine WL.nil ?_
        exact WX.one ⟨rfl, by first | exact Chg.refl _ _ | assumption⟩
      apply DQ.step (E' := [(0, _)])
      case ho => rfl
      case hs => exact ⟨rfl, trivial⟩
      case hk => rfl
      case h1 =>
        intro wq_3 kq_3
        refine WL.move rfl rfl (?_)
        refine WL.nil ?_
        exact WX.one ⟨rfl, by first | exact Chg.refl _ _ | assumption⟩
      apply DQ.step (E' := [(1, _)])
      case ho => rfl
      case hs => exact ⟨rfl, trivial⟩
      case hk => rfl
      case h1 =>
        intro wq_4 kq_4
        refine WL.move rfl rfl (?_)
        refine WL.nil ?_
        exact WX.one ⟨rfl, by first | exact Chg.refl _ _ | assumption⟩
      apply DQ.step (E' := [(16, _)])
      case ho => rfl
      case hs => exact ⟨rfl, trivial⟩
      case hk => rfl
      case h1 =>
        intro wq_5 kq_5
        refine WL.nilCheck rfl rfl (?_)
        refine WL.nil ?_
        exact WX.one ⟨rfl, by first | exact Chg.refl _ _ | assumption⟩
      apply DQ.step (E' := [(18, _)])
      case ho => rfl
      case hs => exact ⟨rfl, trivial⟩
      case hk => rfl
      case h1 =>
        intro wq_6 kq_6
        refine WL.fieldAddr (fld_65_2) rfl rfl (?_)
        refine WL.nil ?_
        exact WX.one ⟨rfl, by first | exact Chg.refl _ _ | assumption⟩
      apply DQ.step (E' := [(19, _), (17, _)])
      case ho => rfl
      case hs => exact ⟨rfl, rfl, trivial⟩
      case hk => rfl
      case h1 =>
        intro wq_7 kq_7
        have zs_kq_7 := kq_7.size
        replace hw := hw.pure kq_7
        replace hR := hR.pure kq_7
        refine WL.indexArrO a.toNat Try.underlying63 Try.sizeOf3 rfl rfl ⟨rfl, a.toNat_lt⟩ rfl ?_
        refine WL.nil ?_
        exact WX.one ⟨rfl, by first | exact Chg.refl _ _ | assumption⟩
      apply DQ.step (E' := [(20, _)])
      case ho => rfl
      case hs => exact ⟨rfl, trivial⟩
      case hk => rfl
      case h1 =>
        intro wq_8 kq_8
        have zs_kq_8 := kq_8.size
        replace hw := hw.pure kq_8
        replace hR := hR.pure kq_8
        refine WL.loadB Try.isAgg3 hR rfl (FR_l a) rfl ?_
        refine WL.nil ?_
        exact WX.one ⟨rfl, by first | exact Chg.refl _ _ | assumption⟩
      apply DQ.step (E' := [(0, _)])
      case ho => rfl
      case hs => exact ⟨rfl, trivial⟩
      case hk => rfl
      case h1 =>
        intro wq_9 kq_9
        refine WL.move rfl rfl (?_)
        refine WL.nil ?_
        exact WX.one ⟨rfl, by first | exact Chg.refl _ _ | assumption⟩
      apply DQ.step (E' := [(2, _)])
      case ho => rfl
      case hs => exact ⟨rfl, trivial⟩
      case hk => rfl
      case h1 =>
        intro wq_10 kq_10
        refine WL.move rfl rfl (?_)
        refine WL.nil ?_
        exact WX.one ⟨rfl, by first | exact Chg.refl _ _ | assumption⟩
      apply DQ.step (E' := [(22, _)])
      case ho => rfl
      case hs => exact ⟨rfl, trivial⟩
      case hk => rfl
      case h1 =>
        intro wq_11 kq_11
        refine WL.nilCheck rfl rfl (?_)
        refine WL.nil ?_
        exact WX.one ⟨rfl, by first | exact Chg.refl _ _ | assumption⟩
      apply DQ.step (E' := [(24, _)])
      case ho => rfl
      case hs => exact ⟨rfl, trivial⟩
      case hk => rfl
      case h1 =>
        intro wq_12 kq_12
        refine WL.fieldAddr (fld_65_2) rfl rfl (?_)
        refine WL.nil ?_
        exact WX.one ⟨rfl, by first | exact Chg.refl _ _ | assumption⟩
      apply DQ.step (E' := [(25, _), (23, _)])
      case ho => rfl
      case hs => exact ⟨rfl, rfl, trivial⟩
      case hk => rfl
      case h1 =>
        intro wq_13 kq_13
        have zs_kq_13 := kq_13.size
        replace hw := hw.pure kq_13
        replace hR := hR.pure kq_13
        refine WL.indexArrO b.toNat Try.underlying63 Try.sizeOf3 rfl rfl ⟨rfl, b.toNat_lt⟩ rfl ?_
        refine WL.nil ?_
        exact WX.one ⟨rfl, by first | exact Chg.refl _ _ | assumption⟩
      apply DQ.step (E' := [(26, _)])
      case ho => rfl
      case hs => exact ⟨rfl, trivial⟩
      case hk => rfl
      case h1 =>
        intro wq_14 kq_14
        have zs_kq_14 := kq_14.size
        replace hw := hw.pure kq_14
        replace hR := hR.pure kq_14
        refine WL.loadB Try.isAgg3 hR rfl (FR_l b) rfl ?_
        refine WL.nil ?_
        exact WX.one ⟨rfl, by first | exact Chg.refl _ _ | assumption⟩
      apply DQ.step (E' := [(21, _), (27, _)])
      case ho => rfl
      case hs => exact ⟨rfl, rfl, trivial⟩
      case hk => rfl
      case h1 =>
        intro wq_15 kq_15
        refine WL.add64 rfl rfl (by first | omega | (constructor <;> omega)) rfl (?_)
        refine WL.nil ?_
        exact WX.one ⟨rfl, by first | exact Chg.refl _ _ | assumption⟩
      apply DQ.step (E' := [(15, _)])
      case ho => rfl
      case hs => exact ⟨rfl, trivial⟩
      case hk => rfl
      case h1 =>
        intro wq_16 kq_16
        refine WL.nilCheck rfl rfl (?_)
        refine WL.nil ?_
        exact WX.one ⟨rfl, by first | exact Chg.refl _ _ | assumption⟩
      apply DQ.step (E' := [(29, _)])
      case ho => rfl
      case hs => exact ⟨rfl, trivial⟩
      case hk => rfl
      case h1 =>
        intro wq_17 kq_17
        refine WL.fieldAddr (fld_65_1) rfl rfl (?_)
        refine WL.nil ?_
        exact WX.one ⟨rfl, by first | exact Chg.refl _ _ | assumption⟩
      apply DQ.step (E' := [(30, _), (28, _)])
      case ho => rfl
      case hs => exact ⟨rfl, rfl, trivial⟩
      case hk => rfl
      case h1 =>
        intro wq_18 kq_18
        have zs_kq_18 := kq_18.size
        replace hw := hw.pure kq_18
        replace hR := hR.pure kq_18
        refine WL.indexArrO (L a + L b) Try.underlying62 Try.sizeOf5 rfl rfl ⟨by omega, by omega⟩ rfl ?_
        refine WL.nil ?_
        exact WX.one ⟨rfl, by first | exact Chg.refl _ _ | assumption⟩
      apply DQ.step (E' := [(31, _)])
      case ho => rfl
      case hs => exact ⟨rfl, trivial⟩
      case hk => rfl
      case h1 =>
        intro wq_19 kq_19
        have zs_kq_19 := kq_19.size
        replace hw := hw.pure kq_19
        replace hR := hR.pure kq_19
        refine WL.loadB Try.isAgg5 hR rfl (FR_e (by omega)) rfl ?_
        refine WL.nil ?_
        exact WX.one ⟨rfl, by first | exact Chg.refl _ _ | assumption⟩
      apply DQ.step (E' := [(32, _)])
      case ho => rfl
      case hs => exact ⟨rfl, trivial⟩
      case hk => rfl
      case h1 =>
        intro wq_20 kq_20
        refine WL.assign rfl rfl (?_)
        refine WL.nil ?_
        exact WX.one ⟨rfl, by first | exact Chg.refl _ _ | assumption⟩
      refine DQ.done (fun _ => ?_)
      refine DL.done (fun we_21 ke_21 => ?_)
      have zs_ke_21 := ke_21.size
      replace hw := hw.pure ke_21
      replace hR := hR.pure ke_21
      refine WX.then_normal (WC.ret (?_))
      refine WX.ret1 (.inl rfl) Try.results15 rfl ?_
      first
        | (exfalso; exact ha (u8_zero h8))
        | (exfalso; exact hb (u8_zero h11))
        | (refine ⟨_, rfl, ?_, hR, hw⟩
           rw [mul, if_neg (by rintro (h | h); exact u8_ne h8 h; exact u8_ne h11 h)])
set_option maxRecDepth 100000 in
theorem powR_two (m : Nat) : powR 2 (m : Int) = (G m, 0) := by
  have hL : L 2 = 1 := by decide +kernel
  rw [powR, if_neg (by omega)]
  by_cases hm : (m : Int) = 0
  · rw [if_pos hm, show m = 0 from by omega, G_zero]
  · rw [if_neg hm, if_neg (by decide), hL, Int.toNat_natCast, Nat.one_mul, Nat.mod_mod, G]
theorem weights_calls {w : World} {g : Nat} (hF : Fld w g) (i : Nat) : Calls Try.prog 50 [.pointer (some ⟨g, 0, none⟩), vi i].toArray w (Ret fun v w' => v = .agg ([wtq 0 i, wtq 1 i, wtq 2 i].map v8).toArray ∧ Blk w' g 65 FR ∧ Chg (fun x => x = g) w w') := by
  have hw := Chg.refl (fun x => x = g) w
  have lg := hF.lt
  refine Calls.of_WC Try.func50 rfl Try.ntmps50 (by simp) ?_
  refine WC.seq (WC.region (?_))
  refine WL.alloc Try.zeroValue84 rfl ?_
  intro g_1 w_1 hge_1 hlt_1 hb_1 k_1
  have zs_k_1 := k_1.size
  replace hF := hF.pure k_1
  replace hw := hw.pure k_1
  refine WL.nil (WX.then_normal (WC.seq (WC.region (WL.move rfl rfl (WL.move rfl rfl (?_))))))
  refine WL.call eg_54 rfl rfl (pow_calls hF 2 i) ?_
  rintro v w1 ⟨rfl, hF2, k⟩
  rw [powR_two]
  have zs_k := k.size
  replace hw := hw.chg k (by first | (intro x h1 h2; exact h2) | (intro x h0 h1 h2; exact hS x h1 h2) | (intro x h0 h1 h2; have h3 : _ = _ := h2; subst h3; exact hSR h1.1) | (intro x h1 h2; have h3 : _ = _ := h2; subst h3; assumption) | (intro x h1 h2; have h3 : _ = _ := h2; exfalso; omega) | (intro b h1 h2 h3; have h4 : _ = _ := h3; (try dsimp only at h2); exfalso; omega) | (intro h1; have h2 : _ = _ := h1; exfalso; omega) | (intro h1; have h2 : _ ≤ _ := h1; exfalso; omega) | (intros; exfalso; (try dsimp only at *); omega) | (intro b h1 h2 h3; exfalso; have h4 := h3.2; (try dsimp only at *); omega) | (intro h1; exfalso; have h4 := h1.2; (try dsimp only at *); omega) | (intro x h1 h2; exfalso; have h4 := h2.2; (try dsimp only at *); omega) | (intro x h1 h2; exact ⟨_, rfl, h2⟩) | (intro x h1 h2; have h4 := h2.1; have h5 := h2.2; exfalso; omega) | (intro x h1 h2; exact h2.1) | (intro x h1 h2; rcases h2.1 with h3 | h3; exact h3; exfalso; omega) | (intro x h1 h2; rcases h2 with h3 | h3; exact h3; exfalso; omega))
  replace hb_1 := hb_1.chg k (by first | (intro x h1 h2; exact h2) | (intro x h0 h1 h2; exact hS x h1 h2) | (intro x h0 h1 h2; have h3 : _ = _ := h2; subst h3; exact hSR h1.1) | (intro x h1 h2; have h3 : _ = _ := h2; subst h3; assumption) | (intro x h1 h2; have h3 : _ = _ := h2; exfalso; omega) | (intro b h1 h2 h3; have h4 : _ = _ := h3; (try dsimp only at h2); exfalso; omega) | (intro h1; have h2 : _ = _ := h1; exfalso; omega) | (intro h1; have h2 : _ ≤ _ := h1; exfalso; omega) | (intros; exfalso; (try dsimp only at *); omega) | (intro b h1 h2 h3; exfalso; have h4 := h3.2; (try dsimp only at *); omega) | (intro h1; exfalso; have h4 := h1.2; (try dsimp only at *); omega) | (intro x h1 h2; exfalso; have h4 := h2.2; (try dsimp only at *); omega) | (intro x h1 h2; exact ⟨_, rfl, h2⟩) | (intro x h1 h2; have h4 := h2.1; have h5 := h2.2; exfalso; omega) | (intro x h1 h2; exact h2.1) | (intro x h1 h2; rcases h2.1 with h3 | h3; exact h3; exfalso; omega) | (intro x h1 h2; rcases h2 with h3 | h3; exact h3; exfalso; omega))
  replace hF := hF2
  refine WL.move rfl rfl (WL.extract rfl rfl rfl (WL.extract rfl rfl rfl (WL.assign rfl rfl (WL.assign rfl rfl (WL.nil (WX.then_normal (WC.seq (?_))))))))
  refine WC.region (WL.move rfl rfl (WL.move rfl rfl (WL.move rfl rfl (WL.move rfl rfl (?_)))))
  refine WL.call eg_15 rfl rfl (mulT_calls hF (G i) (G i) (G_ne i) (G_ne i)) ?_
  rintro v w1 ⟨rfl, hR, k⟩
  have zs_k := k.size
  replace hw := hw.chg k (by first | (intro x h1 h2; exact h2) | (intro x h0 h1 h2; exact hS x h1 h2) | (intro x h0 h1 h2; have h3 : _ = _ := h2; subst h3; exact hSR h1.1) | (intro x h1 h2; have h3 : _ = _ := h2; subst h3; assumption) | (intro x h1 h2; have h3 : _ = _ := h2; exfalso; omega) | (intro b h1 h2 h3; have h4 : _ = _ := h3; (try dsimp only at h2); exfalso; omega) | (intro h1; have h2 : _ = _ := h1; exfalso; omega) | (intro h1; have h2 : _ ≤ _ := h1; exfalso; omega) | (intros; exfalso; (try dsimp only at *); omega) | (intro b h1 h2 h3; exfalso; have h4 := h3.2; (try dsimp only at *); omega) | (intro h1; exfalso; have h4 := h1.2; (try dsimp only at *); omega) | (intro x h1 h2; exfalso; have h4 := h2.2; (try dsimp only at *); omega) | (intro x h1 h2; exact ⟨_, rfl, h2⟩) | (intro x h1 h2; have h4 := h2.1; have h5 := h2.2; exfalso; omega) | (intro x h1 h2; exact h2.1) | (intro x h1 h2; rcases h2.1 with h3 | h3; exact h3; exfalso; omega) | (intro x h1 h2; rcases h2 with h3 | h3; exact h3; exfalso; omega))
  replace hb_1 := hb_1.chg k (by first | (intro x h1 h2; exact h2) | (intro x h0 h1 h2; exact hS x h1 h2) | (intro x h0 h1 h2; have h3 : _ = _ := h2; subst h3; exact hSR h1.1) | (intro x h1 h2; have h3 : _ = _ := h2; subst h3; assumption) | (intro x h1 h2; have h3 : _ = _ := h2; exfalso; omega) | (intro b h1 h2 h3; have h4 : _ = _ := h3; (try dsimp only at h2); exfalso; omega) | (intro h1; have h2 : _ = _ := h1; exfalso; omega) | (intro h1; have h2 : _ ≤ _ := h1; exfalso; omega) | (intros; exfalso; (try dsimp only at *); omega) | (intro b h1 h2 h3; exfalso; have h4 := h3.2; (try dsimp only at *); omega) | (intro h1; exfalso; have h4 := h1.2; (try dsimp only at *); omega) | (intro x h1 h2; exfalso; have h4 := h2.2; (try dsimp only at *); omega) | (intro x h1 h2; exact ⟨_, rfl, h2⟩) | (intro x h1 h2; have h4 := h2.1; have h5 := h2.2; exfalso; omega) | (intro x h1 h2; exact h2.1) | (intro x h1 h2; rcases h2.1 with h3 | h3; exact h3; exfalso; omega) | (intro x h1 h2; rcases h2 with h3 | h3; exact h3; exfalso; omega))
  refine WL.bld rfl (bld_84_0_1_2 _ _ _) rfl (?_)
  refine WL.stores Try.sizeOf84 hb_1 rfl rfl (by first | (simp; done) | (simp; omega) | rfl) (by first | exact Enc.one _ _ | (intro u hu; obtain ⟨x, _, rfl⟩ := List.mem_map.1 hu; rfl) | (simp [Value.oneCell']; done) | (simp [Value.oneCell', Value.cells]; done)) (by first | (simp; done) | (simp; omega) | (simp [Value.cells]; done) | (simp [Value.cells]; omega) | exact Nat.le_of_ble_eq_true rfl) rfl ?_
  intro w_2 hs_2 hn_2 k_2
  have zs_k_2 := k_2.size
  replace hw := hw.chg k_2 (by first | (intro x h1 h2; exact h2) | (intro x h0 h1 h2; exact hS x h1 h2) | (intro x h0 h1 h2; have h3 : _ = _ := h2; subst h3; exact hSR h1.1) | (intro x h1 h2; have h3 : _ = _ := h2; subst h3; assumption) | (intro x h1 h2; have h3 : _ = _ := h2; exfalso; omega) | (intro b h1 h2 h3; have h4 : _ = _ := h3; (try dsimp only at h2); exfalso; omega) | (intro h1; have h2 : _ = _ := h1; exfalso; omega) | (intro h1; have h2 : _ ≤ _ := h1; exfalso; omega) | (intros; exfalso; (try dsimp only at *); omega) | (intro b h1 h2 h3; exfalso; have h4 := h3.2; (try dsimp only at *); omega) | (intro h1; exfalso; have h4 := h1.2; (try dsimp only at *); omega) | (intro x h1 h2; exfalso; have h4 := h2.2; (try dsimp only at *); omega) | (intro x h1 h2; exact ⟨_, rfl, h2⟩) | (intro x h1 h2; have h4 := h2.1; have h5 := h2.2; exfalso; omega) | (intro x h1 h2; exact h2.1) | (intro x h1 h2; rcases h2.1 with h3 | h3; exact h3; exfalso; omega) | (intro x h1 h2; rcases h2 with h3 | h3; exact h3; exfalso; omega))
  replace hR := hR.chg k_2 (by first | (intro x h1 h2; exact h2) | (intro x h0 h1 h2; exact hS x h1 h2) | (intro x h0 h1 h2; have h3 : _ = _ := h2; subst h3; exact hSR h1.1) | (intro x h1 h2; have h3 : _ = _ := h2; subst h3; assumption) | (intro x h1 h2; have h3 : _ = _ := h2; exfalso; omega) | (intro b h1 h2 h3; have h4 : _ = _ := h3; (try dsimp only at h2); exfalso; omega) | (intro h1; have h2 : _ = _ := h1; exfalso; omega) | (intro h1; have h2 : _ ≤ _ := h1; exfalso; omega) | (intros; exfalso; (try dsimp only at *); omega) | (intro b h1 h2 h3; exfalso; have h4 := h3.2; (try dsimp only at *); omega) | (intro h1; exfalso; have h4 := h1.2; (try dsimp only at *); omega) | (intro x h1 h2; exfalso; have h4 := h2.2; (try dsimp only at *); omega) | (intro x h1 h2; exact ⟨_, rfl, h2⟩) | (intro x h1 h2; have h4 := h2.1; have h5 := h2.2; exfalso; omega) | (intro x h1 h2; exact h2.1) | (intro x h1 h2; rcases h2.1 with h3 | h3; exact h3; exfalso; omega) | (intro x h1 h2; rcases h2 with h3 | h3; exact h3; exfalso; omega))
  replace hb_1 := hn_2
  refine WL.nil (WX.then_normal (WC.ret (?_)))
  refine WX.ret1c (.inl rfl) Try.results50 Try.isAgg84 Try.sizeOf84 hb_1 rfl (by first | (simp; done) | (simp; omega) | rfl) ?_
  exact ⟨_, rfl, rfl, hR, hw⟩
end Go.Proofs.Ytjdbjdgobhjbkaa
namespace Go.Proofs.Ytjdbjdgobhjbkaa
open Go.RowKit Go.HL

theorem wt_at {i r : Nat} (h : r < 3) : [wtq 0 i, wtq 1 i, wtq 2 i][r]? = some (wtq r i) := by
  have h3 : r = 0 ∨ r = 1 ∨ r = 2 := by omega
  rcases h3 with rfl | rfl | rfl <;> rfl
set_option maxHeartbeats 4000000 in
theorem add_calls {w : World} {gf go n : Nat} {gs : List Nat} {ys : List (List UInt8)} {ac : Option Addr} {cc : Nat} {col : List UInt8} (hF : Fld w gf) (hO : OR w 23 5 go 3 gs n ys []) (hg3 : gs.length = 3) (hys : ∀ y ∈ ys, y.length = n) (hr : RSl (fun b => b < gf) w eb ac cc col) (hcl : col.length = n) (hgg : gf < go) (i : Nat) (hn : n ≤ 4096) :
    Calls Try.prog 51 [.pointer (some ⟨gf, 0, none⟩), .slice (some ⟨go, 0, none⟩) 3 3, vi i, .slice ac col.length cc].toArray w (Ret fun v w' => v = .tuple #[] ∧ Blk w' gf 65 FR ∧ OR w' 23 5 go 3 gs n (updR ys col i 3) [] ∧ Chg (fun x => gf ≤ x) w w') := by
  have hw := Chg.refl (fun x => gf ≤ x) w
  have hy3 : ys.length = 3 := by rw [← hO.len, hg3]
  have lgf := hF.lt
  have lgo := hO.lto
  have lgs : ∀ (j g : Nat), gs[j]? = some g → g < w.heap.size := fun j g h => hO.lt h
  refine Calls.of_WC Try.func51 rfl Try.ntmps51 (by simp) ?_
  refine WC.seq (WC.region (WL.move rfl rfl (WL.move rfl rfl (?_))))
  refine WL.call eg_50 rfl rfl (weights_calls hF i) ?_
  rintro v w1 ⟨rfl, hR, k⟩
  have zs_k := k.size
  replace hr := hr.chg k (by first | (intro x h1 h2; exact h2) | (intro x h0 h1 h2; exact hS x h1 h2) | (intro x h0 h1 h2; have h3 : _ = _ := h2; subst h3; exact hSR h1.1) | (intro x h1 h2; have h3 : _ = _ := h2; subst h3; assumption) | (intro x h1 h2; have h3 : _ = _ := h2; exfalso; omega) | (intro b h1 h2 h3; have h4 : _ = _ := h3; (try dsimp only at h2); exfalso; omega) | (intro h1; have h2 : _ = _ := h1; exfalso; omega) | (intro h1; have h2 : _ ≤ _ := h1; exfalso; omega) | (intros; exfalso; (try dsimp only at *); omega) | (intro b h1 h2 h3; exfalso; have h4 := h3.2; (try dsimp only at *); omega) | (intro h1; exfalso; have h4 := h1.2; (try dsimp only at *); omega) | (intro x h1 h2; exfalso; have h4 := h2.2; (try dsimp only at *); omega) | (intro x h1 h2; exact ⟨_, rfl, h2⟩) | (intro x h1 h2; have h4 := h2.1; have h5 := h2.2; exfalso; omega) | (intro x h1 h2; exact h2.1) | (intro x h1 h2; rcases h2.1 with h3 | h3; exact h3; exfalso; omega) | (intro x h1 h2; rcases h2 with h3 | h3; exact h3; exfalso; omega))
  replace hO := hO.chg k ⟨by omega, fun j g hg => by have := hO.above j g hg; omega⟩
  replace hw := hw.chg k (fun x _ h => by omega)
  refine WL.alloc Try.zeroValue84 rfl ?_
  intro g_1 w_1 hge_1 hlt_1 hb_1 k_1
  have zs_k_1 := k_1.size
  replace hr := hr.pure k_1
  replace hR := hR.pure k_1
  replace hw := hw.pure k_1
  refine WL.stores Try.sizeOf84 hb_1 rfl rfl (by first | (simp; done) | (simp; omega) | rfl) (by first | exact Enc.one _ _ | (intro u hu; obtain ⟨x, _, rfl⟩ := List.mem_map.1 hu; rfl) | (simp [Value.oneCell']; done) | (simp [Value.oneCell', Value.cells]; done)) (by first | (simp; done) | (simp; omega) | (simp [Value.cells]; done) | (simp [Value.cells]; omega) | exact Nat.le_of_ble_eq_true rfl) rfl ?_
  intro w_2 hs_2 hn_2 k_2
  have zs_k_2 := k_2.size
  replace hr := hr.chg k_2 (by first | (intro x h1 h2; exact h2) | (intro x h0 h1 h2; exact hS x h1 h2) | (intro x h0 h1 h2; have h3 : _ = _ := h2; subst h3; exact hSR h1.1) | (intro x h1 h2; have h3 : _ = _ := h2; subst h3; assumption) | (intro x h1 h2; have h3 : _ = _ := h2; exfalso; omega) | (intro b h1 h2 h3; have h4 : _ = _ := h3; (try dsimp only at h2); exfalso; omega) | (intro h1; have h2 : _ = _ := h1; exfalso; omega) | (intro h1; have h2 : _ ≤ _ := h1; exfalso; omega) | (intros; exfalso; (try dsimp only at *); omega) | (intro b h1 h2 h3; exfalso; have h4 := h3.2; (try dsimp only at *); omega) | (intro h1; exfalso; have h4 := h1.2; (try dsimp only at *); omega) | (intro x h1 h2; exfalso; have h4 := h2.2; (try dsimp only at *); omega) | (intro x h1 h2; exact ⟨_, rfl, h2⟩) | (intro x h1 h2; have h4 := h2.1; have h5 := h2.2; exfalso; omega) | (intro x h1 h2; exact h2.1) | (intro x h1 h2; rcases h2.1 with h3 | h3; exact h3; exfalso; omega) | (intro x h1 h2; rcases h2 with h3 | h3; exact h3; exfalso; omega))
  replace hR := hR.chg k_2 (by first | (intro x h1 h2; exact h2) | (intro x h0 h1 h2; exact hS x h1 h2) | (intro x h0 h1 h2; have h3 : _ = _ := h2; subst h3; exact hSR h1.1) | (intro x h1 h2; have h3 : _ = _ := h2; subst h3; assumption) | (intro x h1 h2; have h3 : _ = _ := h2; exfalso; omega) | (intro b h1 h2 h3; have h4 : _ = _ := h3; (try dsimp only at h2); exfalso; omega) | (intro h1; have h2 : _ = _ := h1; exfalso; omega) | (intro h1; have h2 : _ ≤ _ := h1; exfalso; omega) | (intros; exfalso; (try dsimp only at *); omega) | (intro b h1 h2 h3; exfalso; have h4 := h3.2; (try dsimp only at *); omega) | (intro h1; exfalso; have h4 := h1.2; (try dsimp only at *); omega) | (intro x h1 h2; exfalso; have h4 := h2.2; (try dsimp only at *); omega) | (intro x h1 h2; exact ⟨_, rfl, h2⟩) | (intro x h1 h2; have h4 := h2.1; have h5 := h2.2; exfalso; omega) | (intro x h1 h2; exact h2.1) | (intro x h1 h2; rcases h2.1 with h3 | h3; exact h3; exfalso; omega) | (intro x h1 h2; rcases h2 with h3 | h3; exact h3; exfalso; omega))
  replace hw := hw.chg k_2 (by first | (intro x h1 h2; exact h2) | (intro x h0 h1 h2; exact hS x h1 h2) | (intro x h0 h1 h2; have h3 : _ = _ := h2; subst h3; exact hSR h1.1) | (intro x h1 h2; have h3 : _ = _ := h2; subst h3; assumption) | (intro x h1 h2; have h3 : _ = _ := h2; exfalso; omega) | (intro b h1 h2 h3; have h4 : _ = _ := h3; (try dsimp only at h2); exfalso; omega) | (intro h1; have h2 : _ = _ := h1; exfalso; omega) | (intro h1; have h2 : _ ≤ _ := h1; exfalso; omega) | (intros; exfalso; (try dsimp only at *); omega) | (intro b h1 h2 h3; exfalso; have h4 := h3.2; (try dsimp only at *); omega) | (intro h1; exfalso; have h4 := h1.2; (try dsimp only at *); omega) | (intro x h1 h2; exfalso; have h4 := h2.2; (try dsimp only at *); omega) | (intro x h1 h2; exact ⟨_, rfl, h2⟩) | (intro x h1 h2; have h4 := h2.1; have h5 := h2.2; exfalso; omega) | (intro x h1 h2; exact h2.1) | (intro x h1 h2; rcases h2.1 with h3 | h3; exact h3; exfalso; omega) | (intro x h1 h2; rcases h2 with h3 | h3; exact h3; exfalso; omega))
  replace hb_1 := hn_2
  refine WL.nil (WX.then_normal (WC.seq (WC.region (WL.move rfl rfl (WL.len Try.underlying22 rfl rfl (WL.move rfl rfl (WL.nil (?_))))))))
  refine WX.then_normal (WC.block (?_))
  replace hO := (hO.pure k_1).chg k_2 ⟨by omega, fun j g hg => by have := lgs j g hg; omega⟩
  have hst : Chg (fun x => gf ≤ x) w _ := hw
  replace hb_1 : Blk _ g_1 84 ([wtq 0 i, wtq 1 i, wtq 2 i].map v8) := hb_1
  refine WC.loop (σ := Nat) (fun r => [(0, .pointer (some ⟨gf, 0, none⟩)), (3, .slice ac col.length cc), (8, .pointer (some ⟨g_1, 0, none⟩)), (16, .slice (some ⟨go, 0, none⟩) 3 3), (17, vi 3), (18, vi r)])
    (fun r w' => r ≤ 3 ∧ Blk w' gf 65 FR ∧ Blk w' g_1 84 ([wtq 0 i, wtq 1 i, wtq 2 i].map v8) ∧ OR w' 23 5 go 3 gs n (updR ys col i r) [] ∧ (∀ (j g : Nat), gs[j]? = some g → g < g_1) ∧ RSl (fun b => b < gf) w' eb ac cc col ∧ Chg (fun x => gf ≤ x) w w') (fun r => 3 - r) 0 ⟨rfl, rfl, rfl, rfl, rfl, rfl, trivial⟩ ⟨Nat.zero_le _, hR, hb_1, hO, ?_, hr, hw⟩ ?_
  ·
    clear hR hb_1 hr hw hst
    intro j g hg
    have := lgs j g hg
    omega
  clear hR hb_1 hO hr hw hst
  rintro r w8 ⟨hr3, hR, hb1, hO, hlt, hr, hw⟩
  refine WC.seq (WC.region (?_))
  refine WL.lss? rfl rfl rfl (fun h19 => ?_) (fun h19 => ?_)
  ·
    refine WL.nil (WX.then_normal (WC.seq (WC.cond_true rfl (WC.skip (WX.then_normal (WC.seq (WC.block (?_))))))))
    refine WC.seq (WC.region (WL.move rfl rfl (?_)))
    obtain ⟨g, hgr⟩ : ∃ g, gs[r]? = some g := ⟨_, List.getElem?_eq_getElem (by omega)⟩
    obtain ⟨x, hx0⟩ : ∃ x, ys[r]? = some x := ⟨_, List.getElem?_eq_getElem (by omega)⟩
    have hxr : (updR ys col i r)[r]? = some x := by rw [updR_at ys col i r r (Nat.le_refl _)]; exact hx0
    have hxl : x.length = n := hys x (List.mem_of_getElem? hx0)
    have hgo := hO.above r g hgr
    have hg1 := hlt r g hgr
    refine WL.index (sz := 1) Try.underlying22 Try.sizeOf23 rfl rfl rfl (by omega) rfl ?_
    refine WL.load Try.isAgg23 rfl ((hO.outer.rsl.cellsAt (orows_at hgr hxr)) 0 _ rfl) rfl ?_
    refine WL.assign rfl rfl (WL.assign rfl rfl (WL.nil (WX.then_normal (WC.seq (WC.region (WL.move rfl rfl (WL.len Try.underlying23 rfl rfl (?_))))))))
    refine WL.move rfl rfl (WL.nil (WX.then_normal (WC.block (?_))))
    have hp : Row (fun b => b = g) w8 5 eb (some ⟨g, 0, none⟩) n x := hO.inner r g x hgr hxr
    have hk := Chg.refl (fun b => b = g) w8
    refine WC.loop (σ := Nat) (fun k => [(0, .pointer (some ⟨gf, 0, none⟩)), (3, .slice ac col.length cc), (8, .pointer (some ⟨g_1, 0, none⟩)), (9, vi r), (10, .slice (some ⟨g, 0, none⟩) x.length n), (16, .slice (some ⟨go, 0, none⟩) 3 3), (17, vi 3), (18, vi r), (23, .slice ac col.length cc), (24, vi col.length), (25, vi k)])
      (fun k w' => k ≤ n ∧ Row (fun b => b = g) w' 5 eb (some ⟨g, 0, none⟩) n (addTo' x col (wtq r i) k) ∧ Blk w' gf 65 FR ∧ Blk w' g_1 84 ([wtq 0 i, wtq 1 i, wtq 2 i].map v8) ∧ RSl (fun b => b < gf) w' eb ac cc col ∧ Chg (fun b => b = g) w8 w') (fun k => n - k) 0 ⟨rfl, rfl, rfl, rfl, rfl, rfl, rfl, rfl, rfl, rfl, rfl, trivial⟩ ⟨Nat.zero_le _, by simpa [addTo'] using hp, hR, hb1, hr, hk⟩ ?_
    clear hR hb1 hr hk hp
    rintro k w9 ⟨hkn, hp, hR, hb1, hr, hk⟩
    have hal : (addTo' x col (wtq r i) k).length = n := by rw [addTo'_len (by omega) (by omega)]; exact hxl
    refine WC.seq (WC.region (?_))
    refine WL.lss? rfl rfl rfl (fun h26 => ?_) (fun h26 => ?_)
    ·
      refine WL.nil (WX.then_normal (WC.seq (WC.cond_true rfl (WC.skip (WX.then_normal (WC.seq (WC.block (?_))))))))
      refine WC.seq (WC.region (WL.move rfl rfl (?_)))
      obtain ⟨p, c0, hp0, hc0, fp, fset⟩ := addTo'_at (acc := x) (col := col) (m := wtq r i) (k := k) (by omega) (by omega)
      refine WL.indexT Try.underlying23 Try.sizeOf5 hr rfl rfl ⟨hc0, rfl⟩ rfl ?_
      intro b_3 o_3 hc_3
      refine WL.load Try.isAgg5 rfl (hc_3 0 _ rfl) rfl (WL.assign rfl rfl (WL.assign rfl rfl (WL.nil (WX.then_normal (?_)))))
      have fw := wt_at (i := i) (r := r) (by omega)
      refine WC.draw (fun b => b = g) [0, 1, 2, 4, 5, 6, 7, 8, 9, 11] [3, 10, 12] mixed rfl rfl (fun wd_4 kd_4 zd_4 => ?_)
      have zs_kd_4 := kd_4.size
      replace hp := hp.pure kd_4
      replace hR := hR.pure kd_4
      replace hb1 := hb1.pure kd_4
      replace hr := hr.pure kd_4
      replace hk := hk.pure kd_4
      apply DQ.step (E' := [(10, _)])
      case ho => rfl
      case hs => exact ⟨rfl, trivial⟩
      case hk => rfl
      case h1 =>
        intro wq_6 kq_6
        refine WL.move rfl rfl (?_)
        refine WL.nil ?_
        exact WX.one ⟨rfl, by first | exact Chg.refl _ _ | assumption⟩
      apply DQ.step (E' := [(11, _)])
      case ho => rfl
      case hs => exact ⟨rfl, trivial⟩
      case hk => rfl
      case h1 =>
        intro wq_7 kq_7
        refine WL.move rfl rfl (?_)
        refine WL.nil ?_
        exact WX.one ⟨rfl, by first | exact Chg.refl _ _ | assumption⟩
      apply DQ.step (E' := [(30, _), (31, _)])
      case ho => rfl
      case hs => exact ⟨rfl, rfl, trivial⟩
      case hk => rfl
      case h1 =>
        intro wq_8 kq_8
        have zs_kq_8 := kq_8.size
        replace hR := hR.chg kq_8 (by first | (intro x h1 h2; exact h2) | (intro x h0 h1 h2; exact hS x h1 h2) | (intro x h0 h1 h2; have h3 : _ = _ := h2; subst h3; exact hSR h1.1) | (intro x h1 h2; have h3 : _ = _ := h2; subst h3; assumption) | (intro x h1 h2; have h3 : _ = _ := h2; exfalso; omega) | (intro b h1 h2 h3; have h4 : _ = _ := h3; (try dsimp only at h2); exfalso; omega) | (intro h1; have h2 : _ = _ := h1; exfalso; omega) | (intro h1; have h2 : _ ≤ _ := h1; exfalso; omega) | (intros; exfalso; (try dsimp only at *); omega) | (intro b h1 h2 h3; exfalso; have h4 := h3.2; (try dsimp only at *); omega) | (intro h1; exfalso; have h4 := h1.2; (try dsimp only at *); omega) | (intro x h1 h2; exfalso; have h4 := h2.2; (try dsimp only at *); omega) | (intro x h1 h2; exact ⟨_, rfl, h2⟩) | (intro x h1 h2; have h4 := h2.1; have h5 := h2.2; exfalso; omega) | (intro x h1 h2; exact h2.1) | (intro x h1 h2; rcases h2.1 with h3 | h3; exact h3; exfalso; omega) | (intro x h1 h2; rcases h2 with h3 | h3; exact h3; exfalso; omega))
        replace hb1 := hb1.chg kq_8 (by first | (intro x h1 h2; exact h2) | (intro x h0 h1 h2; exact hS x h1 h2) | (intro x h0 h1 h2; have h3 : _ = _ := h2; subst h3; exact hSR h1.1) | (intro x h1 h2; have h3 : _ = _ := h2; subst h3; assumption) | (intro x h1 h2; have h3 : _ = _ := h2; exfalso; omega) | (intro b h1 h2 h3; have h4 : _ = _ := h3; (try dsimp only at h2); exfalso; omega) | (intro h1; have h2 : _ = _ := h1; exfalso; omega) | (intro h1; have h2 : _ ≤ _ := h1; exfalso; omega) | (intros; exfalso; (try dsimp only at *); omega) | (intro b h1 h2 h3; exfalso; have h4 := h3.2; (try dsimp only at *); omega) | (intro h1; exfalso; have h4 := h1.2; (try dsimp only at *); omega) | (intro x h1 h2; exfalso; have h4 := h2.2; (try dsimp only at *); omega) | (intro x h1 h2; exact ⟨_, rfl, h2⟩) | (intro x h1 h2; have h4 := h2.1; have h5 := h2.2; exfalso; omega) | (intro x h1 h2; exact h2.1) | (intro x h1 h2; rcases h2.1 with h3 | h3; exact h3; exfalso; omega) | (intro x h1 h2; rcases h2 with h3 | h3; exact h3; exfalso; omega))
        replace hr := hr.chg kq_8 (by first | (intro x h1 h2; exact h2) | (intro x h0 h1 h2; exact hS x h1 h2) | (intro x h0 h1 h2; have h3 : _ = _ := h2; subst h3; exact hSR h1.1) | (intro x h1 h2; have h3 : _ = _ := h2; subst h3; assumption) | (intro x h1 h2; have h3 : _ = _ := h2; exfalso; omega) | (intro b h1 h2 h3; have h4 : _ = _ := h3; (try dsimp only at h2); exfalso; omega) | (intro h1; have h2 : _ = _ := h1; exfalso; omega) | (intro h1; have h2 : _ ≤ _ := h1; exfalso; omega) | (intros; exfalso; (try dsimp only at *); omega) | (intro b h1 h2 h3; exfalso; have h4 := h3.2; (try dsimp only at *); omega) | (intro h1; exfalso; have h4 := h1.2; (try dsimp only at *); omega) | (intro x h1 h2; exfalso; have h4 := h2.2; (try dsimp only at *); omega) | (intro x h1 h2; exact ⟨_, rfl, h2⟩) | (intro x h1 h2; have h4 := h2.1; have h5 := h2.2; exfalso; omega) | (intro x h1 h2; exact h2.1) | (intro x h1 h2; rcases h2.1 with h3 | h3; exact h3; exfalso; omega) | (intro x h1 h2; rcases h2 with h3 | h3; exact h3; exfalso; omega))
        refine WL.index (sz := 1) Try.underlying23 Try.sizeOf5 rfl rfl rfl (by omega) rfl ?_
        refine WL.nil ?_
        exact WX.one ⟨rfl, by first | exact Chg.refl _ _ | assumption⟩
      apply DQ.step (E' := [(0, _)])
      case ho => rfl
      case hs => exact ⟨rfl, trivial⟩
      case hk => rfl
      case h1 =>
        intro wq_9 kq_9
        refine WL.move rfl rfl (?_)
        refine WL.nil ?_
        exact WX.one ⟨rfl, by first | exact Chg.refl _ _ | assumption⟩
      apply DQ.step (E' := [(9, _)])
      case ho => rfl
      case hs => exact ⟨rfl, trivial⟩
      case hk => rfl
      case h1 =>
        intro wq_10 kq_10
        refine WL.move rfl rfl (?_)
        refine WL.nil ?_
        exact WX.one ⟨rfl, by first | exact Chg.refl _ _ | assumption⟩
      apply DQ.step (E' := [(8, _), (35, _)])
      case ho => rfl
      case hs => exact ⟨rfl, rfl, trivial⟩
      case hk => rfl
      case h1 =>
        intro wq_11 kq_11
        have zs_kq_11 := kq_11.size
        replace hR := hR.chg kq_11 (by first | (intro x h1 h2; exact h2) | (intro x h0 h1 h2; exact hS x h1 h2) | (intro x h0 h1 h2; have h3 : _ = _ := h2; subst h3; exact hSR h1.1) | (intro x h1 h2; have h3 : _ = _ := h2; subst h3; assumption) | (intro x h1 h2; have h3 : _ = _ := h2; exfalso; omega) | (intro b h1 h2 h3; have h4 : _ = _ := h3; (try dsimp only at h2); exfalso; omega) | (intro h1; have h2 : _ = _ := h1; exfalso; omega) | (intro h1; have h2 : _ ≤ _ := h1; exfalso; omega) | (intros; exfalso; (try dsimp only at *); omega) | (intro b h1 h2 h3; exfalso; have h4 := h3.2; (try dsimp only at *); omega) | (intro h1; exfalso; have h4 := h1.2; (try dsimp only at *); omega) | (intro x h1 h2; exfalso; have h4 := h2.2; (try dsimp only at *); omega) | (intro x h1 h2; exact ⟨_, rfl, h2⟩) | (intro x h1 h2; have h4 := h2.1; have h5 := h2.2; exfalso; omega) | (intro x h1 h2; exact h2.1) | (intro x h1 h2; rcases h2.1 with h3 | h3; exact h3; exfalso; omega) | (intro x h1 h2; rcases h2 with h3 | h3; exact h3; exfalso; omega))
        replace hb1 := hb1.chg kq_11 (by first | (intro x h1 h2; exact h2) | (intro x h0 h1 h2; exact hS x h1 h2) | (intro x h0 h1 h2; have h3 : _ = _ := h2; subst h3; exact hSR h1.1) | (intro x h1 h2; have h3 : _ = _ := h2; subst h3; assumption) | (intro x h1 h2; have h3 : _ = _ := h2; exfalso; omega) | (intro b h1 h2 h3; have h4 : _ = _ := h3; (try dsimp only at h2); exfalso; omega) | (intro h1; have h2 : _ = _ := h1; exfalso; omega) | (intro h1; have h2 : _ ≤ _ := h1; exfalso; omega) | (intros; exfalso; (try dsimp only at *); omega) | (intro b h1 h2 h3; exfalso; have h4 := h3.2; (try dsimp only at *); omega) | (intro h1; exfalso; have h4 := h1.2; (try dsimp only at *); omega) | (intro x h1 h2; exfalso; have h4 := h2.2; (try dsimp only at *); omega) | (intro x h1 h2; exact ⟨_, rfl, h2⟩) | (intro x h1 h2; have h4 := h2.1; have h5 := h2.2; exfalso; omega) | (intro x h1 h2; exact h2.1) | (intro x h1 h2; rcases h2.1 with h3 | h3; exact h3; exfalso; omega) | (intro x h1 h2; rcases h2 with h3 | h3; exact h3; exfalso; omega))
        replace hr := hr.chg kq_11 (by first | (intro x h1 h2; exact h2) | (intro x h0 h1 h2; exact hS x h1 h2) | (intro x h0 h1 h2; have h3 : _ = _ := h2; subst h3; exact hSR h1.1) | (intro x h1 h2; have h3 : _ = _ := h2; subst h3; assumption) | (intro x h1 h2; have h3 : _ = _ := h2; exfalso; omega) | (intro b h1 h2 h3; have h4 : _ = _ := h3; (try dsimp only at h2); exfalso; omega) | (intro h1; have h2 : _ = _ := h1; exfalso; omega) | (intro h1; have h2 : _ ≤ _ := h1; exfalso; omega) | (intros; exfalso; (try dsimp only at *); omega) | (intro b h1 h2 h3; exfalso; have h4 := h3.2; (try dsimp only at *); omega) | (intro h1; exfalso; have h4 := h1.2; (try dsimp only at *); omega) | (intro x h1 h2; exfalso; have h4 := h2.2; (try dsimp only at *); omega) | (intro x h1 h2; exact ⟨_, rfl, h2⟩) | (intro x h1 h2; have h4 := h2.1; have h5 := h2.2; exfalso; omega) | (intro x h1 h2; exact h2.1) | (intro x h1 h2; rcases h2.1 with h3 | h3; exact h3; exfalso; omega) | (intro x h1 h2; rcases h2 with h3 | h3; exact h3; exfalso; omega))
        refine WL.indexArr (r) Try.underlying84 Try.sizeOf5 rfl rfl ⟨by omega, by omega⟩ rfl ?_
        refine WL.nil ?_
        exact WX.one ⟨rfl, by first | exact Chg.refl _ _ | assumption⟩
      apply DQ.step (E' := [(36, _)])
      case ho => rfl
      case hs => exact ⟨rfl, trivial⟩
      case hk => rfl
      case h1 =>
        intro wq_12 kq_12
        have zs_kq_12 := kq_12.size
        replace hR := hR.chg kq_12 (by first | (intro x h1 h2; exact h2) | (intro x h0 h1 h2; exact hS x h1 h2) | (intro x h0 h1 h2; have h3 : _ = _ := h2; subst h3; exact hSR h1.1) | (intro x h1 h2; have h3 : _ = _ := h2; subst h3; assumption) | (intro x h1 h2; have h3 : _ = _ := h2; exfalso; omega) | (intro b h1 h2 h3; have h4 : _ = _ := h3; (try dsimp only at h2); exfalso; omega) | (intro h1; have h2 : _ = _ := h1; exfalso; omega) | (intro h1; have h2 : _ ≤ _ := h1; exfalso; omega) | (intros; exfalso; (try dsimp only at *); omega) | (intro b h1 h2 h3; exfalso; have h4 := h3.2; (try dsimp only at *); omega) | (intro h1; exfalso; have h4 := h1.2; (try dsimp only at *); omega) | (intro x h1 h2; exfalso; have h4 := h2.2; (try dsimp only at *); omega) | (intro x h1 h2; exact ⟨_, rfl, h2⟩) | (intro x h1 h2; have h4 := h2.1; have h5 := h2.2; exfalso; omega) | (intro x h1 h2; exact h2.1) | (intro x h1 h2; rcases h2.1 with h3 | h3; exact h3; exfalso; omega) | (intro x h1 h2; rcases h2 with h3 | h3; exact h3; exfalso; omega))
        replace hb1 := hb1.chg kq_12 (by first | (intro x h1 h2; exact h2) | (intro x h0 h1 h2; exact hS x h1 h2) | (intro x h0 h1 h2; have h3 : _ = _ := h2; subst h3; exact hSR h1.1) | (intro x h1 h2; have h3 : _ = _ := h2; subst h3; assumption) | (intro x h1 h2; have h3 : _ = _ := h2; exfalso; omega) | (intro b h1 h2 h3; have h4 : _ = _ := h3; (try dsimp only at h2); exfalso; omega) | (intro h1; have h2 : _ = _ := h1; exfalso; omega) | (intro h1; have h2 : _ ≤ _ := h1; exfalso; omega) | (intros; exfalso; (try dsimp only at *); omega) | (intro b h1 h2 h3; exfalso; have h4 := h3.2; (try dsimp only at *); omega) | (intro h1; exfalso; have h4 := h1.2; (try dsimp only at *); omega) | (intro x h1 h2; exfalso; have h4 := h2.2; (try dsimp only at *); omega) | (intro x h1 h2; exact ⟨_, rfl, h2⟩) | (intro x h1 h2; have h4 := h2.1; have h5 := h2.2; exfalso; omega) | (intro x h1 h2; exact h2.1) | (intro x h1 h2; rcases h2.1 with h3 | h3; exact h3; exfalso; omega) | (intro x h1 h2; rcases h2 with h3 | h3; exact h3; exfalso; omega))
        replace hr := hr.chg kq_12 (by first | (intro x h1 h2; exact h2) | (intro x h0 h1 h2; exact hS x h1 h2) | (intro x h0 h1 h2; have h3 : _ = _ := h2; subst h3; exact hSR h1.1) | (intro x h1 h2; have h3 : _ = _ := h2; subst h3; assumption) | (intro x h1 h2; have h3 : _ = _ := h2; exfalso; omega) | (intro b h1 h2 h3; have h4 : _ = _ := h3; (try dsimp only at h2); exfalso; omega) | (intro h1; have h2 : _ = _ := h1; exfalso; omega) | (intro h1; have h2 : _ ≤ _ := h1; exfalso; omega) | (intros; exfalso; (try dsimp only at *); omega) | (intro b h1 h2 h3; exfalso; have h4 := h3.2; (try dsimp only at *); omega) | (intro h1; exfalso; have h4 := h1.2; (try dsimp only at *); omega) | (intro x h1 h2; exfalso; have h4 := h2.2; (try dsimp only at *); omega) | (intro x h1 h2; exact ⟨_, rfl, h2⟩) | (intro x h1 h2; have h4 := h2.1; have h5 := h2.2; exfalso; omega) | (intro x h1 h2; exact h2.1) | (intro x h1 h2; rcases h2.1 with h3 | h3; exact h3; exfalso; omega) | (intro x h1 h2; rcases h2 with h3 | h3; exact h3; exfalso; omega))
        refine WL.loadB Try.isAgg5 hb1 rfl (map_at _ fw) rfl (?_)
        refine WL.nil ?_
        exact WX.one ⟨rfl, by first | exact Chg.refl _ _ | assumption⟩
      apply DQ.step (E' := [(12, _)])
      case ho => rfl
      case hs => exact ⟨rfl, trivial⟩
      case hk => rfl
      case h1 =>
        intro wq_13 kq_13
        refine WL.move rfl rfl (?_)
        refine WL.nil ?_
        exact WX.one ⟨rfl, by first | exact Chg.refl _ _ | assumption⟩
      apply DQ.step (E' := [(34, _), (37, _), (38, _)])
      case ho => rfl
      case hs => exact ⟨rfl, rfl, rfl, trivial⟩
      case hk => rfl
      case h1 =>
        intro wq_14 kq_14
        have zs_kq_14 := kq_14.size
        replace hR := hR.chg kq_14 (by first | (intro x h1 h2; exact h2) | (intro x h0 h1 h2; exact hS x h1 h2) | (intro x h0 h1 h2; have h3 : _ = _ := h2; subst h3; exact hSR h1.1) | (intro x h1 h2; have h3 : _ = _ := h2; subst h3; assumption) | (intro x h1 h2; have h3 : _ = _ := h2; exfalso; omega) | (intro b h1 h2 h3; have h4 : _ = _ := h3; (try dsimp only at h2); exfalso; omega) | (intro h1; have h2 : _ = _ := h1; exfalso; omega) | (intro h1; have h2 : _ ≤ _ := h1; exfalso; omega) | (intros; exfalso; (try dsimp only at *); omega) | (intro b h1 h2 h3; exfalso; have h4 := h3.2; (try dsimp only at *); omega) | (intro h1; exfalso; have h4 := h1.2; (try dsimp only at *); omega) | (intro x h1 h2; exfalso; have h4 := h2.2; (try dsimp only at *); omega) | (intro x h1 h2; exact ⟨_, rfl, h2⟩) | (intro x h1 h2; have h4 := h2.1; have h5 := h2.2; exfalso; omega) | (intro x h1 h2; exact h2.1) | (intro x h1 h2; rcases h2.1 with h3 | h3; exact h3; exfalso; omega) | (intro x h1 h2; rcases h2 with h3 | h3; exact h3; exfalso; omega))
        replace hb1 := hb1.chg kq_14 (by first | (intro x h1 h2; exact h2) | (intro x h0 h1 h2; exact hS x h1 h2) | (intro x h0 h1 h2; have h3 : _ = _ := h2; subst h3; exact hSR h1.1) | (intro x h1 h2; have h3 : _ = _ := h2; subst h3; assumption) | (intro x h1 h2; have h3 : _ = _ := h2; exfalso; omega) | (intro b h1 h2 h3; have h4 : _ = _ := h3; (try dsimp only at h2); exfalso; omega) | (intro h1; have h2 : _ = _ := h1; exfalso; omega) | (intro h1; have h2 : _ ≤ _ := h1; exfalso; omega) | (intros; exfalso; (try dsimp only at *); omega) | (intro b h1 h2 h3; exfalso; have h4 := h3.2; (try dsimp only at *); omega) | (intro h1; exfalso; have h4 := h1.2; (try dsimp only at *); omega) | (intro x h1 h2; exfalso; have h4 := h2.2; (try dsimp only at *); omega) | (intro x h1 h2; exact ⟨_, rfl, h2⟩) | (intro x h1 h2; have h4 := h2.1; have h5 := h2.2; exfalso; omega) | (intro x h1 h2; exact h2.1) | (intro x h1 h2; rcases h2.1 with h3 | h3; exact h3; exfalso; omega) | (intro x h1 h2; rcases h2 with h3 | h3; exact h3; exfalso; omega))
        replace hr := hr.chg kq_14 (by first | (intro x h1 h2; exact h2) | (intro x h0 h1 h2; exact hS x h1 h2) | (intro x h0 h1 h2; have h3 : _ = _ := h2; subst h3; exact hSR h1.1) | (intro x h1 h2; have h3 : _ = _ := h2; subst h3; assumption) | (intro x h1 h2; have h3 : _ = _ := h2; exfalso; omega) | (intro b h1 h2 h3; have h4 : _ = _ := h3; (try dsimp only at h2); exfalso; omega) | (intro h1; have h2 : _ = _ := h1; exfalso; omega) | (intro h1; have h2 : _ ≤ _ := h1; exfalso; omega) | (intros; exfalso; (try dsimp only at *); omega) | (intro b h1 h2 h3; exfalso; have h4 := h3.2; (try dsimp only at *); omega) | (intro h1; exfalso; have h4 := h1.2; (try dsimp only at *); omega) | (intro x h1 h2; exfalso; have h4 := h2.2; (try dsimp only at *); omega) | (intro x h1 h2; exact ⟨_, rfl, h2⟩) | (intro x h1 h2; have h4 := h2.1; have h5 := h2.2; exfalso; omega) | (intro x h1 h2; exact h2.1) | (intro x h1 h2; rcases h2.1 with h3 | h3; exact h3; exfalso; omega) | (intro x h1 h2; rcases h2 with h3 | h3; exact h3; exfalso; omega))
        refine WL.call eg_15 rfl rfl (mulR_calls hR _ _) ?_
        rintro v w4 ⟨rfl, k4⟩
        have zs_k4 := k4.size
        replace hR := hR.pure k4
        replace hb1 := hb1.pure k4
        replace hr := hr.pure k4
        refine WL.nil ?_
        exact WX.one ⟨rfl, by first | exact Chg.refl _ _ | assumption⟩
      apply DQ.step (E' := [(30, _), (31, _)])
      case ho => rfl
      case hs => exact ⟨rfl, rfl, trivial⟩
      case hk => rfl
      case h1 =>
        intro wq_15 kq_15
        have zs_kq_15 := kq_15.size
        replace hR := hR.chg kq_15 (by first | (intro x h1 h2; exact h2) | (intro x h0 h1 h2; exact hS x h1 h2) | (intro x h0 h1 h2; have h3 : _ = _ := h2; subst h3; exact hSR h1.1) | (intro x h1 h2; have h3 : _ = _ := h2; subst h3; assumption) | (intro x h1 h2; have h3 : _ = _ := h2; exfalso; omega) | (intro b h1 h2 h3; have h4 : _ = _ := h3; (try dsimp only at h2); exfalso; omega) | (intro h1; have h2 : _ = _ := h1; exfalso; omega) | (intro h1; have h2 : _ ≤ _ := h1; exfalso; omega) | (intros; exfalso; (try dsimp only at *); omega) | (intro b h1 h2 h3; exfalso; have h4 := h3.2; (try dsimp only at *); omega) | (intro h1; exfalso; have h4 := h1.2; (try dsimp only at *); omega) | (intro x h1 h2; exfalso; have h4 := h2.2; (try dsimp only at *); omega) | (intro x h1 h2; exact ⟨_, rfl, h2⟩) | (intro x h1 h2; have h4 := h2.1; have h5 := h2.2; exfalso; omega) | (intro x h1 h2; exact h2.1) | (intro x h1 h2; rcases h2.1 with h3 | h3; exact h3; exfalso; omega) | (intro x h1 h2; rcases h2 with h3 | h3; exact h3; exfalso; omega))
        replace hb1 := hb1.chg kq_15 (by first | (intro x h1 h2; exact h2) | (intro x h0 h1 h2; exact hS x h1 h2) | (intro x h0 h1 h2; have h3 : _ = _ := h2; subst h3; exact hSR h1.1) | (intro x h1 h2; have h3 : _ = _ := h2; subst h3; assumption) | (intro x h1 h2; have h3 : _ = _ := h2; exfalso; omega) | (intro b h1 h2 h3; have h4 : _ = _ := h3; (try dsimp only at h2); exfalso; omega) | (intro h1; have h2 : _ = _ := h1; exfalso; omega) | (intro h1; have h2 : _ ≤ _ := h1; exfalso; omega) | (intros; exfalso; (try dsimp only at *); omega) | (intro b h1 h2 h3; exfalso; have h4 := h3.2; (try dsimp only at *); omega) | (intro h1; exfalso; have h4 := h1.2; (try dsimp only at *); omega) | (intro x h1 h2; exfalso; have h4 := h2.2; (try dsimp only at *); omega) | (intro x h1 h2; exact ⟨_, rfl, h2⟩) | (intro x h1 h2; have h4 := h2.1; have h5 := h2.2; exfalso; omega) | (intro x h1 h2; exact h2.1) | (intro x h1 h2; rcases h2.1 with h3 | h3; exact h3; exfalso; omega) | (intro x h1 h2; rcases h2 with h3 | h3; exact h3; exfalso; omega))
        replace hr := hr.chg kq_15 (by first | (intro x h1 h2; exact h2) | (intro x h0 h1 h2; exact hS x h1 h2) | (intro x h0 h1 h2; have h3 : _ = _ := h2; subst h3; exact hSR h1.1) | (intro x h1 h2; have h3 : _ = _ := h2; subst h3; assumption) | (intro x h1 h2; have h3 : _ = _ := h2; exfalso; omega) | (intro b h1 h2 h3; have h4 : _ = _ := h3; (try dsimp only at h2); exfalso; omega) | (intro h1; have h2 : _ = _ := h1; exfalso; omega) | (intro h1; have h2 : _ ≤ _ := h1; exfalso; omega) | (intros; exfalso; (try dsimp only at *); omega) | (intro b h1 h2 h3; exfalso; have h4 := h3.2; (try dsimp only at *); omega) | (intro h1; exfalso; have h4 := h1.2; (try dsimp only at *); omega) | (intro x h1 h2; exfalso; have h4 := h2.2; (try dsimp only at *); omega) | (intro x h1 h2; exact ⟨_, rfl, h2⟩) | (intro x h1 h2; have h4 := h2.1; have h5 := h2.2; exfalso; omega) | (intro x h1 h2; exact h2.1) | (intro x h1 h2; rcases h2.1 with h3 | h3; exact h3; exfalso; omega) | (intro x h1 h2; rcases h2 with h3 | h3; exact h3; exfalso; omega))
        refine WL.index (sz := 1) Try.underlying23 Try.sizeOf5 rfl rfl rfl (by omega) rfl ?_
        refine WL.nil ?_
        exact WX.one ⟨rfl, by first | exact Chg.refl _ _ | assumption⟩
      refine DQ.done (fun hd_5 => ?_)
      refine DL.step [(32, _)] rfl ⟨rfl, trivial⟩ rfl (fun wq_16 kq_16 => ?_)
      have zs_kq_16 := kq_16.size
      replace hp := hp.pure kq_16
      replace hR := hR.pure kq_16
      replace hb1 := hb1.pure kq_16
      replace hr := hr.pure kq_16
      replace hk := hk.pure kq_16
      replace hd_5 := hd_5.pure kq_16
      refine WL.load Try.isAgg5 rfl ((hp.rsl.cellsAt fp) 0 _ rfl) rfl ?_
      refine WL.nil ?_
      refine WX.one ⟨hd_5, ?_⟩
      refine DL.step [(33, _), (39, _)] rfl ⟨rfl, rfl, trivial⟩ rfl (fun wq_17 kq_17 => ?_)
      have zs_kq_17 := kq_17.size
      replace hp := hp.pure kq_17
      replace hR := hR.pure kq_17
      replace hb1 := hb1.pure kq_17
      replace hr := hr.pure kq_17
      replace hk := hk.pure kq_17
      replace hd_5 := hd_5.pure kq_17
      refine WL.num rfl rfl (n_xor8 _ _ _ _) rfl (?_)
      refine WL.nil ?_
      refine WX.one ⟨hd_5, ?_⟩
      refine DL.step [(41, _), (40, _)] rfl ⟨rfl, rfl, trivial⟩ rfl (fun wq_18 kq_18 => ?_)
      have zs_kq_18 := kq_18.size
      replace hp := hp.pure kq_18
      replace hR := hR.pure kq_18
      replace hb1 := hb1.pure kq_18
      replace hr := hr.pure kq_18
      replace hk := hk.pure kq_18
      replace hd_5 := hd_5.pure kq_18
      refine WL.storeRow (z := p ^^^ mul (wtq r i) c0) (k) Try.sizeOf5 hp rfl rfl rfl (by first | (simp; done) | (show 0 + _ * 1 = _; omega)) (by omega) rfl ?_
      intro w_19 zs_19 nr_19 k_19
      have zs_k_19 := k_19.size
      replace hR := hR.chg k_19 (by first | (intro x h1 h2; exact h2) | (intro x h0 h1 h2; exact hS x h1 h2) | (intro x h0 h1 h2; have h3 : _ = _ := h2; subst h3; exact hSR h1.1) | (intro x h1 h2; have h3 : _ = _ := h2; subst h3; assumption) | (intro x h1 h2; have h3 : _ = _ := h2; exfalso; omega) | (intro b h1 h2 h3; have h4 : _ = _ := h3; (try dsimp only at h2); exfalso; omega) | (intro h1; have h2 : _ = _ := h1; exfalso; omega) | (intro h1; have h2 : _ ≤ _ := h1; exfalso; omega) | (intros; exfalso; (try dsimp only at *); omega) | (intro b h1 h2 h3; exfalso; have h4 := h3.2; (try dsimp only at *); omega) | (intro h1; exfalso; have h4 := h1.2; (try dsimp only at *); omega) | (intro x h1 h2; exfalso; have h4 := h2.2; (try dsimp only at *); omega) | (intro x h1 h2; exact ⟨_, rfl, h2⟩) | (intro x h1 h2; have h4 := h2.1; have h5 := h2.2; exfalso; omega) | (intro x h1 h2; exact h2.1) | (intro x h1 h2; rcases h2.1 with h3 | h3; exact h3; exfalso; omega) | (intro x h1 h2; rcases h2 with h3 | h3; exact h3; exfalso; omega))
      replace hb1 := hb1.chg k_19 (by first | (intro x h1 h2; exact h2) | (intro x h0 h1 h2; exact hS x h1 h2) | (intro x h0 h1 h2; have h3 : _ = _ := h2; subst h3; exact hSR h1.1) | (intro x h1 h2; have h3 : _ = _ := h2; subst h3; assumption) | (intro x h1 h2; have h3 : _ = _ := h2; exfalso; omega) | (intro b h1 h2 h3; have h4 : _ = _ := h3; (try dsimp only at h2); exfalso; omega) | (intro h1; have h2 : _ = _ := h1; exfalso; omega) | (intro h1; have h2 : _ ≤ _ := h1; exfalso; omega) | (intros; exfalso; (try dsimp only at *); omega) | (intro b h1 h2 h3; exfalso; have h4 := h3.2; (try dsimp only at *); omega) | (intro h1; exfalso; have h4 := h1.2; (try dsimp only at *); omega) | (intro x h1 h2; exfalso; have h4 := h2.2; (try dsimp only at *); omega) | (intro x h1 h2; exact ⟨_, rfl, h2⟩) | (intro x h1 h2; have h4 := h2.1; have h5 := h2.2; exfalso; omega) | (intro x h1 h2; exact h2.1) | (intro x h1 h2; rcases h2.1 with h3 | h3; exact h3; exfalso; omega) | (intro x h1 h2; rcases h2 with h3 | h3; exact h3; exfalso; omega))
      replace hr := hr.chg k_19 (by first | (intro x h1 h2; exact h2) | (intro x h0 h1 h2; exact hS x h1 h2) | (intro x h0 h1 h2; have h3 : _ = _ := h2; subst h3; exact hSR h1.1) | (intro x h1 h2; have h3 : _ = _ := h2; subst h3; assumption) | (intro x h1 h2; have h3 : _ = _ := h2; exfalso; omega) | (intro b h1 h2 h3; have h4 : _ = _ := h3; (try dsimp only at h2); exfalso; omega) | (intro h1; have h2 : _ = _ := h1; exfalso; omega) | (intro h1; have h2 : _ ≤ _ := h1; exfalso; omega) | (intros; exfalso; (try dsimp only at *); omega) | (intro b h1 h2 h3; exfalso; have h4 := h3.2; (try dsimp only at *); omega) | (intro h1; exfalso; have h4 := h1.2; (try dsimp only at *); omega) | (intro x h1 h2; exfalso; have h4 := h2.2; (try dsimp only at *); omega) | (intro x h1 h2; exact ⟨_, rfl, h2⟩) | (intro x h1 h2; have h4 := h2.1; have h5 := h2.2; exfalso; omega) | (intro x h1 h2; exact h2.1) | (intro x h1 h2; rcases h2.1 with h3 | h3; exact h3; exfalso; omega) | (intro x h1 h2; rcases h2 with h3 | h3; exact h3; exfalso; omega))
      replace hk := hk.chg k_19 (by first | (intro x h1 h2; exact h2) | (intro x h0 h1 h2; exact hS x h1 h2) | (intro x h0 h1 h2; have h3 : _ = _ := h2; subst h3; exact hSR h1.1) | (intro x h1 h2; have h3 : _ = _ := h2; subst h3; assumption) | (intro x h1 h2; have h3 : _ = _ := h2; exfalso; omega) | (intro b h1 h2 h3; have h4 : _ = _ := h3; (try dsimp only at h2); exfalso; omega) | (intro h1; have h2 : _ = _ := h1; exfalso; omega) | (intro h1; have h2 : _ ≤ _ := h1; exfalso; omega) | (intros; exfalso; (try dsimp only at *); omega) | (intro b h1 h2 h3; exfalso; have h4 := h3.2; (try dsimp only at *); omega) | (intro h1; exfalso; have h4 := h1.2; (try dsimp only at *); omega) | (intro x h1 h2; exfalso; have h4 := h2.2; (try dsimp only at *); omega) | (intro x h1 h2; exact ⟨_, rfl, h2⟩) | (intro x h1 h2; have h4 := h2.1; have h5 := h2.2; exfalso; omega) | (intro x h1 h2; exact h2.1) | (intro x h1 h2; rcases h2.1 with h3 | h3; exact h3; exfalso; omega) | (intro x h1 h2; rcases h2 with h3 | h3; exact h3; exfalso; omega))
      replace hd_5 := hd_5.chg k_19 (by first | (intro x h1 h2; exact h2) | (intro x h0 h1 h2; exact hS x h1 h2) | (intro x h0 h1 h2; have h3 : _ = _ := h2; subst h3; exact hSR h1.1) | (intro x h1 h2; have h3 : _ = _ := h2; subst h3; assumption) | (intro x h1 h2; have h3 : _ = _ := h2; exfalso; omega) | (intro b h1 h2 h3; have h4 : _ = _ := h3; (try dsimp only at h2); exfalso; omega) | (intro h1; have h2 : _ = _ := h1; exfalso; omega) | (intro h1; have h2 : _ ≤ _ := h1; exfalso; omega) | (intros; exfalso; (try dsimp only at *); omega) | (intro b h1 h2 h3; exfalso; have h4 := h3.2; (try dsimp only at *); omega) | (intro h1; exfalso; have h4 := h1.2; (try dsimp only at *); omega) | (intro x h1 h2; exfalso; have h4 := h2.2; (try dsimp only at *); omega) | (intro x h1 h2; exact ⟨_, rfl, h2⟩) | (intro x h1 h2; have h4 := h2.1; have h5 := h2.2; exfalso; omega) | (intro x h1 h2; exact h2.1) | (intro x h1 h2; rcases h2.1 with h3 | h3; exact h3; exfalso; omega) | (intro x h1 h2; rcases h2 with h3 | h3; exact h3; exfalso; omega))
      replace hp := nr_19
      rw [fset] at hp
      refine WL.nil ?_
      refine WX.one0 (v := undef) ⟨hd_5, ?_⟩
      refine DL.done (fun we_20 ke_20 => ?_)
      have zs_ke_20 := ke_20.size
      replace hp := hp.pure ke_20
      replace hR := hR.pure ke_20
      replace hb1 := hb1.pure ke_20
      replace hr := hr.pure ke_20
      replace hk := hk.pure ke_20
      replace hd_5 := hd_5.pure ke_20
      refine WX.block_normal (WX.then_normal (WC.region (WL.add64 rfl rfl (by first | omega | (constructor <;> omega)) rfl (WL.move rfl rfl (WL.nil (?_))))))
      first
        | (refine WX.loop_next (k + 1) ⟨rfl, rfl, rfl, rfl, rfl, rfl, rfl, rfl, rfl, rfl, rfl, trivial⟩ ⟨by omega, hp, hR, hb1, hr, hk⟩ (by show _ - _ < _ - _; omega))
        | (have hkn2 : k = x.length := by omega
           subst hkn2
           rw [addTo'_end (by omega)] at hp
           have hO2 := hO.upd hgr hxr (addRow_len (by omega)) hk ⟨by omega, fun j g' hj hne e => hne (hO.apart j r g' hj (by rw [e]; exact hgr))⟩ hp
           have hw2 := hw.chg hk (fun x _ h => by have h3 : _ = _ := h; omega)
           refine WX.loop_next (r + 1) ⟨rfl, rfl, rfl, rfl, rfl, rfl, trivial⟩ ⟨by omega, hR, hb1, ?_, hlt, hr, hw2⟩ (by show _ - _ < _ - _; omega)
           rw [updR, show ys.getD r [] = x from by rw [List.getD_eq_getElem?_getD, hx0]; rfl]
           exact hO2)
    ·
      refine WL.nil (WX.then_normal (WC.seq (WC.cond_false rfl (WC.exit (WX.then_exit (WX.then_exit (WX.block_here (?_))))))))
      refine WX.block_normal (WX.then_normal (WC.region (WL.add64 rfl rfl (by first | omega | (constructor <;> omega)) rfl (WL.move rfl rfl (WL.nil (?_))))))
      first
        | (refine WX.loop_next (k + 1) ⟨rfl, rfl, rfl, rfl, rfl, rfl, rfl, rfl, rfl, rfl, rfl, trivial⟩ ⟨by omega, hp, hR, hb1, hr, hk⟩ (by show _ - _ < _ - _; omega))
        | (have hkn2 : k = x.length := by omega
           subst hkn2
           rw [addTo'_end (by omega)] at hp
           have hO2 := hO.upd hgr hxr (addRow_len (by omega)) hk ⟨by omega, fun j g' hj hne e => hne (hO.apart j r g' hj (by rw [e]; exact hgr))⟩ hp
           have hw2 := hw.chg hk (fun x _ h => by have h3 : _ = _ := h; omega)
           refine WX.loop_next (r + 1) ⟨rfl, rfl, rfl, rfl, rfl, rfl, trivial⟩ ⟨by omega, hR, hb1, ?_, hlt, hr, hw2⟩ (by show _ - _ < _ - _; omega)
           rw [updR, show ys.getD r [] = x from by rw [List.getD_eq_getElem?_getD, hx0]; rfl]
           exact hO2)
  ·
    refine WL.nil (WX.then_normal (WC.seq (WC.cond_false rfl (WC.exit (WX.then_exit (WX.then_exit (WX.block_here (?_))))))))
    refine WX.ret0 (.inr rfl) Try.results51 ?_
    have h3 : r = 3 := by omega
    subst h3
    exact ⟨_, rfl, rfl, hR, hO, hw⟩
end Go.Proofs.Ytjdbjdgobhjbkaa
namespace Go.Proofs.Ytjdbjdgobhjbkaa
open Go.RowKit Go.HL

def nilRw : Rw := ⟨none, 0, []⟩
set_option maxHeartbeats 4000000 in
theorem sums_calls {w : World} {gf n : Nat} {ac : Option Addr} {cc : Nat} {rs : List Rw} (hF : Fld w gf) (hc : RS (fun b => b < gf) w ac cc rs) (hn : n ≤ 4096) (hl : rs.length ≤ 13) (hall : ∀ d ∈ xss rs, d.length = n) :
    Calls Try.prog 42 [.pointer (some ⟨gf, 0, none⟩), .slice ac rs.length cc, vi n, .slice none 0 0].toArray w (Ret fun v w' => (∃ (go : Nat) (gs : List Nat), v = .slice (some ⟨go, 0, none⟩) 3 3 ∧ OR w' 23 5 go 3 gs n (three (xss rs) n rs.length) [] ∧ gs.length = 3 ∧ w.heap.size ≤ go) ∧ Chg (fun x => gf ≤ x) w w') := by
  have hw := Chg.refl (fun x => x = gf) w
  have lgf := hF.lt
  refine Calls.of_WC Try.func42 rfl Try.ntmps42 (by simp) ?_
  refine WC.seq (WC.region (WL.assign rfl rfl (WL.nil (WX.then_normal (WC.seq (WC.region (?_)))))))
  refine WL.make (e := erow) nilRw 3 3 Try.underlying22 info_23 rfl rfl rfl ⟨rfl, rfl, by decide⟩ (by decide) rfl ?_
  intro go wq hq kq zq ego
  rw [show (List.replicate 3 nilRw).length = 3 from rfl]
  have zs_kq := kq.size
  replace hF := hF.pure kq
  replace hc := hc.pure kq
  replace hw := hw.pure kq
  refine WL.assign rfl rfl (WL.nil (WX.then_normal (WC.seq (WC.seq (WC.region (WL.move rfl rfl (WL.len Try.underlying22 rfl rfl (?_))))))))
  refine WL.move rfl rfl (WL.nil (WX.then_normal (WC.block (?_))))
  have lgo : gf < go := by omega
  have hq0 : Row (fun b => b = go) wq 23 erow (some ⟨go, 0, none⟩) 3 (List.replicate 3 nilRw) := ⟨fun a ea => by injection ea with ea; subst ea; rfl, hq.own⟩
  have hO0 : OR wq 23 5 go 3 [] n [] (List.replicate 3 nilRw) := ⟨hq0, fun i g x h => by simp at h, rfl, fun i j g h => by simp at h, fun i g h => by simp at h⟩
  have hwg : w.heap.size ≤ go := by omega
  refine WC.loop (σ := List Nat) (fun gs => [(0, .pointer (some ⟨gf, 0, none⟩)), (1, .slice ac rs.length cc), (2, vi n), (3, .slice none 0 0), (9, .slice (some ⟨go, 0, none⟩) 3 3), (15, vi 3), (16, vi gs.length)])
    (fun gs w' => gs.length ≤ 3 ∧ OR w' 23 5 go 3 gs n (List.replicate gs.length (List.replicate n 0)) (List.replicate (3 - gs.length) nilRw) ∧ Fld w' gf ∧ RS (fun b => b < gf) w' ac cc rs ∧ Chg (fun x => x = gf) w w') (fun gs => 3 - gs.length) [] ⟨rfl, rfl, rfl, rfl, rfl, rfl, rfl, trivial⟩ ⟨by decide, hO0, hF, hc, hw⟩ ?_
  clear hF hc hw hq hq0 hO0
  rintro gs w8 ⟨hg3, hO, hF, hc, hw⟩
  refine WC.seq (WC.region (?_))
  refine WL.lss? rfl rfl rfl (fun h17 => ?_) (fun h17 => ?_)
  ·
    refine WL.nil (WX.then_normal (WC.seq (WC.cond_true rfl (WC.skip (WX.then_normal (WC.seq (WC.block (?_))))))))
    refine WC.seq (WC.region (WL.move rfl rfl (WL.assign rfl rfl (WL.nil (WX.then_normal (WC.region (WL.move rfl rfl (?_))))))))
    refine WL.move rfl rfl (WL.move rfl rfl (?_))
    have lgs : ∀ (j g : Nat), gs[j]? = some g → g < w8.heap.size := fun j g h => hO.lt h
    have lgo8 := hO.lto
    refine WL.make (e := eb) (0 : UInt8) n n Try.underlying23 info_5 rfl rfl rfl ⟨rfl, rfl, Nat.le_refl _⟩ (by constructor <;> omega) rfl ?_
    intro g w9 hg9 k9 z9 eg
    rw [List.length_replicate]
    replace hO := hO.pure k9
    have hgr : Row (fun b => b = g) w9 5 eb (some ⟨g, 0, none⟩) n (List.replicate n 0) := ⟨fun a ea => by injection ea with ea; subst ea; rfl, hg9.own⟩
    obtain ⟨tl, htl⟩ : ∃ tl, List.replicate (3 - gs.length) nilRw = nilRw :: tl ∧ tl = List.replicate (3 - (gs.length + 1)) nilRw := ⟨_, by rw [show 3 - gs.length = (3 - (gs.length + 1)) + 1 from by omega, List.replicate_succ], rfl⟩
    rw [htl.1] at hO
    have hol : (orows gs n (List.replicate gs.length (List.replicate n 0)) ++ nilRw :: tl).length = 3 := by
      rw [List.length_append, orows_len (by rw [List.length_replicate]), htl.2, List.length_cons, List.length_replicate]
      omega
    have zs_k9 := k9.size
    replace hF := hF.pure k9
    replace hc := hc.pure k9
    replace hw := hw.pure k9
    refine WL.index (sz := 1) Try.underlying22 Try.sizeOf23 rfl rfl rfl (by omega) rfl ?_
    refine WL.storeRow (z := ⟨some ⟨g, 0, none⟩, n, List.replicate n 0⟩) gs.length Try.sizeOf23 hO.outer rfl (by show [Value.slice (some ⟨g, 0, none⟩) (List.replicate n 0).length n] = _; rw [List.length_replicate]) rfl (by show 0 + _ * 1 = _; omega) (by omega) rfl ?_
    intro w4 zs4 ho4 k4
    have zs_k4 := k4.size
    replace hF := hF.chg k4 (by first | (intro x h1 h2; exact h2) | (intro x h0 h1 h2; exact hS x h1 h2) | (intro x h0 h1 h2; have h3 : _ = _ := h2; subst h3; exact hSR h1.1) | (intro x h1 h2; have h3 : _ = _ := h2; subst h3; assumption) | (intro x h1 h2; have h3 : _ = _ := h2; exfalso; omega) | (intro b h1 h2 h3; have h4 : _ = _ := h3; (try dsimp only at h2); exfalso; omega) | (intro h1; have h2 : _ = _ := h1; exfalso; omega) | (intro h1; have h2 : _ ≤ _ := h1; exfalso; omega) | (intros; exfalso; (try dsimp only at *); omega) | (intro b h1 h2 h3; exfalso; have h4 := h3.2; (try dsimp only at *); omega) | (intro h1; exfalso; have h4 := h1.2; (try dsimp only at *); omega) | (intro x h1 h2; exfalso; have h4 := h2.2; (try dsimp only at *); omega) | (intro x h1 h2; exact ⟨_, rfl, h2⟩) | (intro x h1 h2; have h4 := h2.1; have h5 := h2.2; exfalso; omega) | (intro x h1 h2; exact h2.1) | (intro x h1 h2; rcases h2.1 with h3 | h3; exact h3; exfalso; omega) | (intro x h1 h2; rcases h2 with h3 | h3; exact h3; exfalso; omega))
    replace hc := hc.chg k4 (by first | (intro x h1 h2; exact h2) | (intro x h0 h1 h2; exact hS x h1 h2) | (intro x h0 h1 h2; have h3 : _ = _ := h2; subst h3; exact hSR h1.1) | (intro x h1 h2; have h3 : _ = _ := h2; subst h3; assumption) | (intro x h1 h2; have h3 : _ = _ := h2; exfalso; omega) | (intro b h1 h2 h3; have h4 : _ = _ := h3; (try dsimp only at h2); exfalso; omega) | (intro h1; have h2 : _ = _ := h1; exfalso; omega) | (intro h1; have h2 : _ ≤ _ := h1; exfalso; omega) | (intros; exfalso; (try dsimp only at *); omega) | (intro b h1 h2 h3; exfalso; have h4 := h3.2; (try dsimp only at *); omega) | (intro h1; exfalso; have h4 := h1.2; (try dsimp only at *); omega) | (intro x h1 h2; exfalso; have h4 := h2.2; (try dsimp only at *); omega) | (intro x h1 h2; exact ⟨_, rfl, h2⟩) | (intro x h1 h2; have h4 := h2.1; have h5 := h2.2; exfalso; omega) | (intro x h1 h2; exact h2.1) | (intro x h1 h2; rcases h2.1 with h3 | h3; exact h3; exfalso; omega) | (intro x h1 h2; rcases h2 with h3 | h3; exact h3; exfalso; omega))
    replace hw := hw.chg k4 (by first | (intro x h1 h2; exact h2) | (intro x h0 h1 h2; exact hS x h1 h2) | (intro x h0 h1 h2; have h3 : _ = _ := h2; subst h3; exact hSR h1.1) | (intro x h1 h2; have h3 : _ = _ := h2; subst h3; assumption) | (intro x h1 h2; have h3 : _ = _ := h2; exfalso; omega) | (intro b h1 h2 h3; have h4 : _ = _ := h3; (try dsimp only at h2); exfalso; omega) | (intro h1; have h2 : _ = _ := h1; exfalso; omega) | (intro h1; have h2 : _ ≤ _ := h1; exfalso; omega) | (intros; exfalso; (try dsimp only at *); omega) | (intro b h1 h2 h3; exfalso; have h4 := h3.2; (try dsimp only at *); omega) | (intro h1; exfalso; have h4 := h1.2; (try dsimp only at *); omega) | (intro x h1 h2; exfalso; have h4 := h2.2; (try dsimp only at *); omega) | (intro x h1 h2; exact ⟨_, rfl, h2⟩) | (intro x h1 h2; have h4 := h2.1; have h5 := h2.2; exfalso; omega) | (intro x h1 h2; exact h2.1) | (intro x h1 h2; rcases h2.1 with h3 | h3; exact h3; exfalso; omega) | (intro x h1 h2; rcases h2 with h3 | h3; exact h3; exfalso; omega))
    have hO2 := hO.snoc (g := g) (x := List.replicate n 0) (by omega) (fun i g' h => by have := lgs i g' h; omega) k4 (fun i g' h e => by have h2 : g' = go := e; have := hO.above i g' h; omega) ho4 (hgr.chg k4 (fun b h1 h2 h3 => by have h4 : b = go := h3; have h5 : b = g := h2; omega))
    refine WL.nil (WX.block_normal (WX.then_normal (WC.region (WL.add64 rfl rfl (by first | omega | (constructor <;> omega)) rfl (WL.move rfl rfl (WL.nil (?_)))))))
    first
      | (refine WX.loop_next (gs ++ [g]) ⟨rfl, rfl, rfl, rfl, rfl, rfl, ?_, trivial⟩ ⟨by rw [List.length_append]; show gs.length + 1 ≤ 3; omega, ?_, hF, hc, hw⟩ (by rw [List.length_append]; show 3 - (gs.length + 1) < 3 - gs.length; omega)
         ·
           rw [List.length_append]
           rfl
         ·
           rw [List.length_append, show gs.length + [g].length = gs.length + 1 from rfl, ← htl.2, List.replicate_succ']
           exact hO2)
      | exact WX.loop_next (i + 1) ⟨rfl, rfl, rfl, rfl, rfl, rfl, trivial⟩ ⟨by omega, hF, hO, hc, hk⟩ (by show _ - _ < _ - _; omega)
  ·
    refine WL.nil (WX.then_normal (WC.seq (WC.cond_false rfl (WC.exit (WX.then_exit (WX.then_exit (WX.block_here (?_))))))))
    refine WX.then_normal (WC.seq (WC.seq (WC.region (WL.move rfl rfl (WL.len Try.underlying22 rfl rfl (WL.move rfl rfl (WL.nil (?_))))))))
    refine WX.then_normal (WC.block (?_))
    have hgs3 : gs.length = 3 := by omega
    rw [hgs3] at hO
    have hO1 : OR w8 23 5 go 3 gs n (three (xss rs) n 0) [] := hO
    refine WC.loop (σ := Nat) (fun i => [(0, .pointer (some ⟨gf, 0, none⟩)), (3, .slice none 0 0), (9, .slice (some ⟨go, 0, none⟩) 3 3), (25, .slice ac rs.length cc), (26, vi rs.length), (27, vi i)])
      (fun i w' => i ≤ rs.length ∧ Fld w' gf ∧ OR w' 23 5 go 3 gs n (three (xss rs) n i) [] ∧ RS (fun b => b < gf) w' ac cc rs ∧ Chg (fun x => gf ≤ x) w8 w') (fun i => rs.length - i) 0 ⟨rfl, rfl, rfl, rfl, rfl, rfl, trivial⟩ ⟨Nat.zero_le _, hF, hO1, hc, Chg.refl _ _⟩ ?_
    clear hO hO1 hF hc
    rintro i w7 ⟨hi, hF, hO, hc, hk⟩
    refine WC.seq (WC.region (?_))
    refine WL.lss? rfl rfl rfl (fun h28 => ?_) (fun h28 => ?_)
    ·
      refine WL.nil (WX.then_normal (WC.seq (WC.cond_true rfl (WC.skip (WX.then_normal (WC.seq (WC.block (?_))))))))
      refine WC.seq (WC.region (WL.move rfl rfl (?_)))
      obtain ⟨r, hr⟩ : ∃ r, rs[i]? = some r := ⟨_, List.getElem?_eq_getElem (by omega)⟩
      have hrl := hall _ (xss_mem hr)
      have hcr := hc.at hr
      have hget : (xss rs).getD i [] = r.xs := by rw [List.getD_eq_getElem?_getD, xss, List.getElem?_map, hr]; rfl
      refine WL.indexT Try.underlying22 Try.sizeOf23 hc.outer rfl rfl ⟨hr, rfl⟩ rfl ?_
      intro b_1 o_1 hc_1
      refine WL.load Try.isAgg23 rfl (hc_1 0 _ rfl) rfl (WL.assign rfl rfl (WL.assign rfl rfl (WL.nil (WX.then_normal (WC.seq (WC.region (WL.move rfl rfl (?_))))))))
      refine WL.move rfl rfl (?_)
      refine WL.call eg_39 rfl rfl (contains_calls (RSl.nil (fun _ => True) _ ei none 0) (by decide) _) ?_
      rintro v w3 ⟨rfl, k⟩
      rw [show decide ((i : Int) ∈ ([] : List Int)) = false from rfl]
      have zs_k := k.size
      replace hF := hF.pure k
      replace hO := hO.pure k
      replace hc := hc.pure k
      replace hk := hk.pure k
      replace hcr := hcr.pure k
      refine WL.not rfl rfl (WL.nil (WX.then_normal (WC.cond_true rfl (WC.region (WL.move rfl rfl (WL.move rfl rfl (WL.move rfl rfl (?_))))))))
      refine WL.move rfl rfl (?_)
      have hl3 : ∀ y ∈ three (xss rs) n i, y.length = n := by
        have hp : ∀ q, (prow (wtq q) (xss rs) n i).length = n := fun q => prow_len hall (by rw [xss, List.length_map]; omega)
        intro y hy
        simp only [three, List.mem_cons, List.not_mem_nil, or_false] at hy
        rcases hy with rfl | rfl | rfl <;> exact hp _
      refine WL.call eg_51 rfl rfl (add_calls hF hO hgs3 hl3 hcr hrl lgo i hn) ?_
      rintro v w4 ⟨rfl, hR, hO2, k⟩
      rw [← hget, three_next] at hO2
      have zs_k := k.size
      replace hc := hc.chg k (by first | (intro x h1 h2; exact h2) | (intro x h0 h1 h2; exact hS x h1 h2) | (intro x h0 h1 h2; have h3 : _ = _ := h2; subst h3; exact hSR h1.1) | (intro x h1 h2; have h3 : _ = _ := h2; subst h3; assumption) | (intro x h1 h2; have h3 : _ = _ := h2; exfalso; omega) | (intro b h1 h2 h3; have h4 : _ = _ := h3; (try dsimp only at h2); exfalso; omega) | (intro h1; have h2 : _ = _ := h1; exfalso; omega) | (intro h1; have h2 : _ ≤ _ := h1; exfalso; omega) | (intros; exfalso; (try dsimp only at *); omega) | (intro b h1 h2 h3; exfalso; have h4 := h3.2; (try dsimp only at *); omega) | (intro h1; exfalso; have h4 := h1.2; (try dsimp only at *); omega) | (intro x h1 h2; exfalso; have h4 := h2.2; (try dsimp only at *); omega) | (intro x h1 h2; exact ⟨_, rfl, h2⟩) | (intro x h1 h2; have h4 := h2.1; have h5 := h2.2; exfalso; omega) | (intro x h1 h2; exact h2.1) | (intro x h1 h2; rcases h2.1 with h3 | h3; exact h3; exfalso; omega) | (intro x h1 h2; rcases h2 with h3 | h3; exact h3; exfalso; omega))
      replace hk := hk.chg k (fun x _ h => h)
      replace hF : Fld w4 gf := .inr hR
      replace hO := hO2
      refine WL.nil (WX.block_normal (WX.then_normal (WC.region (WL.add64 rfl rfl (by first | omega | (constructor <;> omega)) rfl (WL.move rfl rfl (WL.nil (?_)))))))
      first
        | (refine WX.loop_next (gs ++ [g]) ⟨rfl, rfl, rfl, rfl, rfl, rfl, ?_, trivial⟩ ⟨by rw [List.length_append]; show gs.length + 1 ≤ 3; omega, ?_, hF, hc, hw⟩ (by rw [List.length_append]; show 3 - (gs.length + 1) < 3 - gs.length; omega)
           ·
             rw [List.length_append]
             rfl
           ·
             rw [List.length_append, show gs.length + [g].length = gs.length + 1 from rfl, ← htl.2, List.replicate_succ']
             exact hO2)
        | exact WX.loop_next (i + 1) ⟨rfl, rfl, rfl, rfl, rfl, rfl, trivial⟩ ⟨by omega, hF, hO, hc, hk⟩ (by show _ - _ < _ - _; omega)
    ·
      refine WL.nil (WX.then_normal (WC.seq (WC.cond_false rfl (WC.exit (WX.then_exit (WX.then_exit (WX.block_here (?_))))))))
      refine WX.then_normal (WC.seq (WC.region (WL.move rfl rfl (WL.assign rfl rfl (WL.nil (WX.then_normal (WC.ret (?_))))))))
      refine WX.ret1 (.inl rfl) Try.results42 rfl ?_
      have hil : i = rs.length := by omega
      subst hil
      refine ⟨_, rfl, ⟨go, gs, rfl, hO, hgs3, hwg⟩, ?_⟩
      exact (hw.mono (M' := fun x => gf ≤ x) (fun x _ h => by have h2 : x = gf := h; omega)).chg hk (fun x h1 h2 => h2)
/-- the three parities of columns -/
theorem make_good {S : Nat → Prop} {w : World} {ac : Option Addr} {cc : Nat} {rs : List Rw} {n : Nat} (hc : RS S w ac cc rs) (h13 : rs.length ≤ 13) (hn : lenC (xss rs) = (n : Int)) :
    Calls Try.prog 21 [.slice ac rs.length cc].toArray w (Ret fun v w' => (∃ (go : Nat) (gs : List Nat), v = .tuple #[.slice (some ⟨go, 0, none⟩) 3 3, vi 0] ∧ OR w' 23 5 go 3 gs n (three (xss rs) n rs.length) [] ∧ gs.length = 3 ∧ w.heap.size ≤ go) ∧ Chg Nob w w') := by
  replace hc := hc.old
  have hw := Chg.refl Nob w
  obtain ⟨m, hm, hm1, hm2, hne, hall⟩ := lenC_some (cols := xss rs) (by omega)
  have hmn : m = n := by omega
  subst hmn
  refine Calls.of_WC Try.func21 rfl Try.ntmps21 (by simp) ?_
  refine WC.seq (WC.region (WL.assign rfl rfl (WL.assign rfl rfl (WL.nil (WX.then_normal (WC.seq (WC.region (?_))))))))
  refine WL.move rfl rfl (?_)
  refine WL.call eg_43 rfl rfl (length_calls hc (by omega)) ?_
  rintro v w1 ⟨rfl, k⟩
  rw [hm]
  have zs_k := k.size
  replace hc := hc.pure k
  replace hw := hw.pure k
  refine WL.assign rfl rfl (WL.nil (WX.then_normal (WC.seq (WC.seq (WC.region (WL.move rfl rfl (WL.len Try.underlying22 rfl rfl (?_))))))))
  refine WL.gtr rfl rfl rfl ?_
  rw [show decide ((rs.length : Int) > 13) = false from decide_eq_false (by omega)]
  refine WL.move rfl rfl (WL.want rfl rfl rfl (WL.move rfl rfl (WL.want rfl rfl rfl (?_))))
  refine WL.lss rfl rfl rfl ?_
  rw [show decide ((m : Int) < 0) = false from decide_eq_false (by omega)]
  refine WL.pickF rfl rfl rfl (WL.nil (WX.then_normal (WC.cond_false rfl (WC.skip (WX.then_normal (WC.seq (WC.region (?_))))))))
  refine WL.bld rfl bldF rfl ?_
  refine WL.box rfl rfl ?_
  intro g_1 w_1 hge_1 hlt_1 hb_1 k_1
  have zs_k_1 := k_1.size
  replace hc := hc.pure k_1
  replace hw := hw.pure k_1
  refine WL.move rfl rfl (WL.move rfl rfl (?_))
  have hF : Fld w_1 g_1 := .inl hb_1
  have zw0 := hw.size
  have hc2 : RS (fun b => b < g_1) w_1 ac cc rs := hc.mono (fun b hb => by have := k_1.size; omega)
  refine WL.call eg_42 rfl rfl (sums_calls hF hc2 (by omega) h13 hall) ?_
  rintro v w2 ⟨⟨go, gs, rfl, hO, hgs, hgo⟩, k⟩
  have zs_k := k.size
  replace hw := hw.chg k (by first | (intro x h1 h2; exact h2) | (intro x h0 h1 h2; exact hS x h1 h2) | (intro x h0 h1 h2; have h3 : _ = _ := h2; subst h3; exact hSR h1.1) | (intro x h1 h2; have h3 : _ = _ := h2; subst h3; assumption) | (intro x h1 h2; have h3 : _ = _ := h2; exfalso; omega) | (intro b h1 h2 h3; have h4 : _ = _ := h3; (try dsimp only at h2); exfalso; omega) | (intro h1; have h2 : _ = _ := h1; exfalso; omega) | (intro h1; have h2 : _ ≤ _ := h1; exfalso; omega) | (intros; exfalso; (try dsimp only at *); omega) | (intro b h1 h2 h3; exfalso; have h4 := h3.2; (try dsimp only at *); omega) | (intro h1; exfalso; have h4 := h1.2; (try dsimp only at *); omega) | (intro x h1 h2; exfalso; have h4 := h2.2; (try dsimp only at *); omega) | (intro x h1 h2; exact ⟨_, rfl, h2⟩) | (intro x h1 h2; have h4 := h2.1; have h5 := h2.2; exfalso; omega) | (intro x h1 h2; exact h2.1) | (intro x h1 h2; rcases h2.1 with h3 | h3; exact h3; exfalso; omega) | (intro x h1 h2; rcases h2 with h3 | h3; exact h3; exfalso; omega))
  refine WL.assign rfl rfl (WL.assign rfl rfl (WL.nil (WX.then_normal (WC.ret (?_)))))
  refine WX.ret2 (.inl rfl) Try.results21 rfl rfl ?_
  exact ⟨_, rfl, ⟨go, gs, rfl, hO, hgs, by omega⟩, hw⟩
theorem make_bad {S : Nat → Prop} {w : World} {ac : Option Addr} {cc : Nat} {rs : List Rw} (hc : RS S w ac cc rs) (hl : rs.length * 24 ≤ 140737488351232) (h : ¬ (rs.length ≤ 13 ∧ 0 ≤ lenC (xss rs))) :
    Calls Try.prog 21 [.slice ac rs.length cc].toArray w (Ret fun v w' => v = .tuple #[.slice none 0 0, vi 1] ∧ Chg Nob w w') := by
  replace hc := hc.old
  have hw := Chg.refl Nob w
  refine Calls.of_WC Try.func21 rfl Try.ntmps21 (by simp) ?_
  refine WC.seq (WC.region (WL.assign rfl rfl (WL.assign rfl rfl (WL.nil (WX.then_normal (WC.seq (WC.region (?_))))))))
  refine WL.move rfl rfl (?_)
  refine WL.call eg_43 rfl rfl (length_calls hc (by omega)) ?_
  rintro v w1 ⟨rfl, k⟩
  have zs_k := k.size
  replace hc := hc.pure k
  replace hw := hw.pure k
  refine WL.assign rfl rfl (WL.nil (WX.then_normal (WC.seq (WC.seq (WC.region (WL.move rfl rfl (WL.len Try.underlying22 rfl rfl (?_))))))))
  refine WL.gtr? rfl rfl rfl (fun h9 => ?_) (fun h9 => ?_)
  ·
    refine WL.move rfl rfl (WL.pass rfl rfl rfl rfl (WL.pass rfl rfl rfl rfl (WL.pickT rfl rfl rfl (WL.nil (WX.then_normal (WC.cond_true rfl (WC.seq (?_))))))))
    refine WC.region (WL.assign rfl rfl (WL.assign rfl rfl (WL.nil (WX.then_normal (WC.ret (WX.then_ret (?_)))))))
    refine WX.ret2 (.inl rfl) Try.results21 rfl rfl ?_
    exact ⟨_, rfl, rfl, hw⟩
  ·
    refine WL.move rfl rfl (WL.want rfl rfl rfl (WL.move rfl rfl (WL.want rfl rfl rfl (?_))))
    refine WL.lss? rfl rfl rfl (fun h12 => ?_) (fun h12 => ?_)
    ·
      refine WL.pickF rfl rfl rfl (WL.nil (WX.then_normal (WC.cond_true rfl (WC.seq (WC.region (WL.assign rfl rfl (WL.assign rfl rfl (?_))))))))
      refine WL.nil (WX.then_normal (WC.ret (WX.then_ret (?_))))
      refine WX.ret2 (.inl rfl) Try.results21 rfl rfl ?_
      exact ⟨_, rfl, rfl, hw⟩
    ·
      refine WL.pickF rfl rfl rfl (WL.nil (WX.then_normal (WC.cond_false rfl (WC.skip (WX.then_normal (WC.seq (WC.region (?_))))))))
      exfalso
      exact h ⟨by omega, by omega⟩
end Go.Proofs.Ytjdbjdgobhjbkaa
namespace Go.Proofs.Ytjdbjdgobhjbkaa
open Go.RowKit Go.HL

theorem xss_at' {rs : List Rw} {i : Nat} {r : Rw} (h : rs[i]? = some r) : (xss rs)[i]? = some r.xs := by rw [xss, List.getElem?_map, h]; rfl
theorem addRow_zeros {acc : List UInt8} {n : Nat} {m : UInt8} (h : acc.length = n) : addRow acc (List.replicate n 0) m = acc := by
  apply List.ext_getElem?
  intro k
  rcases Nat.lt_or_ge k n with hk | hk
  · have h1 : acc[k]? = some acc[k] := List.getElem?_eq_getElem (by omega)
    have h2 : (List.replicate n (0 : UInt8))[k]? = some 0 := by rw [List.getElem?_replicate, if_pos hk]
    rw [addRow_at h1 h2, h1, mul_zero_r, UInt8.xor_zero]
  · rw [List.getElem?_eq_none (by rw [addRow_len (by rw [List.length_replicate, h])]; omega), List.getElem?_eq_none (by omega)]
/-- a column of noughts may be left out -/
theorem three_skip {cols : List (List UInt8)} {n i : Nat} (hz : cols.getD i [] = List.replicate n 0) (h : ∀ d ∈ cols, d.length = n) (hi : i ≤ cols.length) : three cols n (i + 1) = three cols n i := by
  have hq : ∀ q, prow (wtq q) cols n (i + 1) = prow (wtq q) cols n i := by
    intro q
    rw [prow, hz]
    exact addRow_zeros (prow_len h hi)
  simp only [three, hq]
set_option maxHeartbeats 4000000 in
theorem sums_calls2 {w : World} {gf n : Nat} {ac ab : Option Addr} {cc cb : Nat} {rs : List Rw} {W : List Int} (hF : Fld w gf) (hc : RS (fun b => b < gf) w ac cc rs) (hW : RSl (fun b => b < gf) w ei ab cb W) (hWl : W.length ≤ 140737488351232) (hz : ∀ (i : Nat) (x : List UInt8), (xss rs)[i]? = some x → (i : Int) ∈ W → x = List.replicate n 0) (hn : n ≤ 4096) (hl : rs.length ≤ 13) (hall : ∀ d ∈ xss rs, d.length = n) :
    Calls Try.prog 42 [.pointer (some ⟨gf, 0, none⟩), .slice ac rs.length cc, vi n, .slice ab W.length cb].toArray w (Ret fun v w' => (∃ (go : Nat) (gs : List Nat), v = .slice (some ⟨go, 0, none⟩) 3 3 ∧ OR w' 23 5 go 3 gs n (three (xss rs) n rs.length) [] ∧ gs.length = 3 ∧ w.heap.size ≤ go ∧ Fld w' gf) ∧ Chg (fun x => gf ≤ x) w w') := by
  have hw := Chg.refl (fun x => x = gf) w
  have lgf := hF.lt
  refine Calls.of_WC Try.func42 rfl Try.ntmps42 (by simp) ?_
  refine WC.seq (WC.region (WL.assign rfl rfl (WL.nil (WX.then_normal (WC.seq (WC.region (?_)))))))
  refine WL.make (e := erow) nilRw 3 3 Try.underlying22 info_23 rfl rfl rfl ⟨rfl, rfl, by decide⟩ (by decide) rfl ?_
  intro go wq hq kq zq ego
  rw [show (List.replicate 3 nilRw).length = 3 from rfl]
  have zs_kq := kq.size
  replace hF := hF.pure kq
  replace hc := hc.pure kq
  replace hW := hW.pure kq
  replace hw := hw.pure kq
  refine WL.assign rfl rfl (WL.nil (WX.then_normal (WC.seq (WC.seq (WC.region (WL.move rfl rfl (WL.len Try.underlying22 rfl rfl (?_))))))))
  refine WL.move rfl rfl (WL.nil (WX.then_normal (WC.block (?_))))
  have lgo : gf < go := by omega
  have hq0 : Row (fun b => b = go) wq 23 erow (some ⟨go, 0, none⟩) 3 (List.replicate 3 nilRw) := ⟨fun a ea => by injection ea with ea; subst ea; rfl, hq.own⟩
  have hO0 : OR wq 23 5 go 3 [] n [] (List.replicate 3 nilRw) := ⟨hq0, fun i g x h => by simp at h, rfl, fun i j g h => by simp at h, fun i g h => by simp at h⟩
  have hwg : w.heap.size ≤ go := by omega
  refine WC.loop (σ := List Nat) (fun gs => [(0, .pointer (some ⟨gf, 0, none⟩)), (1, .slice ac rs.length cc), (2, vi n), (3, .slice ab W.length cb), (9, .slice (some ⟨go, 0, none⟩) 3 3), (15, vi 3), (16, vi gs.length)])
    (fun gs w' => gs.length ≤ 3 ∧ OR w' 23 5 go 3 gs n (List.replicate gs.length (List.replicate n 0)) (List.replicate (3 - gs.length) nilRw) ∧ Fld w' gf ∧ RS (fun b => b < gf) w' ac cc rs ∧ RSl (fun b => b < gf) w' ei ab cb W ∧ Chg (fun x => x = gf) w w') (fun gs => 3 - gs.length) [] ⟨rfl, rfl, rfl, rfl, rfl, rfl, rfl, trivial⟩ ⟨by decide, hO0, hF, hc, hW, hw⟩ ?_
  clear hF hc hW hw hq hq0 hO0
  rintro gs w8 ⟨hg3, hO, hF, hc, hW, hw⟩
  refine WC.seq (WC.region (?_))
  refine WL.lss? rfl rfl rfl (fun h17 => ?_) (fun h17 => ?_)
  ·
    refine WL.nil (WX.then_normal (WC.seq (WC.cond_true rfl (WC.skip (WX.then_normal (WC.seq (WC.block (?_))))))))
    refine WC.seq (WC.region (WL.move rfl rfl (WL.assign rfl rfl (WL.nil (WX.then_normal (WC.region (WL.move rfl rfl (?_))))))))
    refine WL.move rfl rfl (WL.move rfl rfl (?_))
    have lgs : ∀ (j g : Nat), gs[j]? = some g → g < w8.heap.size := fun j g h => hO.lt h
    have lgo8 := hO.lto
    refine WL.make (e := eb) (0 : UInt8) n n Try.underlying23 info_5 rfl rfl rfl ⟨rfl, rfl, Nat.le_refl _⟩ (by constructor <;> omega) rfl ?_
    intro g w9 hg9 k9 z9 eg
    rw [List.length_replicate]
    replace hO := hO.pure k9
    have hgr : Row (fun b => b = g) w9 5 eb (some ⟨g, 0, none⟩) n (List.replicate n 0) := ⟨fun a ea => by injection ea with ea; subst ea; rfl, hg9.own⟩
    obtain ⟨tl, htl⟩ : ∃ tl, List.replicate (3 - gs.length) nilRw = nilRw :: tl ∧ tl = List.replicate (3 - (gs.length + 1)) nilRw := ⟨_, by rw [show 3 - gs.length = (3 - (gs.length + 1)) + 1 from by omega, List.replicate_succ], rfl⟩
    rw [htl.1] at hO
    have hol : (orows gs n (List.replicate gs.length (List.replicate n 0)) ++ nilRw :: tl).length = 3 := by
      rw [List.length_append, orows_len (by rw [List.length_replicate]), htl.2, List.length_cons, List.length_replicate]
      omega
    have zs_k9 := k9.size
    replace hF := hF.pure k9
    replace hc := hc.pure k9
    replace hW := hW.pure k9
    replace hw := hw.pure k9
    refine WL.index (sz := 1) Try.underlying22 Try.sizeOf23 rfl rfl rfl (by omega) rfl ?_
    refine WL.storeRow (z := ⟨some ⟨g, 0, none⟩, n, List.replicate n 0⟩) gs.length Try.sizeOf23 hO.outer rfl (by show [Value.slice (some ⟨g, 0, none⟩) (List.replicate n 0).length n] = _; rw [List.length_replicate]) rfl (by show 0 + _ * 1 = _; omega) (by omega) rfl ?_
    intro w4 zs4 ho4 k4
    have zs_k4 := k4.size
    replace hF := hF.chg k4 (by first | (intro x h1 h2; exact h2) | (intro x h0 h1 h2; exact hS x h1 h2) | (intro x h0 h1 h2; have h3 : _ = _ := h2; subst h3; exact hSR h1.1) | (intro x h1 h2; have h3 : _ = _ := h2; subst h3; assumption) | (intro x h1 h2; have h3 : _ = _ := h2; exfalso; omega) | (intro b h1 h2 h3; have h4 : _ = _ := h3; (try dsimp only at h2); exfalso; omega) | (intro h1; have h2 : _ = _ := h1; exfalso; omega) | (intro h1; have h2 : _ ≤ _ := h1; exfalso; omega) | (intros; exfalso; (try dsimp only at *); omega) | (intro b h1 h2 h3; exfalso; have h4 := h3.2; (try dsimp only at *); omega) | (intro h1; exfalso; have h4 := h1.2; (try dsimp only at *); omega) | (intro x h1 h2; exfalso; have h4 := h2.2; (try dsimp only at *); omega) | (intro x h1 h2; exact ⟨_, rfl, h2⟩) | (intro x h1 h2; have h4 := h2.1; have h5 := h2.2; exfalso; omega) | (intro x h1 h2; exact h2.1) | (intro x h1 h2; rcases h2.1 with h3 | h3; exact h3; exfalso; omega) | (intro x h1 h2; rcases h2 with h3 | h3; exact h3; exfalso; omega))
    replace hc := hc.chg k4 (by first | (intro x h1 h2; exact h2) | (intro x h0 h1 h2; exact hS x h1 h2) | (intro x h0 h1 h2; have h3 : _ = _ := h2; subst h3; exact hSR h1.1) | (intro x h1 h2; have h3 : _ = _ := h2; subst h3; assumption) | (intro x h1 h2; have h3 : _ = _ := h2; exfalso; omega) | (intro b h1 h2 h3; have h4 : _ = _ := h3; (try dsimp only at h2); exfalso; omega) | (intro h1; have h2 : _ = _ := h1; exfalso; omega) | (intro h1; have h2 : _ ≤ _ := h1; exfalso; omega) | (intros; exfalso; (try dsimp only at *); omega) | (intro b h1 h2 h3; exfalso; have h4 := h3.2; (try dsimp only at *); omega) | (intro h1; exfalso; have h4 := h1.2; (try dsimp only at *); omega) | (intro x h1 h2; exfalso; have h4 := h2.2; (try dsimp only at *); omega) | (intro x h1 h2; exact ⟨_, rfl, h2⟩) | (intro x h1 h2; have h4 := h2.1; have h5 := h2.2; exfalso; omega) | (intro x h1 h2; exact h2.1) | (intro x h1 h2; rcases h2.1 with h3 | h3; exact h3; exfalso; omega) | (intro x h1 h2; rcases h2 with h3 | h3; exact h3; exfalso; omega))
    replace hW := hW.chg k4 (by first | (intro x h1 h2; exact h2) | (intro x h0 h1 h2; exact hS x h1 h2) | (intro x h0 h1 h2; have h3 : _ = _ := h2; subst h3; exact hSR h1.1) | (intro x h1 h2; have h3 : _ = _ := h2; subst h3; assumption) | (intro x h1 h2; have h3 : _ = _ := h2; exfalso; omega) | (intro b h1 h2 h3; have h4 : _ = _ := h3; (try dsimp only at h2); exfalso; omega) | (intro h1; have h2 : _ = _ := h1; exfalso; omega) | (intro h1; have h2 : _ ≤ _ := h1; exfalso; omega) | (intros; exfalso; (try dsimp only at *); omega) | (intro b h1 h2 h3; exfalso; have h4 := h3.2; (try dsimp only at *); omega) | (intro h1; exfalso; have h4 := h1.2; (try dsimp only at *); omega) | (intro x h1 h2; exfalso; have h4 := h2.2; (try dsimp only at *); omega) | (intro x h1 h2; exact ⟨_, rfl, h2⟩) | (intro x h1 h2; have h4 := h2.1; have h5 := h2.2; exfalso; omega) | (intro x h1 h2; exact h2.1) | (intro x h1 h2; rcases h2.1 with h3 | h3; exact h3; exfalso; omega) | (intro x h1 h2; rcases h2 with h3 | h3; exact h3; exfalso; omega))
    replace hw := hw.chg k4 (by first | (intro x h1 h2; exact h2) | (intro x h0 h1 h2; exact hS x h1 h2) | (intro x h0 h1 h2; have h3 : _ = _ := h2; subst h3; exact hSR h1.1) | (intro x h1 h2; have h3 : _ = _ := h2; subst h3; assumption) | (intro x h1 h2; have h3 : _ = _ := h2; exfalso; omega) | (intro b h1 h2 h3; have h4 : _ = _ := h3; (try dsimp only at h2); exfalso; omega) | (intro h1; have h2 : _ = _ := h1; exfalso; omega) | (intro h1; have h2 : _ ≤ _ := h1; exfalso; omega) | (intros; exfalso; (try dsimp only at *); omega) | (intro b h1 h2 h3; exfalso; have h4 := h3.2; (try dsimp only at *); omega) | (intro h1; exfalso; have h4 := h1.2; (try dsimp only at *); omega) | (intro x h1 h2; exfalso; have h4 := h2.2; (try dsimp only at *); omega) | (intro x h1 h2; exact ⟨_, rfl, h2⟩) | (intro x h1 h2; have h4 := h2.1; have h5 := h2.2; exfalso; omega) | (intro x h1 h2; exact h2.1) | (intro x h1 h2; rcases h2.1 with h3 | h3; exact h3; exfalso; omega) | (intro x h1 h2; rcases h2 with h3 | h3; exact h3; exfalso; omega))
    have hO2 := hO.snoc (g := g) (x := List.replicate n 0) (by omega) (fun i g' h => by have := lgs i g' h; omega) k4 (fun i g' h e => by have h2 : g' = go := e; have := hO.above i g' h; omega) ho4 (hgr.chg k4 (fun b h1 h2 h3 => by have h4 : b = go := h3; have h5 : b = g := h2; omega))
    refine WL.nil (WX.block_normal (WX.then_normal (WC.region (WL.add64 rfl rfl (by first | omega | (constructor <;> omega)) rfl (WL.move rfl rfl (WL.nil (?_)))))))
    first
      | (refine WX.loop_next (gs ++ [g]) ⟨rfl, rfl, rfl, rfl, rfl, rfl, ?_, trivial⟩ ⟨by rw [List.length_append]; show gs.length + 1 ≤ 3; omega, ?_, hF, hc, hW, hw⟩ (by rw [List.length_append]; show 3 - (gs.length + 1) < 3 - gs.length; omega)
         ·
           rw [List.length_append]
           rfl
         ·
           rw [List.length_append, show gs.length + [g].length = gs.length + 1 from rfl, ← htl.2, List.replicate_succ']
           exact hO2)
      | (have hz1 := hz i r.xs (xss_at' hr) hiW
         have hO2 := hO
         rw [← three_skip (hget.trans hz1) hall (by rw [xss, List.length_map]; omega)] at hO2
         exact WX.loop_next (i + 1) ⟨rfl, rfl, rfl, rfl, rfl, rfl, trivial⟩ ⟨by omega, hF, hO2, hc, hW, hk⟩ (by show _ - _ < _ - _; omega))
      | exact WX.loop_next (i + 1) ⟨rfl, rfl, rfl, rfl, rfl, rfl, trivial⟩ ⟨by omega, hF, hO, hc, hW, hk⟩ (by show _ - _ < _ - _; omega)
  ·
    refine WL.nil (WX.then_normal (WC.seq (WC.cond_false rfl (WC.exit (WX.then_exit (WX.then_exit (WX.block_here (?_))))))))
    refine WX.then_normal (WC.seq (WC.seq (WC.region (WL.move rfl rfl (WL.len Try.underlying22 rfl rfl (WL.move rfl rfl (WL.nil (?_))))))))
    refine WX.then_normal (WC.block (?_))
    have hgs3 : gs.length = 3 := by omega
    rw [hgs3] at hO
    have hO1 : OR w8 23 5 go 3 gs n (three (xss rs) n 0) [] := hO
    refine WC.loop (σ := Nat) (fun i => [(0, .pointer (some ⟨gf, 0, none⟩)), (3, .slice ab W.length cb), (9, .slice (some ⟨go, 0, none⟩) 3 3), (25, .slice ac rs.length cc), (26, vi rs.length), (27, vi i)])
      (fun i w' => i ≤ rs.length ∧ Fld w' gf ∧ OR w' 23 5 go 3 gs n (three (xss rs) n i) [] ∧ RS (fun b => b < gf) w' ac cc rs ∧ RSl (fun b => b < gf) w' ei ab cb W ∧ Chg (fun x => gf ≤ x) w8 w') (fun i => rs.length - i) 0 ⟨rfl, rfl, rfl, rfl, rfl, rfl, trivial⟩ ⟨Nat.zero_le _, hF, hO1, hc, hW, Chg.refl _ _⟩ ?_
    clear hO hO1 hF hc hW
    rintro i w7 ⟨hi, hF, hO, hc, hW, hk⟩
    refine WC.seq (WC.region (?_))
    refine WL.lss? rfl rfl rfl (fun h28 => ?_) (fun h28 => ?_)
    ·
      refine WL.nil (WX.then_normal (WC.seq (WC.cond_true rfl (WC.skip (WX.then_normal (WC.seq (WC.block (?_))))))))
      refine WC.seq (WC.region (WL.move rfl rfl (?_)))
      obtain ⟨r, hr⟩ : ∃ r, rs[i]? = some r := ⟨_, List.getElem?_eq_getElem (by omega)⟩
      have hrl := hall _ (xss_mem hr)
      have hcr := hc.at hr
      have hget : (xss rs).getD i [] = r.xs := by rw [List.getD_eq_getElem?_getD, xss, List.getElem?_map, hr]; rfl
      refine WL.indexT Try.underlying22 Try.sizeOf23 hc.outer rfl rfl ⟨hr, rfl⟩ rfl ?_
      intro b_1 o_1 hc_1
      refine WL.load Try.isAgg23 rfl (hc_1 0 _ rfl) rfl (WL.assign rfl rfl (WL.assign rfl rfl (WL.nil (WX.then_normal (WC.seq (WC.region (WL.move rfl rfl (?_))))))))
      refine WL.move rfl rfl (?_)
      refine WL.call eg_39 rfl rfl (contains_calls hW hWl _) ?_
      rintro v w3 ⟨rfl, k⟩
      have zs_k := k.size
      replace hF := hF.pure k
      replace hO := hO.pure k
      replace hc := hc.pure k
      replace hW := hW.pure k
      replace hk := hk.pure k
      replace hcr := hcr.pure k
      by_cases hiW : (i : Int) ∈ W
      ·
        rw [decide_eq_true hiW]
        refine WL.not rfl rfl (WL.nil (WX.then_normal (WC.cond_false rfl (WC.skip (WX.block_normal (WX.then_normal (WC.region (?_))))))))
        refine WL.add64 rfl rfl (by first | omega | (constructor <;> omega)) rfl (WL.move rfl rfl (WL.nil (?_)))
        first
          | (refine WX.loop_next (gs ++ [g]) ⟨rfl, rfl, rfl, rfl, rfl, rfl, ?_, trivial⟩ ⟨by rw [List.length_append]; show gs.length + 1 ≤ 3; omega, ?_, hF, hc, hW, hw⟩ (by rw [List.length_append]; show 3 - (gs.length + 1) < 3 - gs.length; omega)
             ·
               rw [List.length_append]
               rfl
             ·
               rw [List.length_append, show gs.length + [g].length = gs.length + 1 from rfl, ← htl.2, List.replicate_succ']
               exact hO2)
          | (have hz1 := hz i r.xs (xss_at' hr) hiW
             have hO2 := hO
             rw [← three_skip (hget.trans hz1) hall (by rw [xss, List.length_map]; omega)] at hO2
             exact WX.loop_next (i + 1) ⟨rfl, rfl, rfl, rfl, rfl, rfl, trivial⟩ ⟨by omega, hF, hO2, hc, hW, hk⟩ (by show _ - _ < _ - _; omega))
          | exact WX.loop_next (i + 1) ⟨rfl, rfl, rfl, rfl, rfl, rfl, trivial⟩ ⟨by omega, hF, hO, hc, hW, hk⟩ (by show _ - _ < _ - _; omega)
      ·
        rw [decide_eq_false hiW]
        refine WL.not rfl rfl (WL.nil (WX.then_normal (WC.cond_true rfl (WC.region (WL.move rfl rfl (WL.move rfl rfl (WL.move rfl rfl (?_))))))))
        refine WL.move rfl rfl (?_)
        have hl3 : ∀ y ∈ three (xss rs) n i, y.length = n := by
          have hp : ∀ q, (prow (wtq q) (xss rs) n i).length = n := fun q => prow_len hall (by rw [xss, List.length_map]; omega)
          intro y hy
          simp only [three, List.mem_cons, List.not_mem_nil, or_false] at hy
          rcases hy with rfl | rfl | rfl <;> exact hp _
        refine WL.call eg_51 rfl rfl (add_calls hF hO hgs3 hl3 hcr hrl lgo i hn) ?_
        rintro v w4 ⟨rfl, hR, hO2, k⟩
        rw [← hget, three_next] at hO2
        have zs_k := k.size
        replace hc := hc.chg k (by first | (intro x h1 h2; exact h2) | (intro x h0 h1 h2; exact hS x h1 h2) | (intro x h0 h1 h2; have h3 : _ = _ := h2; subst h3; exact hSR h1.1) | (intro x h1 h2; have h3 : _ = _ := h2; subst h3; assumption) | (intro x h1 h2; have h3 : _ = _ := h2; exfalso; omega) | (intro b h1 h2 h3; have h4 : _ = _ := h3; (try dsimp only at h2); exfalso; omega) | (intro h1; have h2 : _ = _ := h1; exfalso; omega) | (intro h1; have h2 : _ ≤ _ := h1; exfalso; omega) | (intros; exfalso; (try dsimp only at *); omega) | (intro b h1 h2 h3; exfalso; have h4 := h3.2; (try dsimp only at *); omega) | (intro h1; exfalso; have h4 := h1.2; (try dsimp only at *); omega) | (intro x h1 h2; exfalso; have h4 := h2.2; (try dsimp only at *); omega) | (intro x h1 h2; exact ⟨_, rfl, h2⟩) | (intro x h1 h2; have h4 := h2.1; have h5 := h2.2; exfalso; omega) | (intro x h1 h2; exact h2.1) | (intro x h1 h2; rcases h2.1 with h3 | h3; exact h3; exfalso; omega) | (intro x h1 h2; rcases h2 with h3 | h3; exact h3; exfalso; omega))
        replace hW := hW.chg k (by first | (intro x h1 h2; exact h2) | (intro x h0 h1 h2; exact hS x h1 h2) | (intro x h0 h1 h2; have h3 : _ = _ := h2; subst h3; exact hSR h1.1) | (intro x h1 h2; have h3 : _ = _ := h2; subst h3; assumption) | (intro x h1 h2; have h3 : _ = _ := h2; exfalso; omega) | (intro b h1 h2 h3; have h4 : _ = _ := h3; (try dsimp only at h2); exfalso; omega) | (intro h1; have h2 : _ = _ := h1; exfalso; omega) | (intro h1; have h2 : _ ≤ _ := h1; exfalso; omega) | (intros; exfalso; (try dsimp only at *); omega) | (intro b h1 h2 h3; exfalso; have h4 := h3.2; (try dsimp only at *); omega) | (intro h1; exfalso; have h4 := h1.2; (try dsimp only at *); omega) | (intro x h1 h2; exfalso; have h4 := h2.2; (try dsimp only at *); omega) | (intro x h1 h2; exact ⟨_, rfl, h2⟩) | (intro x h1 h2; have h4 := h2.1; have h5 := h2.2; exfalso; omega) | (intro x h1 h2; exact h2.1) | (intro x h1 h2; rcases h2.1 with h3 | h3; exact h3; exfalso; omega) | (intro x h1 h2; rcases h2 with h3 | h3; exact h3; exfalso; omega))
        replace hk := hk.chg k (fun x _ h => h)
        replace hF : Fld w4 gf := .inr hR
        replace hO := hO2
        refine WL.nil (WX.block_normal (WX.then_normal (WC.region (WL.add64 rfl rfl (by first | omega | (constructor <;> omega)) rfl (WL.move rfl rfl (WL.nil (?_)))))))
        first
          | (refine WX.loop_next (gs ++ [g]) ⟨rfl, rfl, rfl, rfl, rfl, rfl, ?_, trivial⟩ ⟨by rw [List.length_append]; show gs.length + 1 ≤ 3; omega, ?_, hF, hc, hW, hw⟩ (by rw [List.length_append]; show 3 - (gs.length + 1) < 3 - gs.length; omega)
             ·
               rw [List.length_append]
               rfl
             ·
               rw [List.length_append, show gs.length + [g].length = gs.length + 1 from rfl, ← htl.2, List.replicate_succ']
               exact hO2)
          | (have hz1 := hz i r.xs (xss_at' hr) hiW
             have hO2 := hO
             rw [← three_skip (hget.trans hz1) hall (by rw [xss, List.length_map]; omega)] at hO2
             exact WX.loop_next (i + 1) ⟨rfl, rfl, rfl, rfl, rfl, rfl, trivial⟩ ⟨by omega, hF, hO2, hc, hW, hk⟩ (by show _ - _ < _ - _; omega))
          | exact WX.loop_next (i + 1) ⟨rfl, rfl, rfl, rfl, rfl, rfl, trivial⟩ ⟨by omega, hF, hO, hc, hW, hk⟩ (by show _ - _ < _ - _; omega)
    ·
      refine WL.nil (WX.then_normal (WC.seq (WC.cond_false rfl (WC.exit (WX.then_exit (WX.then_exit (WX.block_here (?_))))))))
      refine WX.then_normal (WC.seq (WC.region (WL.move rfl rfl (WL.assign rfl rfl (WL.nil (WX.then_normal (WC.ret (?_))))))))
      refine WX.ret1 (.inl rfl) Try.results42 rfl ?_
      have hil : i = rs.length := by omega
      subst hil
      refine ⟨_, rfl, ⟨go, gs, rfl, hO, hgs3, hwg, hF⟩, ?_⟩
      exact (hw.mono (M' := fun x => gf ≤ x) (fun x _ h => by have h2 : x = gf := h; omega)).chg hk (fun x h1 h2 => h2)
end Go.Proofs.Ytjdbjdgobhjbkaa
namespace Go.HL
open Go.RowKit
/-! the document's products, bit by bit -/
def bit (b : UInt8) (k : Nat) : UInt8 := (b >>> UInt8.ofNat k) &&& 1
/-- the first i bits from the top -/
def bAt (b : UInt8) : Nat → UInt8
  | 0 => 0
  | i + 1 => xt (bAt b i) ^^^ bit b (7 - i)
set_option maxRecDepth 100000 in
theorem bAt_all : ∀ n : Fin 256, bAt (UInt8.ofNat n.1) 8 = UInt8.ofNat n.1 := by decide +kernel
theorem bAt_end (b : UInt8) : bAt b 8 = b := fin_all (p := fun b => bAt b 8 = b) bAt_all b
theorem xt_nat (q : UInt8) : (256 ≤ q.toNat * 2 → (q.toNat * 2) ^^^ 285 = (xt q).toNat) ∧ (q.toNat * 2 < 256 → q.toNat * 2 = (xt q).toNat) :=
  fin_all (p := fun q => (256 ≤ q.toNat * 2 → (q.toNat * 2) ^^^ 285 = (xt q).toNat) ∧ (q.toNat * 2 < 256 → q.toNat * 2 = (xt q).toNat)) (by decide +kernel) q
theorem mul_xt2 (a x : UInt8) : mul a (xt x) = xt (mul a x) := by
  by_cases ha : a = 0
  · subst ha; rw [mul_zero_l, mul_zero_l]; rfl
  · rw [mul_xt ha, mul_xt ha]
    generalize L a = k
    induction k with
    | zero => rfl
    | succ k ih => rw [xtN, ih]; rfl
theorem bit_one {b : UInt8} {k : Nat} (h : ((bit b k).toNat : Int) = 1) : bit b k = 1 := UInt8.toNat_inj.1 (by have h0 : (1 : UInt8).toNat = 1 := rfl; omega)
theorem bit_all : ∀ n : Fin 256, ((UInt8.ofNat n.1) &&& 1) = 0 ∨ ((UInt8.ofNat n.1) &&& 1) = 1 := by decide +kernel
theorem bit_zero {b : UInt8} {k : Nat} (h : ¬ ((bit b k).toNat : Int) = 1) : bit b k = 0 := by
  rcases fin_all (p := fun x => x &&& 1 = 0 ∨ x &&& 1 = 1) bit_all (b >>> UInt8.ofNat k) with h1 | h1
  · exact h1
  · exact absurd (show ((bit b k).toNat : Int) = 1 by rw [show bit b k = 1 from h1]; rfl) h
theorem step_one {a b : UInt8} {i : Nat} (h : ((bit b (7 - i)).toNat : Int) = 1) : (xt (mul a (bAt b i))).toNat ^^^ a.toNat = (mul a (bAt b (i + 1))).toNat := by
  rw [bAt, bit_one h, mul_xor, mul_one, mul_xt2, UInt8.toNat_xor]
theorem step_zero {a b : UInt8} {i : Nat} (h : ¬ ((bit b (7 - i)).toNat : Int) = 1) : (xt (mul a (bAt b i))).toNat = (mul a (bAt b (i + 1))).toNat := by
  rw [bAt, bit_zero h, mul_xor, mul_zero_r, mul_xt2, UInt8.xor_zero]
theorem inv_only {a x : UInt8} (h : mul a x = 1) : a ≠ 0 ∧ x = inv a := by
  have ha : a ≠ 0 := by
    rintro rfl
    rw [mul_zero_l] at h
    exact absurd h (by decide)
  refine ⟨ha, ?_⟩
  have h1 := mul_assoc (inv a) a x
  rw [h, mul_one, mul_comm (inv a) a, mul_inv ha, mul_comm 1 x, mul_one] at h1
  exact h1.symm
def pAt (a : UInt8) : Nat → UInt8
  | 0 => 1
  | i + 1 => mul (pAt a i) a
theorem pAt_ne {a : UInt8} (ha : a ≠ 0) (i : Nat) : pAt a i = G (L a * i) := by
  induction i with
  | zero => rw [Nat.mul_zero, G_zero]; rfl
  | succ i ih => rw [pAt, ih, mul_G (G_ne _) ha, L_G, ← G_mod, Nat.mod_add_mod, G_mod, Nat.mul_succ]
theorem pAt_zero (i : Nat) : pAt 0 (i + 1) = 0 := by rw [pAt, mul_zero_r]
end Go.HL
namespace Go.Proofs.Ytjdbjdgobhjbkaa
open Go.RowKit Go.HL

theorem powR_pos {a : UInt8} (ha : a ≠ 0) (m : Nat) : powR a (m : Int) = (G (L a * m), 0) := by
  rw [powR, if_neg (by omega)]
  by_cases hm : (m : Int) = 0
  · rw [if_pos hm, show m = 0 from by omega, Nat.mul_zero, G_zero]
  · rw [if_neg hm, if_neg ha, Int.toNat_natCast, G, Nat.mul_mod, Nat.mul_mod (L a) m, Nat.mod_mod]
theorem powR_zero (m : Nat) : powR 0 (m : Int) = (if m = 0 then 1 else 0, 0) := by
  rw [powR, if_neg (by omega)]
  by_cases hm : m = 0
  · rw [if_pos (by omega), if_pos hm]
  · rw [if_neg (by omega), if_pos rfl, if_neg hm]
set_option maxHeartbeats 1000000 in
theorem refMul_calls (a b : UInt8) (w : World) : Calls Try.prog 27 [v8 a, v8 b].toArray w (Ret fun v w' => v = v8 (mul a b) ∧ Chg Nob w w') := by
  have hw := Chg.refl Nob w
  refine Calls.of_WC Try.func27 rfl Try.ntmps27 (by simp) ?_
  refine WC.seq (WC.region (WL.assign rfl rfl (WL.nil (WX.then_normal (WC.seq (WC.region (WL.assign rfl rfl (?_))))))))
  refine WL.nil (WX.then_normal (WC.seq (WC.seq (WC.region (WL.assign rfl rfl (WL.nil (WX.then_normal (?_))))))))
  refine WC.block (?_)
  refine WC.loop (σ := Nat) (fun i => [(0, v8 a), (1, v8 b), (5, vi ((mul a (bAt b i)).toNat : Nat)), (6, vi (7 - (i : Int)))])
    (fun i w' => i ≤ 8 ∧ Chg Nob w w') (fun i => 8 - i) 0 ⟨rfl, rfl, by rw [show bAt b 0 = 0 from rfl, mul_zero_r]; rfl, rfl, trivial⟩ ⟨Nat.zero_le _, hw⟩ ?_
  clear hw
  rintro i w2 ⟨hi, hw⟩
  obtain ⟨q, hq⟩ : ∃ q, q = mul a (bAt b i) := ⟨_, rfl⟩
  have hql := q.toNat_lt
  have hal := a.toNat_lt
  have hxl := (xt q).toNat_lt
  have hxn := xt_nat q
  rw [← hq]
  refine WC.seq (WC.seq (WC.region (WL.move rfl rfl (?_))))
  refine WL.geq? rfl rfl rfl (fun h8 => ?_) (fun h8 => ?_)
  ·
    refine WL.nil (WX.then_normal (WC.cond_true rfl (WC.skip (WX.then_normal (WC.seq (WC.block (WC.seq (?_))))))))
    refine WC.region (WL.move rfl rfl (?_))
    refine WL.mul64 rfl rfl (by constructor <;> omega) rfl ?_
    rw [show (q.toNat : Int) * 2 = ((q.toNat * 2 : Nat) : Int) from by omega]
    refine WL.assign rfl rfl (WL.nil (WX.then_normal (WC.seq (WC.seq (WC.region (WL.move rfl rfl (?_)))))))
    refine WL.geq? rfl rfl rfl (fun h14 => ?_) (fun h14 => ?_)
    ·
      have e2 := hxn.1 (by omega)
      refine WL.nil (WX.then_normal (WC.cond_true rfl (WC.region (WL.move rfl rfl (?_)))))
      refine WL.num rfl rfl (n_xori _ _ (q.toNat * 2) 285 (by omega) (by decide)) rfl ?_
      rw [e2]
      refine WL.assign rfl rfl (WL.nil (WX.then_normal (WC.seq (WC.region (WL.move rfl rfl (?_))))))
      refine WL.move rfl rfl ?_
      rw [show (7 - (i : Int)) = ((7 - i : Nat) : Int) from by omega]
      refine WL.num rfl rfl (n_shr8 _ _ b .i64 (7 - i) (by omega)) rfl ?_
      refine WL.num rfl rfl (n_and8 _ _ _ 1) rfl ?_
      rw [show (b >>> UInt8.ofNat (7 - i)) &&& 1 = bit b (7 - i) from rfl]
      refine WL.eql? rfl rfl rfl (fun h21 => ?_) (fun h21 => ?_)
      ·
        refine WL.nil (WX.then_normal (WC.cond_true rfl (WC.region (WL.move rfl rfl (WL.move rfl rfl (WL.c_u8_i64 Try.underlying5 Try.underlying3 rfl rfl (?_)))))))
        refine WL.num rfl rfl (n_xori _ _ (xt q).toNat a.toNat (by omega) (by omega)) rfl ?_
        refine WL.assign rfl rfl (WL.nil (WX.block_normal (WX.then_normal (WC.region (WL.move rfl rfl (WL.sub64 rfl rfl (by first | omega | (constructor <;> omega)) rfl (WL.assign rfl rfl (?_))))))))
        refine WL.nil (?_)
        have e6 : 7 - ((i + 1 : Nat) : Int) = ((7 - i : Nat) : Int) - 1 := by omega
        first
          | (have e5 := step_one (a := a) (b := b) (i := i) h21
             rw [← hq] at e5
             refine WX.loop_next (i + 1) ⟨rfl, rfl, ?_, ?_, trivial⟩ ⟨by omega, hw⟩ (by show _ - _ < _ - _; omega)
             ·
               rw [← e5]; rfl
             ·
               rw [e6]; rfl)
          | (have e5 := step_zero (a := a) (b := b) (i := i) h21
             rw [← hq] at e5
             refine WX.loop_next (i + 1) ⟨rfl, rfl, ?_, ?_, trivial⟩ ⟨by omega, hw⟩ (by show _ - _ < _ - _; omega)
             ·
               rw [← e5]; rfl
             ·
               rw [e6]; rfl)
      ·
        refine WL.nil (WX.then_normal (WC.cond_false rfl (WC.skip (WX.block_normal (WX.then_normal (WC.region (WL.move rfl rfl (?_))))))))
        refine WL.sub64 rfl rfl (by first | omega | (constructor <;> omega)) rfl (WL.assign rfl rfl (WL.nil (?_)))
        have e6 : 7 - ((i + 1 : Nat) : Int) = ((7 - i : Nat) : Int) - 1 := by omega
        first
          | (have e5 := step_one (a := a) (b := b) (i := i) h21
             rw [← hq] at e5
             refine WX.loop_next (i + 1) ⟨rfl, rfl, ?_, ?_, trivial⟩ ⟨by omega, hw⟩ (by show _ - _ < _ - _; omega)
             ·
               rw [← e5]; rfl
             ·
               rw [e6]; rfl)
          | (have e5 := step_zero (a := a) (b := b) (i := i) h21
             rw [← hq] at e5
             refine WX.loop_next (i + 1) ⟨rfl, rfl, ?_, ?_, trivial⟩ ⟨by omega, hw⟩ (by show _ - _ < _ - _; omega)
             ·
               rw [← e5]; rfl
             ·
               rw [e6]; rfl)
    ·
      have e2 := hxn.2 (by omega)
      rw [e2]
      refine WL.nil (WX.then_normal (WC.cond_false rfl (WC.skip (WX.then_normal (WC.seq (WC.region (WL.move rfl rfl (?_))))))))
      refine WL.move rfl rfl ?_
      rw [show (7 - (i : Int)) = ((7 - i : Nat) : Int) from by omega]
      refine WL.num rfl rfl (n_shr8 _ _ b .i64 (7 - i) (by omega)) rfl ?_
      refine WL.num rfl rfl (n_and8 _ _ _ 1) rfl ?_
      rw [show (b >>> UInt8.ofNat (7 - i)) &&& 1 = bit b (7 - i) from rfl]
      refine WL.eql? rfl rfl rfl (fun h21 => ?_) (fun h21 => ?_)
      ·
        refine WL.nil (WX.then_normal (WC.cond_true rfl (WC.region (WL.move rfl rfl (WL.move rfl rfl (WL.c_u8_i64 Try.underlying5 Try.underlying3 rfl rfl (?_)))))))
        refine WL.num rfl rfl (n_xori _ _ (xt q).toNat a.toNat (by omega) (by omega)) rfl ?_
        refine WL.assign rfl rfl (WL.nil (WX.block_normal (WX.then_normal (WC.region (WL.move rfl rfl (WL.sub64 rfl rfl (by first | omega | (constructor <;> omega)) rfl (WL.assign rfl rfl (?_))))))))
        refine WL.nil (?_)
        have e6 : 7 - ((i + 1 : Nat) : Int) = ((7 - i : Nat) : Int) - 1 := by omega
        first
          | (have e5 := step_one (a := a) (b := b) (i := i) h21
             rw [← hq] at e5
             refine WX.loop_next (i + 1) ⟨rfl, rfl, ?_, ?_, trivial⟩ ⟨by omega, hw⟩ (by show _ - _ < _ - _; omega)
             ·
               rw [← e5]; rfl
             ·
               rw [e6]; rfl)
          | (have e5 := step_zero (a := a) (b := b) (i := i) h21
             rw [← hq] at e5
             refine WX.loop_next (i + 1) ⟨rfl, rfl, ?_, ?_, trivial⟩ ⟨by omega, hw⟩ (by show _ - _ < _ - _; omega)
             ·
               rw [← e5]; rfl
             ·
               rw [e6]; rfl)
      ·
        refine WL.nil (WX.then_normal (WC.cond_false rfl (WC.skip (WX.block_normal (WX.then_normal (WC.region (WL.move rfl rfl (?_))))))))
        refine WL.sub64 rfl rfl (by first | omega | (constructor <;> omega)) rfl (WL.assign rfl rfl (WL.nil (?_)))
        have e6 : 7 - ((i + 1 : Nat) : Int) = ((7 - i : Nat) : Int) - 1 := by omega
        first
          | (have e5 := step_one (a := a) (b := b) (i := i) h21
             rw [← hq] at e5
             refine WX.loop_next (i + 1) ⟨rfl, rfl, ?_, ?_, trivial⟩ ⟨by omega, hw⟩ (by show _ - _ < _ - _; omega)
             ·
               rw [← e5]; rfl
             ·
               rw [e6]; rfl)
          | (have e5 := step_zero (a := a) (b := b) (i := i) h21
             rw [← hq] at e5
             refine WX.loop_next (i + 1) ⟨rfl, rfl, ?_, ?_, trivial⟩ ⟨by omega, hw⟩ (by show _ - _ < _ - _; omega)
             ·
               rw [← e5]; rfl
             ·
               rw [e6]; rfl)
  ·
    refine WL.nil (WX.then_normal (WC.cond_false rfl (WC.exit (WX.then_exit (WX.then_exit (WX.block_here (WX.then_normal (?_))))))))
    refine WC.seq (WC.region (WL.move rfl rfl (?_)))
    have h8 : i = 8 := by omega
    refine WL.c_i64_u8 Try.underlying3 Try.underlying5 rfl rfl ?_
    rw [b8X (show q.toNat < 256 by omega), UInt8.ofNat_toNat, hq, h8, bAt_end]
    refine WL.assign rfl rfl (WL.nil (WX.then_normal (WC.ret (?_))))
    refine WX.ret1 (.inl rfl) Try.results27 rfl ?_
    exact ⟨_, rfl, rfl, hw⟩
theorem refPow_calls (a : UInt8) (n : Int) (w : World) (hn : -9223372036854775808 ≤ n ∧ n ≤ 9223372036854775807) : Calls Try.prog 48 [v8 a, vi n].toArray w (Ret fun v w' => v = .tuple #[v8 (powR a n).1, vi (powR a n).2] ∧ Chg Nob w w') := by
  have hw := Chg.refl Nob w
  refine Calls.of_WC Try.func48 rfl Try.ntmps48 (by simp) ?_
  refine WC.seq (WC.region (WL.assign rfl rfl (WL.assign rfl rfl (WL.nil (WX.then_normal (WC.seq (WC.seq (?_))))))))
  refine WC.region (WL.move rfl rfl (?_))
  refine WL.lss? rfl rfl rfl (fun h9 => ?_) (fun h9 => ?_)
  ·
    refine WL.nil (WX.then_normal (WC.cond_true rfl (WC.seq (WC.region (WL.assign rfl rfl (WL.assign rfl rfl (WL.nil (?_))))))))
    refine WX.then_normal (WC.ret (WX.then_ret (?_)))
    refine WX.ret2 (.inl rfl) Try.results48 rfl rfl ?_
    first
      | (have hi2 : i = m % 255 + 1 := by omega
         subst hi2
         refine ⟨_, rfl, ?_, hw⟩
         by_cases ha : a = 0
         ·
           subst ha
           rw [powR_zero, if_neg (by omega), pAt_zero]
         ·
           rw [powR_pos ha, pAt_ne ha, ← G_mod, ← G_mod (L a * (m + 1)), Nat.mul_mod, Nat.mul_mod (L a) (m + 1), Nat.mod_add_mod])
      | (refine ⟨_, rfl, ?_, hw⟩
         rw [powR, if_pos h9]
         rfl)
      | (refine ⟨_, rfl, ?_, hw⟩
         rw [powR, if_neg (by omega), if_pos h11]
         rfl)
  ·
    refine WL.nil (WX.then_normal (WC.cond_false rfl (WC.skip (WX.then_normal (WC.seq (WC.seq (WC.region (?_))))))))
    refine WL.move rfl rfl (?_)
    refine WL.eql? rfl rfl rfl (fun h11 => ?_) (fun h11 => ?_)
    ·
      refine WL.nil (WX.then_normal (WC.cond_true rfl (WC.seq (WC.region (WL.assign rfl rfl (WL.assign rfl rfl (WL.nil (?_))))))))
      refine WX.then_normal (WC.ret (WX.then_ret (?_)))
      refine WX.ret2 (.inl rfl) Try.results48 rfl rfl ?_
      first
        | (have hi2 : i = m % 255 + 1 := by omega
           subst hi2
           refine ⟨_, rfl, ?_, hw⟩
           by_cases ha : a = 0
           ·
             subst ha
             rw [powR_zero, if_neg (by omega), pAt_zero]
           ·
             rw [powR_pos ha, pAt_ne ha, ← G_mod, ← G_mod (L a * (m + 1)), Nat.mul_mod, Nat.mul_mod (L a) (m + 1), Nat.mod_add_mod])
        | (refine ⟨_, rfl, ?_, hw⟩
           rw [powR, if_pos h9]
           rfl)
        | (refine ⟨_, rfl, ?_, hw⟩
           rw [powR, if_neg (by omega), if_pos h11]
           rfl)
    ·
      refine WL.nil (WX.then_normal (WC.cond_false rfl (WC.skip (WX.then_normal (WC.seq (WC.region (WL.assign rfl rfl (?_))))))))
      refine WL.nil (WX.then_normal (WC.seq (WC.seq (WC.region (WL.assign rfl rfl (WL.nil (WX.then_normal (?_))))))))
      refine WC.block (?_)
      obtain ⟨m, rfl⟩ : ∃ m : Nat, n = ((m + 1 : Nat) : Int) := ⟨n.toNat - 1, by omega⟩
      refine WC.loop (σ := Nat) (fun i => [(0, v8 a), (1, vi ((m + 1 : Nat) : Int)), (6, v8 (pAt a i)), (7, vi i)])
        (fun i w' => i ≤ m % 255 + 1 ∧ Chg Nob w w') (fun i => 256 - i) 0 ⟨rfl, rfl, rfl, rfl, trivial⟩ ⟨Nat.zero_le _, hw⟩ ?_
      clear hw
      rintro i w2 ⟨hi, hw⟩
      have hm := Nat.mod_lt m (show 255 > 0 by decide)
      refine WC.seq (WC.seq (WC.region (WL.move rfl rfl (WL.move rfl rfl (?_)))))
      refine WL.sub64 rfl rfl (by constructor <;> omega) rfl ?_
      rw [show (((m + 1 : Nat) : Int) - 1) = (m : Int) from by omega]
      refine WL.rem64i rfl rfl (by omega) rfl ?_
      rw [show ((m : Int) % 255) = ((m % 255 : Nat) : Int) from by omega]
      refine WL.add64 rfl rfl (by first | omega | (constructor <;> omega)) rfl (?_)
      refine WL.lss? rfl rfl rfl (fun h17 => ?_) (fun h17 => ?_)
      ·
        refine WL.nil (WX.then_normal (WC.cond_true rfl (WC.skip (WX.then_normal (WC.seq (WC.block (WC.region (?_))))))))
        refine WL.move rfl rfl (WL.move rfl rfl (?_))
        refine WL.call eg_27 rfl rfl (refMul_calls (pAt a i) a _) ?_
        rintro v w1 ⟨rfl, k⟩
        have zs_k := k.size
        replace hw := hw.pure k
        refine WL.assign rfl rfl (WL.nil (WX.block_normal (WX.then_normal (WC.region (WL.move rfl rfl (WL.add64 rfl rfl (by first | omega | (constructor <;> omega)) rfl (WL.assign rfl rfl (?_))))))))
        refine WL.nil (?_)
        exact WX.loop_next (i + 1) ⟨rfl, rfl, rfl, rfl, trivial⟩ ⟨by omega, hw⟩ (by show _ - _ < _ - _; omega)
      ·
        refine WL.nil (WX.then_normal (WC.cond_false rfl (WC.exit (WX.then_exit (WX.then_exit (WX.block_here (WX.then_normal (?_))))))))
        refine WC.seq (WC.region (WL.move rfl rfl (WL.assign rfl rfl (WL.assign rfl rfl (WL.nil (WX.then_normal (WC.ret (?_))))))))
        refine WX.ret2 (.inl rfl) Try.results48 rfl rfl ?_
        first
          | (have hi2 : i = m % 255 + 1 := by omega
             subst hi2
             refine ⟨_, rfl, ?_, hw⟩
             by_cases ha : a = 0
             ·
               subst ha
               rw [powR_zero, if_neg (by omega), pAt_zero]
             ·
               rw [powR_pos ha, pAt_ne ha, ← G_mod, ← G_mod (L a * (m + 1)), Nat.mul_mod, Nat.mul_mod (L a) (m + 1), Nat.mod_add_mod])
          | (refine ⟨_, rfl, ?_, hw⟩
             rw [powR, if_pos h9]
             rfl)
          | (refine ⟨_, rfl, ?_, hw⟩
             rw [powR, if_neg (by omega), if_pos h11]
             rfl)
end Go.Proofs.Ytjdbjdgobhjbkaa
