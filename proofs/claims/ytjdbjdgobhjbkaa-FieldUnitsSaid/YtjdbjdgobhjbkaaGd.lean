import Derived.Test.YtjdbjdgobhjbkaaGc
namespace Go.Proofs.Ytjdbjdgobhjbkaa
open Go.RowKit Go.HL

/-! where the tables are there already -/
theorem doR_calls {w : World} {g : Nat} (hR : Blk w g 65 FR) (fv : Value) :
    Calls Try.prog 52 [.pointer (some ⟨g, 0, none⟩), fv].toArray w (Ret fun v w' => v = .tuple #[] ∧ Chg Nob w w') := by
  refine (do_done hR fv).mono ?_
  rintro e w' ⟨rfl, rfl⟩
  exact ⟨_, rfl, rfl, Chg.refl _ _⟩
theorem tablesR_calls {w : World} {g : Nat} (hR : Blk w g 65 FR) : Calls Try.prog 47 [.pointer (some ⟨g, 0, none⟩)].toArray w (Ret fun v w' => v = .tuple #[] ∧ Chg Nob w w') := by
  have hw := Chg.refl Nob w
  refine Calls.of_WC Try.func47 rfl Try.ntmps47 (by simp) ?_
  refine WC.seq (WC.region (?_))
  refine WL.box rfl rfl ?_
  intro g_1 w_1 hge_1 hlt_1 hb_1 k_1
  have zs_k_1 := k_1.size
  replace hR := hR.pure k_1
  replace hw := hw.pure k_1
  refine WL.nil (WX.then_normal (WC.region (WL.loadB Try.isAgg28 hb_1 rfl rfl rfl (WL.nilCheck rfl rfl (WL.fieldAddr (fld_65_0) rfl rfl (?_))))))
  refine WL.makeFunc rfl rfl ?_
  refine WL.call eg_52 rfl rfl (doR_calls hR _) ?_
  rintro v w2 ⟨rfl, k⟩
  have zs_k := k.size
  replace hR := hR.pure k
  replace hw := hw.pure k
  replace hb_1 := hb_1.pure k
  refine WL.nil (?_)
  refine WX.ret0 (.inr rfl) Try.results47 ?_
  exact ⟨_, rfl, rfl, hw⟩
set_option maxRecDepth 100000 in
theorem readyR_calls {w : World} {g : Nat} (hR : Blk w g 65 FR) : Calls Try.prog 29 [.pointer (some ⟨g, 0, none⟩)].toArray w (Ret fun v w' => v = .pointer (some ⟨g, 0, none⟩) ∧ Chg Nob w w') := by
  have hw := Chg.refl Nob w
  refine Calls.of_WC Try.func29 rfl Try.ntmps29 (by simp) ?_
  refine WC.seq (WC.region (WL.assign rfl rfl (WL.nil (WX.then_normal (WC.seq (WC.seq (WC.region (?_))))))))
  refine WL.move rfl rfl (?_)
  refine WL.pnil Try.underlying28 rfl rfl rfl ?_
  rw [show (some (⟨g, 0, none⟩ : Addr)).isNone = false from rfl]
  refine WL.nil (WX.then_normal (WC.cond_false rfl (WC.skip (WX.then_normal (WC.seq (WC.region (WL.move rfl rfl (?_))))))))
  refine WL.call eg_47 rfl rfl (tablesR_calls hR) ?_
  rintro v w2 ⟨rfl, k⟩
  have zs_k := k.size
  replace hR := hR.pure k
  replace hw := hw.pure k
  refine WL.nil (WX.then_normal (WC.seq (WC.region (WL.move rfl rfl (WL.assign rfl rfl (WL.nil (WX.then_normal (?_))))))))
  refine WC.ret (?_)
  refine WX.ret1 (.inl rfl) Try.results29 rfl ?_
  exact ⟨_, rfl, rfl, hw⟩
theorem mulR_calls {w : World} {g : Nat} (hR : Blk w g 65 FR) (a b : UInt8) : Calls Try.prog 15 [.pointer (some ⟨g, 0, none⟩), v8 a, v8 b].toArray w (Ret fun v w' => v = v8 (mul a b) ∧ Chg Nob w w') := by
  have hw := Chg.refl Nob w
  have hla := L_lt a
  have hlb := L_lt b
  refine Calls.of_WC Try.func15 rfl Try.ntmps15 (by simp) ?_
  refine WC.seq (WC.region (WL.assign rfl rfl (WL.nil (WX.then_normal (WC.seq (WC.seq (WC.region (?_))))))))
  refine WL.move rfl rfl (?_)
  refine WL.eql? rfl rfl rfl (fun h8 => ?_) (fun h8 => ?_)
  ·
    refine WL.move rfl rfl (WL.pass rfl rfl rfl rfl (WL.pass rfl rfl rfl rfl (WL.pickT rfl rfl rfl (WL.nil (WX.then_normal (WC.cond_true rfl (WC.seq (?_))))))))
    refine WC.region (WL.assign rfl rfl (WL.nil (WX.then_normal (WC.ret (WX.then_ret (?_))))))
    refine WX.ret1 (.inl rfl) Try.results15 rfl ?_
    first
      | (have ha := u8_zero h8
         subst ha
         refine ⟨_, rfl, ?_, hw⟩
         rw [mul_zero_l]
         rfl)
      | (have hb := u8_zero h11
         subst hb
         refine ⟨_, rfl, ?_, hw⟩
         rw [mul_zero_r]
         rfl)
      | (refine ⟨_, rfl, ?_, hw⟩
         rw [mul, if_neg (by rintro (h | h); exact u8_ne h8 h; exact u8_ne h11 h)])
  ·
    refine WL.move rfl rfl (WL.want rfl rfl rfl (WL.move rfl rfl (WL.want rfl rfl rfl (?_))))
    refine WL.eql? rfl rfl rfl (fun h11 => ?_) (fun h11 => ?_)
    ·
      refine WL.pickF rfl rfl rfl (WL.nil (WX.then_normal (WC.cond_true rfl (WC.seq (WC.region (WL.assign rfl rfl (WL.nil (?_))))))))
      refine WX.then_normal (WC.ret (WX.then_ret (?_)))
      refine WX.ret1 (.inl rfl) Try.results15 rfl ?_
      first
        | (have ha := u8_zero h8
           subst ha
           refine ⟨_, rfl, ?_, hw⟩
           rw [mul_zero_l]
           rfl)
        | (have hb := u8_zero h11
           subst hb
           refine ⟨_, rfl, ?_, hw⟩
           rw [mul_zero_r]
           rfl)
        | (refine ⟨_, rfl, ?_, hw⟩
           rw [mul, if_neg (by rintro (h | h); exact u8_ne h8 h; exact u8_ne h11 h)])
    ·
      refine WL.pickF rfl rfl rfl (WL.nil (WX.then_normal (WC.cond_false rfl (WC.skip (WX.then_normal (WC.seq (WC.region (?_))))))))
      refine WL.move rfl rfl (?_)
      refine WL.call eg_29 rfl rfl (readyR_calls hR) ?_
      rintro v w2 ⟨rfl, k⟩
      have zs_k := k.size
      replace hR := hR.pure k
      replace hw := hw.pure k
      refine WL.assign rfl rfl (WL.nil (WX.then_normal (WC.seq (?_))))
      refine WC.draw (Nob) [0, 1, 2, 3, 4, 5, 6, 7, 8, 9, 10, 11, 12, 13, 14, 15, 16, 17, 18] [] mixed rfl rfl (fun wd_1 kd_1 zd_1 => ?_)
      have zs_kd_1 := kd_1.size
      replace hR := hR.pure kd_1
      replace hw := hw.pure kd_1
      apply DQ.step (E' := [(0, _)])
      case ho => rfl
      case hs => exact ⟨rfl, trivial⟩
      case hk => rfl
      case h1 =>
        intro wq_2 kq_2
        refine WL.move rfl rfl (?_)
        refine WL.nil ?_
        exact WX.one ⟨rfl, by first | exact Chg.refl _ _ | assumption⟩
      apply DQ.step (E' := [(0, _)])
      case ho => rfl
      case hs => exact ⟨rfl, trivial⟩
      case hk => rfl
      case h1 =>
        intro wq_3 kq_3
        refine WL.move rfl rfl (?_)
        refine WL.nil ?_
        exact WX.one ⟨rfl, by first | exact Chg.refl _ _ | assumption⟩
      apply DQ.step (E' := [(1, _)])
      case ho => rfl
      case hs => exact ⟨rfl, trivial⟩
      case hk => rfl
      case h1 =>
        intro wq_4 kq_4
        refine WL.move rfl rfl (?_)
        refine WL.nil ?_
        exact WX.one ⟨rfl, by first | exact Chg.refl _ _ | assumption⟩
      apply DQ.step (E' := [(16, _)])
      case ho => rfl
      case hs => exact ⟨rfl, trivial⟩
      case hk => rfl
      case h1 =>
        intro wq_5 kq_5
        refine WL.nilCheck rfl rfl (?_)
        refine WL.nil ?_
        exact WX.one ⟨rfl, by first | exact Chg.refl _ _ | assumption⟩
      apply DQ.step (E' := [(18, _)])
      case ho => rfl
      case hs => exact ⟨rfl, trivial⟩
      case hk => rfl
      case h1 =>
        intro wq_6 kq_6
        refine WL.fieldAddr (fld_65_2) rfl rfl (?_)
        refine WL.nil ?_
        exact WX.one ⟨rfl, by first | exact Chg.refl _ _ | assumption⟩
      apply DQ.step (E' := [(19, _), (17, _)])
      case ho => rfl
      case hs => exact ⟨rfl, rfl, trivial⟩
      case hk => rfl
      case h1 =>
        intro wq_7 kq_7
        have zs_kq_7 := kq_7.size
        replace hR := hR.pure kq_7
        replace hw := hw.pure kq_7
        refine WL.indexArrO a.toNat Try.underlying63 Try.sizeOf3 rfl rfl ⟨rfl, a.toNat_lt⟩ rfl ?_
        refine WL.nil ?_
        exact WX.one ⟨rfl, by first | exact Chg.refl _ _ | assumption⟩
      apply DQ.step (E' := [(20, _)])
      case ho => rfl
      case hs => exact ⟨rfl, trivial⟩
      case hk => rfl
      case h1 =>
        intro wq_8 kq_8
        have zs_kq_8 := kq_8.size
        replace hR := hR.pure kq_8
        replace hw := hw.pure kq_8
        refine WL.loadB Try.isAgg3 hR rfl (FR_l a) rfl ?_
        refine WL.nil ?_
        exact WX.one ⟨rfl, by first | exact Chg.refl _ _ | assumption⟩
      apply DQ.step (E' := [(0, _)])
      case ho => rfl
      case hs => exact ⟨rfl, trivial⟩
      case hk => rfl
      case h1 =>
        intro wq_9 kq_9
        refine WL.move rfl rfl (?_)
        refine WL.nil ?_
        exact WX.one ⟨rfl, by first | exact Chg.refl _ _ | assumption⟩
      apply DQ.step (E' := [(2, _)])
      case ho => rfl
      case hs => exact ⟨rfl, trivial⟩
      case hk => rfl
      case h1 =>
        intro wq_10 kq_10
        refine WL.move rfl rfl (?_)
        refine WL.nil ?_
        exact WX.one ⟨rfl, by first | exact Chg.refl _ _ | assumption⟩
      apply DQ.step (E' := [(22, _)])
      case ho => rfl
      case hs => exact ⟨rfl, trivial⟩
      case hk => rfl
      case h1 =>
        intro wq_11 kq_11
        refine WL.nilCheck rfl rfl (?_)
        refine WL.nil ?_
        exact WX.one ⟨rfl, by first | exact Chg.refl _ _ | assumption⟩
      apply DQ.step (E' := [(24, _)])
      case ho => rfl
      case hs => exact ⟨rfl, trivial⟩
      case hk => rfl
      case h1 =>
        intro wq_12 kq_12
        refine WL.fieldAddr (fld_65_2) rfl rfl (?_)
        refine WL.nil ?_
        exact WX.one ⟨rfl, by first | exact Chg.refl _ _ | assumption⟩
      apply DQ.step (E' := [(25, _), (23, _)])
      case ho => rfl
      case hs => exact ⟨rfl, rfl, trivial⟩
      case hk => rfl
      case h1 =>
        intro wq_13 kq_13
        have zs_kq_13 := kq_13.size
        replace hR := hR.pure kq_13
        replace hw := hw.pure kq_13
        refine WL.indexArrO b.toNat Try.underlying63 Try.sizeOf3 rfl rfl ⟨rfl, b.toNat_lt⟩ rfl ?_
        refine WL.nil ?_
        exact WX.one ⟨rfl, by first | exact Chg.refl _ _ | assumption⟩
      apply DQ.step (E' := [(26, _)])
      case ho => rfl
      case hs => exact ⟨rfl, trivial⟩
      case hk => rfl
      case h1 =>
        intro wq_14 kq_14
        have zs_kq_14 := kq_14.size
        replace hR := hR.pure kq_14
        replace hw := hw.pure kq_14
        refine WL.loadB Try.isAgg3 hR rfl (FR_l b) rfl ?_
        refine WL.nil ?_
        exact WX.one ⟨rfl, by first | exact Chg.refl _ _ | assumption⟩
      apply DQ.step (E' := [(21, _), (27, _)])
      case ho => rfl
      case hs => exact ⟨rfl, rfl, trivial⟩
      case hk => rfl
      case h1 =>
        intro wq_15 kq_15
        refine WL.add64 rfl rfl (by first | omega | (constructor <;> omega)) rfl (?_)
        refine WL.nil ?_
        exact WX.one ⟨rfl, by first | exact Chg.refl _ _ | assumption⟩
      apply DQ.step (E' := [(15, _)])
      case ho => rfl
      case hs => exact ⟨rfl, trivial⟩
      case hk => rfl
      case h1 =>
        intro wq_16 kq_16
        refine WL.nilCheck rfl rfl (?_)
        refine WL.nil ?_
        exact WX.one ⟨rfl, by first | exact Chg.refl _ _ | assumption⟩
      apply DQ.step (E' := [(29, _)])
      case ho => rfl
      case hs => exact ⟨rfl, trivial⟩
      case hk => rfl
      case h1 =>
        intro wq_17 kq_17
        refine WL.fieldAddr (fld_65_1) rfl rfl (?_)
        refine WL.nil ?_
        exact WX.one ⟨rfl, by first | exact Chg.refl _ _ | assumption⟩
      apply DQ.step (E' := [(30, _), (28, _)])
      case ho => rfl
      case hs => exact ⟨rfl, rfl, trivial⟩
      case hk => rfl
      case h1 =>
        intro wq_18 kq_18
        have zs_kq_18 := kq_18.size
        replace hR := hR.pure kq_18
        replace hw := hw.pure kq_18
        refine WL.indexArrO (L a + L b) Try.underlying62 Try.sizeOf5 rfl rfl ⟨by omega, by omega⟩ rfl ?_
        refine WL.nil ?_
        exact WX.one ⟨rfl, by first | exact Chg.refl _ _ | assumption⟩
      apply DQ.step (E' := [(31, _)])
      case ho => rfl
      case hs => exact ⟨rfl, trivial⟩
      case hk => rfl
      case h1 =>
        intro wq_19 kq_19
        have zs_kq_19 := kq_19.size
        replace hR := hR.pure kq_19
        replace hw := hw.pure kq_19
        refine WL.loadB Try.isAgg5 hR rfl (FR_e (by omega)) rfl ?_
        refine WL.nil ?_
        exact WX.one ⟨rfl, by first | exact Chg.refl _ _ | assumption⟩
      apply DQ.step (E' := [(32, _)])
      case ho => rfl
      case hs => exact ⟨rfl, trivial⟩
      case hk => rfl
      case h1 =>
        intro wq_20 kq_20
        refine WL.assign rfl rfl (?_)
        refine WL.nil ?_
        exact WX.one ⟨rfl, by first | exact Chg.refl _ _ | assumption⟩
      refine DQ.done (fun _ => ?_)
      refine DL.done (fun we_21 ke_21 => ?_)
      have zs_ke_21 := ke_21.size
      replace hR := hR.pure ke_21
      replace hw := hw.pure ke_21
      refine WX.then_normal (WC.ret (?_))
      refine WX.ret1 (.inl rfl) Try.results15 rfl ?_
      first
        | (have ha := u8_zero h8
           subst ha
           refine ⟨_, rfl, ?_, hw⟩
           rw [mul_zero_l]
           rfl)
        | (have hb := u8_zero h11
           subst hb
           refine ⟨_, rfl, ?_, hw⟩
           rw [mul_zero_r]
           rfl)
        | (refine ⟨_, rfl, ?_, hw⟩
           rw [mul, if_neg (by rintro (h | h); exact u8_ne h8 h; exact u8_ne h11 h)])
theorem mulT_calls {w : World} {g : Nat} (hF : Fld w g) (a b : UInt8) (ha : a ≠ 0) (hb : b ≠ 0) : Calls Try.prog 15 [.pointer (some ⟨g, 0, none⟩), v8 a, v8 b].toArray w (Ret fun v w' => v = v8 (mul a b) ∧ Blk w' g 65 FR ∧ Chg (fun x => x = g) w w') := by
  have hw := Chg.refl (fun x => x = g) w
  have hla := L_lt a
  have hlb := L_lt b
  refine Calls.of_WC Try.func15 rfl Try.ntmps15 (by simp) ?_
  refine WC.seq (WC.region (WL.assign rfl rfl (WL.nil (WX.then_normal (WC.seq (WC.seq (WC.region (?_))))))))
  refine WL.move rfl rfl (?_)
  refine WL.eql? rfl rfl rfl (fun h8 => ?_) (fun h8 => ?_)
  ·
    refine WL.move rfl rfl (WL.pass rfl rfl rfl rfl (WL.pass rfl rfl rfl rfl (WL.pickT rfl rfl rfl (WL.nil (WX.then_normal (WC.cond_true rfl (WC.seq (?_))))))))
    refine WC.region (WL.assign rfl rfl (WL.nil (WX.then_normal (WC.ret (WX.then_ret (?_))))))
    refine WX.ret1 (.inl rfl) Try.results15 rfl ?_
    first
      | (exfalso; exact ha (u8_zero h8))
      | (exfalso; exact hb (u8_zero h11))
      | (refine ⟨_, rfl, ?_, hR, hw⟩
         rw [mul, if_neg (by rintro (h | h); exact u8_ne h8 h; exact u8_ne h11 h)])
  ·
    refine WL.move rfl rfl (WL.want rfl rfl rfl (WL.move rfl rfl (WL.want rfl rfl rfl (?_))))
    refine WL.eql? rfl rfl rfl (fun h11 => ?_) (fun h11 => ?_)
    ·
      refine WL.pickF rfl rfl rfl (WL.nil (WX.then_normal (WC.cond_true rfl (WC.seq (WC.region (WL.assign rfl rfl (WL.nil (?_))))))))
      refine WX.then_normal (WC.ret (WX.then_ret (?_)))
      refine WX.ret1 (.inl rfl) Try.results15 rfl ?_
      first
        | (exfalso; exact ha (u8_zero h8))
        | (exfalso; exact hb (u8_zero h11))
        | (refine ⟨_, rfl, ?_, hR, hw⟩
           rw [mul, if_neg (by rintro (h | h); exact u8_ne h8 h; exact u8_ne h11 h)])
    ·
      refine WL.pickF rfl rfl rfl (WL.nil (WX.then_normal (WC.cond_false rfl (WC.skip (WX.then_normal (WC.seq (WC.region (?_))))))))
      refine WL.move rfl rfl (?_)
      refine WL.call eg_29 rfl rfl (ready_calls hF) ?_
      rintro v w2 ⟨rfl, hR, k⟩
      have zs_k := k.size
      replace hw := hw.chg k (by first | (intro x h1 h2; exact h2) | (intro x h0 h1 h2; exact hS x h1 h2) | (intro x h0 h1 h2; have h3 : _ = _ := h2; subst h3; exact hSR h1.1) | (intro x h1 h2; have h3 : _ = _ := h2; subst h3; assumption) | (intro x h1 h2; have h3 : _ = _ := h2; exfalso; omega) | (intro b h1 h2 h3; have h4 : _ = _ := h3; (try dsimp only at h2); exfalso; omega) | (intro h1; have h2 : _ = _ := h1; exfalso; omega) | (intro h1; have h2 : _ ≤ _ := h1; exfalso; omega) | (intros; exfalso; (try dsimp only at *); omega) | (intro b h1 h2 h3; exfalso; have h4 := h3.2; (try dsimp only at *); omega) | (intro h1; exfalso; have h4 := h1.2; (try dsimp only at *); omega) | (intro x h1 h2; exfalso; have h4 := h2.2; (try dsimp only at *); omega) | (intro x h1 h2; exact ⟨_, rfl, h2⟩) | (intro x h1 h2; have h4 := h2.1; have h5 := h2.2; exfalso; omega) | (intro x h1 h2; exact h2.1) | (intro x h1 h2; rcases h2.1 with h3 | h3; exact h3; exfalso; omega) | (intro x h1 h2; rcases h2 with h3 | h3; exact h3; exfalso; omega))
      refine WL.assign rfl rfl (WL.nil (WX.then_normal (WC.seq (?_))))
      refine WC.draw (Nob) [0, 1, 2, 3, 4, 5, 6, 7, 8, 9, 10, 11, 12, 13, 14, 15, 16, 17, 18] [] mixed rfl rfl (fun wd_1 kd_1 zd_1 => ?_)
      have zs_kd_1 := kd_1.size
      replace hw := hw.pure kd_1
      replace hR := hR.pure kd_1
      apply DQ.step (E' := [(0, _)])
      case ho => rfl
      case hs => exact ⟨rfl, trivial⟩
      case hk => rfl
      case h1 =>
        intro wq_2 kq_2
        refine WL.move rfl rfl (?_)
        refine WL.nil ?_
        exact WX.one ⟨rfl, by first | exact Chg.refl _ _ | assumption⟩
      apply DQ.step (E' := [(0, _)])
      case ho => rfl
      case hs => exact ⟨rfl, trivial⟩
      case hk => rfl
      case h1 =>
        intro wq_3 kq_3
        refine WL.move rfl rfl (?_)
        refine WL.nil ?_
        exact WX.one ⟨rfl, by first | exact Chg.refl _ _ | assumption⟩
      apply DQ.step (E' := [(1, _)])
      case ho => rfl
      case hs => exact ⟨rfl, trivial⟩
      case hk => rfl
      case h1 =>
        intro wq_4 kq_4
        refine WL.move rfl rfl (?_)
        refine WL.nil ?_
        exact WX.one ⟨rfl, by first | exact Chg.refl _ _ | assumption⟩
      apply DQ.step (E' := [(16, _)])
      case ho => rfl
      case hs => exact ⟨rfl, trivial⟩
      case hk => rfl
      case h1 =>
        intro wq_5 kq_5
        refine WL.nilCheck rfl rfl (?_)
        refine WL.nil ?_
        exact WX.one ⟨rfl, by first | exact Chg.refl _ _ | assumption⟩
      apply DQ.step (E' := [(18, _)])
      case ho => rfl
      case hs => exact ⟨rfl, trivial⟩
      case hk => rfl
      case h1 =>
        intro wq_6 kq_6
        refine WL.fieldAddr (fld_65_2) rfl rfl (?_)
        refine WL.nil ?_
        exact WX.one ⟨rfl, by first | exact Chg.refl _ _ | assumption⟩
      apply DQ.step (E' := [(19, _), (17, _)])
      case ho => rfl
      case hs => exact ⟨rfl, rfl, trivial⟩
      case hk => rfl
      case h1 =>
        intro wq_7 kq_7
        have zs_kq_7 := kq_7.size
        replace hw := hw.pure kq_7
        replace hR := hR.pure kq_7
        refine WL.indexArrO a.toNat Try.underlying63 Try.sizeOf3 rfl rfl ⟨rfl, a.toNat_lt⟩ rfl ?_
        refine WL.nil ?_
        exact WX.one ⟨rfl, by first | exact Chg.refl _ _ | assumption⟩
      apply DQ.step (E' := [(20, _)])
      case ho => rfl
      case hs => exact ⟨rfl, trivial⟩
      case hk => rfl
      case h1 =>
        intro wq_8 kq_8
        have zs_kq_8 := kq_8.size
        replace hw := hw.pure kq_8
        replace hR := hR.pure kq_8
        refine WL.loadB Try.isAgg3 hR rfl (FR_l a) rfl ?_
        refine WL.nil ?_
        exact WX.one ⟨rfl, by first | exact Chg.refl _ _ | assumption⟩
      apply DQ.step (E' := [(0, _)])
      case ho => rfl
      case hs => exact ⟨rfl, trivial⟩
      case hk => rfl
      case h1 =>
        intro wq_9 kq_9
        refine WL.move rfl rfl (?_)
        refine WL.nil ?_
        exact WX.one ⟨rfl, by first | exact Chg.refl _ _ | assumption⟩
      apply DQ.step (E' := [(2, _)])
      case ho => rfl
      case hs => exact ⟨rfl, trivial⟩
      case hk => rfl
      case h1 =>
        intro wq_10 kq_10
        refine WL.move rfl rfl (?_)
        refine WL.nil ?_
        exact WX.one ⟨rfl, by first | exact Chg.refl _ _ | assumption⟩
      apply DQ.step (E' := [(22, _)])
      case ho => rfl
      case hs => exact ⟨rfl, trivial⟩
      case hk => rfl
      case h1 =>
        intro wq_11 kq_11
        refine WL.nilCheck rfl rfl (?_)
        refine WL.nil ?_
        exact WX.one ⟨rfl, by first | exact Chg.refl _ _ | assumption⟩
      apply DQ.step (E' := [(24, _)])
      case ho => rfl
      case hs => exact ⟨rfl, trivial⟩
      case hk => rfl
      case h1 =>
        intro wq_12 kq_12
        refine WL.fieldAddr (fld_65_2) rfl rfl (?_)
        refine WL.nil ?_
        exact WX.one ⟨rfl, by first | exact Chg.refl _ _ | assumption⟩
      apply DQ.step (E' := [(25, _), (23, _)])
      case ho => rfl
      case hs => exact ⟨rfl, rfl, trivial⟩
      case hk => rfl
      case h1 =>
        intro wq_13 kq_13
        have zs_kq_13 := kq_13.size
        replace hw := hw.pure kq_13
        replace hR := hR.pure kq_13
        refine WL.indexArrO b.toNat Try.underlying63 Try.sizeOf3 rfl rfl ⟨rfl, b.toNat_lt⟩ rfl ?_
        refine WL.nil ?_
        exact WX.one ⟨rfl, by first | exact Chg.refl _ _ | assumption⟩
      apply DQ.step (E' := [(26, _)])
      case ho => rfl
      case hs => exact ⟨rfl, trivial⟩
      case hk => rfl
      case h1 =>
        intro wq_14 kq_14
        have zs_kq_14 := kq_14.size
        replace hw := hw.pure kq_14
        replace hR := hR.pure kq_14
        refine WL.loadB Try.isAgg3 hR rfl (FR_l b) rfl ?_
        refine WL.nil ?_
        exact WX.one ⟨rfl, by first | exact Chg.refl _ _ | assumption⟩
      apply DQ.step (E' := [(21, _), (27, _)])
      case ho => rfl
      case hs => exact ⟨rfl, rfl, trivial⟩
      case hk => rfl
      case h1 =>
        intro wq_15 kq_15
        refine WL.add64 rfl rfl (by first | omega | (constructor <;> omega)) rfl (?_)
        refine WL.nil ?_
        exact WX.one ⟨rfl, by first | exact Chg.refl _ _ | assumption⟩
      apply DQ.step (E' := [(15, _)])
      case ho => rfl
      case hs => exact ⟨rfl, trivial⟩
      case hk => rfl
      case h1 =>
        intro wq_16 kq_16
        refine WL.nilCheck rfl rfl (?_)
        refine WL.nil ?_
        exact WX.one ⟨rfl, by first | exact Chg.refl _ _ | assumption⟩
      apply DQ.step (E' := [(29, _)])
      case ho => rfl
      case hs => exact ⟨rfl, trivial⟩
      case hk => rfl
      case h1 =>
        intro wq_17 kq_17
        refine WL.fieldAddr (fld_65_1) rfl rfl (?_)
        refine WL.nil ?_
        exact WX.one ⟨rfl, by first | exact Chg.refl _ _ | assumption⟩
      apply DQ.step (E' := [(30, _), (28, _)])
      case ho => rfl
      case hs => exact ⟨rfl, rfl, trivial⟩
      case hk => rfl
      case h1 =>
        intro wq_18 kq_18
        have zs_kq_18 := kq_18.size
        replace hw := hw.pure kq_18
        replace hR := hR.pure kq_18
        refine WL.indexArrO (L a + L b) Try.underlying62 Try.sizeOf5 rfl rfl ⟨by omega, by omega⟩ rfl ?_
        refine WL.nil ?_
        exact WX.one ⟨rfl, by first | exact Chg.refl _ _ | assumption⟩
      apply DQ.step (E' := [(31, _)])
      case ho => rfl
      case hs => exact ⟨rfl, trivial⟩
      case hk => rfl
      case h1 =>
        intro wq_19 kq_19
        have zs_kq_19 := kq_19.size
        replace hw := hw.pure kq_19
        replace hR := hR.pure kq_19
        refine WL.loadB Try.isAgg5 hR rfl (FR_e (by omega)) rfl ?_
        refine WL.nil ?_
        exact WX.one ⟨rfl, by first | exact Chg.refl _ _ | assumption⟩
      apply DQ.step (E' := [(32, _)])
      case ho => rfl
      case hs => exact ⟨rfl, trivial⟩
      case hk => rfl
      case h1 =>
        intro wq_20 kq_20
        refine WL.assign rfl rfl (?_)
        refine WL.nil ?_
        exact WX.one ⟨rfl, by first | exact Chg.refl _ _ | assumption⟩
      refine DQ.done (fun _ => ?_)
      refine DL.done (fun we_21 ke_21 => ?_)
      have zs_ke_21 := ke_21.size
      replace hw := hw.pure ke_21
      replace hR := hR.pure ke_21
      refine WX.then_normal (WC.ret (?_))
      refine WX.ret1 (.inl rfl) Try.results15 rfl ?_
      first
        | (exfalso; exact ha (u8_zero h8))
        | (exfalso; exact hb (u8_zero h11))
        | (refine ⟨_, rfl, ?_, hR, hw⟩
           rw [mul, if_neg (by rintro (h | h); exact u8_ne h8 h; exact u8_ne h11 h)])
set_option maxRecDepth 100000 in
theorem powR_two (m : Nat) : powR 2 (m : Int) = (G m, 0) := by
  have hL : L 2 = 1 := by decide +kernel
  rw [powR, if_neg (by omega)]
  by_cases hm : (m : Int) = 0
  · rw [if_pos hm, show m = 0 from by omega, G_zero]
  · rw [if_neg hm, if_neg (by decide), hL, Int.toNat_natCast, Nat.one_mul, Nat.mod_mod, G]
theorem weights_calls {w : World} {g : Nat} (hF : Fld w g) (i : Nat) : Calls Try.prog 50 [.pointer (some ⟨g, 0, none⟩), vi i].toArray w (Ret fun v w' => v = .agg ([wtq 0 i, wtq 1 i, wtq 2 i].map v8).toArray ∧ Blk w' g 65 FR ∧ Chg (fun x => x = g) w w') := by
  have hw := Chg.refl (fun x => x = g) w
  have lg := hF.lt
  refine Calls.of_WC Try.func50 rfl Try.ntmps50 (by simp) ?_
  refine WC.seq (WC.region (?_))
  refine WL.alloc Try.zeroValue84 rfl ?_
  intro g_1 w_1 hge_1 hlt_1 hb_1 k_1
  have zs_k_1 := k_1.size
  replace hF := hF.pure k_1
  replace hw := hw.pure k_1
  refine WL.nil (WX.then_normal (WC.seq (WC.region (WL.move rfl rfl (WL.move rfl rfl (?_))))))
  refine WL.call eg_54 rfl rfl (pow_calls hF 2 i) ?_
  rintro v w1 ⟨rfl, hF2, k⟩
  rw [powR_two]
  have zs_k := k.size
  replace hw := hw.chg k (by first | (intro x h1 h2; exact h2) | (intro x h0 h1 h2; exact hS x h1 h2) | (intro x h0 h1 h2; have h3 : _ = _ := h2; subst h3; exact hSR h1.1) | (intro x h1 h2; have h3 : _ = _ := h2; subst h3; assumption) | (intro x h1 h2; have h3 : _ = _ := h2; exfalso; omega) | (intro b h1 h2 h3; have h4 : _ = _ := h3; (try dsimp only at h2); exfalso; omega) | (intro h1; have h2 : _ = _ := h1; exfalso; omega) | (intro h1; have h2 : _ ≤ _ := h1; exfalso; omega) | (intros; exfalso; (try dsimp only at *); omega) | (intro b h1 h2 h3; exfalso; have h4 := h3.2; (try dsimp only at *); omega) | (intro h1; exfalso; have h4 := h1.2; (try dsimp only at *); omega) | (intro x h1 h2; exfalso; have h4 := h2.2; (try dsimp only at *); omega) | (intro x h1 h2; exact ⟨_, rfl, h2⟩) | (intro x h1 h2; have h4 := h2.1; have h5 := h2.2; exfalso; omega) | (intro x h1 h2; exact h2.1) | (intro x h1 h2; rcases h2.1 with h3 | h3; exact h3; exfalso; omega) | (intro x h1 h2; rcases h2 with h3 | h3; exact h3; exfalso; omega))
  replace hb_1 := hb_1.chg k (by first | (intro x h1 h2; exact h2) | (intro x h0 h1 h2; exact hS x h1 h2) | (intro x h0 h1 h2; have h3 : _ = _ := h2; subst h3; exact hSR h1.1) | (intro x h1 h2; have h3 : _ = _ := h2; subst h3; assumption) | (intro x h1 h2; have h3 : _ = _ := h2; exfalso; omega) | (intro b h1 h2 h3; have h4 : _ = _ := h3; (try dsimp only at h2); exfalso; omega) | (intro h1; have h2 : _ = _ := h1; exfalso; omega) | (intro h1; have h2 : _ ≤ _ := h1; exfalso; omega) | (intros; exfalso; (try dsimp only at *); omega) | (intro b h1 h2 h3; exfalso; have h4 := h3.2; (try dsimp only at *); omega) | (intro h1; exfalso; have h4 := h1.2; (try dsimp only at *); omega) | (intro x h1 h2; exfalso; have h4 := h2.2; (try dsimp only at *); omega) | (intro x h1 h2; exact ⟨_, rfl, h2⟩) | (intro x h1 h2; have h4 := h2.1; have h5 := h2.2; exfalso; omega) | (intro x h1 h2; exact h2.1) | (intro x h1 h2; rcases h2.1 with h3 | h3; exact h3; exfalso; omega) | (intro x h1 h2; rcases h2 with h3 | h3; exact h3; exfalso; omega))
  replace hF := hF2
  refine WL.move rfl rfl (WL.extract rfl rfl rfl (WL.extract rfl rfl rfl (WL.assign rfl rfl (WL.assign rfl rfl (WL.nil (WX.then_normal (WC.seq (?_))))))))
  refine WC.region (WL.move rfl rfl (WL.move rfl rfl (WL.move rfl rfl (WL.move rfl rfl (?_)))))
  refine WL.call eg_15 rfl rfl (mulT_calls hF (G i) (G i) (G_ne i) (G_ne i)) ?_
  rintro v w1 ⟨rfl, hR, k⟩
  have zs_k := k.size
  replace hw := hw.chg k (by first | (intro x h1 h2; exact h2) | (intro x h0 h1 h2; exact hS x h1 h2) | (intro x h0 h1 h2; have h3 : _ = _ := h2; subst h3; exact hSR h1.1) | (intro x h1 h2; have h3 : _ = _ := h2; subst h3; assumption) | (intro x h1 h2; have h3 : _ = _ := h2; exfalso; omega) | (intro b h1 h2 h3; have h4 : _ = _ := h3; (try dsimp only at h2); exfalso; omega) | (intro h1; have h2 : _ = _ := h1; exfalso; omega) | (intro h1; have h2 : _ ≤ _ := h1; exfalso; omega) | (intros; exfalso; (try dsimp only at *); omega) | (intro b h1 h2 h3; exfalso; have h4 := h3.2; (try dsimp only at *); omega) | (intro h1; exfalso; have h4 := h1.2; (try dsimp only at *); omega) | (intro x h1 h2; exfalso; have h4 := h2.2; (try dsimp only at *); omega) | (intro x h1 h2; exact ⟨_, rfl, h2⟩) | (intro x h1 h2; have h4 := h2.1; have h5 := h2.2; exfalso; omega) | (intro x h1 h2; exact h2.1) | (intro x h1 h2; rcases h2.1 with h3 | h3; exact h3; exfalso; omega) | (intro x h1 h2; rcases h2 with h3 | h3; exact h3; exfalso; omega))
  replace hb_1 := hb_1.chg k (by first | (intro x h1 h2; exact h2) | (intro x h0 h1 h2; exact hS x h1 h2) | (intro x h0 h1 h2; have h3 : _ = _ := h2; subst h3; exact hSR h1.1) | (intro x h1 h2; have h3 : _ = _ := h2; subst h3; assumption) | (intro x h1 h2; have h3 : _ = _ := h2; exfalso; omega) | (intro b h1 h2 h3; have h4 : _ = _ := h3; (try dsimp only at h2); exfalso; omega) | (intro h1; have h2 : _ = _ := h1; exfalso; omega) | (intro h1; have h2 : _ ≤ _ := h1; exfalso; omega) | (intros; exfalso; (try dsimp only at *); omega) | (intro b h1 h2 h3; exfalso; have h4 := h3.2; (try dsimp only at *); omega) | (intro h1; exfalso; have h4 := h1.2; (try dsimp only at *); omega) | (intro x h1 h2; exfalso; have h4 := h2.2; (try dsimp only at *); omega) | (intro x h1 h2; exact ⟨_, rfl, h2⟩) | (intro x h1 h2; have h4 := h2.1; have h5 := h2.2; exfalso; omega) | (intro x h1 h2; exact h2.1) | (intro x h1 h2; rcases h2.1 with h3 | h3; exact h3; exfalso; omega) | (intro x h1 h2; rcases h2 with h3 | h3; exact h3; exfalso; omega))
  refine WL.bld rfl (bld_84_0_1_2 _ _ _) rfl (?_)
  refine WL.stores Try.sizeOf84 hb_1 rfl rfl (by first | (simp; done) | (simp; omega) | rfl) (by first | exact Enc.one _ _ | (intro u hu; obtain ⟨x, _, rfl⟩ := List.mem_map.1 hu; rfl) | (simp [Value.oneCell']; done) | (simp [Value.oneCell', Value.cells]; done)) (by first | (simp; done) | (simp; omega) | (simp [Value.cells]; done) | (simp [Value.cells]; omega) | exact Nat.le_of_ble_eq_true rfl) rfl ?_
  intro w_2 hs_2 hn_2 k_2
  have zs_k_2 := k_2.size
  replace hw := hw.chg k_2 (by first | (intro x h1 h2; exact h2) | (intro x h0 h1 h2; exact hS x h1 h2) | (intro x h0 h1 h2; have h3 : _ = _ := h2; subst h3; exact hSR h1.1) | (intro x h1 h2; have h3 : _ = _ := h2; subst h3; assumption) | (intro x h1 h2; have h3 : _ = _ := h2; exfalso; omega) | (intro b h1 h2 h3; have h4 : _ = _ := h3; (try dsimp only at h2); exfalso; omega) | (intro h1; have h2 : _ = _ := h1; exfalso; omega) | (intro h1; have h2 : _ ≤ _ := h1; exfalso; omega) | (intros; exfalso; (try dsimp only at *); omega) | (intro b h1 h2 h3; exfalso; have h4 := h3.2; (try dsimp only at *); omega) | (intro h1; exfalso; have h4 := h1.2; (try dsimp only at *); omega) | (intro x h1 h2; exfalso; have h4 := h2.2; (try dsimp only at *); omega) | (intro x h1 h2; exact ⟨_, rfl, h2⟩) | (intro x h1 h2; have h4 := h2.1; have h5 := h2.2; exfalso; omega) | (intro x h1 h2; exact h2.1) | (intro x h1 h2; rcases h2.1 with h3 | h3; exact h3; exfalso; omega) | (intro x h1 h2; rcases h2 with h3 | h3; exact h3; exfalso; omega))
  replace hR := hR.chg k_2 (by first | (intro x h1 h2; exact h2) | (intro x h0 h1 h2; exact hS x h1 h2) | (intro x h0 h1 h2; have h3 : _ = _ := h2; subst h3; exact hSR h1.1) | (intro x h1 h2; have h3 : _ = _ := h2; subst h3; assumption) | (intro x h1 h2; have h3 : _ = _ := h2; exfalso; omega) | (intro b h1 h2 h3; have h4 : _ = _ := h3; (try dsimp only at h2); exfalso; omega) | (intro h1; have h2 : _ = _ := h1; exfalso; omega) | (intro h1; have h2 : _ ≤ _ := h1; exfalso; omega) | (intros; exfalso; (try dsimp only at *); omega) | (intro b h1 h2 h3; exfalso; have h4 := h3.2; (try dsimp only at *); omega) | (intro h1; exfalso; have h4 := h1.2; (try dsimp only at *); omega) | (intro x h1 h2; exfalso; have h4 := h2.2; (try dsimp only at *); omega) | (intro x h1 h2; exact ⟨_, rfl, h2⟩) | (intro x h1 h2; have h4 := h2.1; have h5 := h2.2; exfalso; omega) | (intro x h1 h2; exact h2.1) | (intro x h1 h2; rcases h2.1 with h3 | h3; exact h3; exfalso; omega) | (intro x h1 h2; rcases h2 with h3 | h3; exact h3; exfalso; omega))
  replace hb_1 := hn_2
  refine WL.nil (WX.then_normal (WC.ret (?_)))
  refine WX.ret1c (.inl rfl) Try.results50 Try.isAgg84 Try.sizeOf84 hb_1 rfl (by first | (simp; done) | (simp; omega) | rfl) ?_
  exact ⟨_, rfl, rfl, hR, hw⟩
end Go.Proofs.Ytjdbjdgobhjbkaa
