import Derived.Test.YtjdbjdgobhjbkaaQParityHeals2
namespace Go.Proofs.Ytjdbjdgobhjbkaa
open Go.RowKit Go.HL

theorem mul_calls {w : World} {g : Nat} (hF : Fld w g) (a b : UInt8) : Calls Try.prog 15 [.pointer (some ⟨g, 0, none⟩), v8 a, v8 b].toArray w (Ret fun v w' => v = v8 (mul a b) ∧ Fld w' g ∧ Chg (fun x => x = g) w w') := by
  have hw := Chg.refl (fun x => x = g) w
  have hla := L_lt a
  have hlb := L_lt b
  refine Calls.of_WC Try.func15 rfl Try.ntmps15 (by simp) ?_
  refine WC.seq (WC.region (WL.assign rfl rfl (WL.nil (WX.then_normal (WC.seq (WC.seq (WC.region (?_))))))))
  refine WL.move rfl rfl (?_)
  refine WL.eql? rfl rfl rfl (fun h8 => ?_) (fun h8 => ?_)
  ·
    refine WL.move rfl rfl (WL.pass rfl rfl rfl rfl (WL.pass rfl rfl rfl rfl (WL.pickT rfl rfl rfl (WL.nil (WX.then_normal (WC.cond_true rfl (WC.seq (?_))))))))
    refine WC.region (WL.assign rfl rfl (WL.nil (WX.then_normal (WC.ret (WX.then_ret (?_))))))
    refine WX.ret1 (.inl rfl) Try.results15 rfl ?_
    first
      | (have ha := u8_zero h8
         subst ha
         refine ⟨_, rfl, ?_, hF, hw⟩
         rw [mul_zero_l]
         rfl)
      | (have hb := u8_zero h11
         subst hb
         refine ⟨_, rfl, ?_, hF, hw⟩
         rw [mul_zero_r]
         rfl)
      | (refine ⟨_, rfl, ?_, .inr hR, hw⟩
         rw [mul, if_neg (by rintro (h | h); exact u8_ne h8 h; exact u8_ne h11 h)])
  ·
    refine WL.move rfl rfl (WL.want rfl rfl rfl (WL.move rfl rfl (WL.want rfl rfl rfl (?_))))
    refine WL.eql? rfl rfl rfl (fun h11 => ?_) (fun h11 => ?_)
    ·
      refine WL.pickF rfl rfl rfl (WL.nil (WX.then_normal (WC.cond_true rfl (WC.seq (WC.region (WL.assign rfl rfl (WL.nil (?_))))))))
      refine WX.then_normal (WC.ret (WX.then_ret (?_)))
      refine WX.ret1 (.inl rfl) Try.results15 rfl ?_
      first
        | (have ha := u8_zero h8
           subst ha
           refine ⟨_, rfl, ?_, hF, hw⟩
           rw [mul_zero_l]
           rfl)
        | (have hb := u8_zero h11
           subst hb
           refine ⟨_, rfl, ?_, hF, hw⟩
           rw [mul_zero_r]
           rfl)
        | (refine ⟨_, rfl, ?_, .inr hR, hw⟩
           rw [mul, if_neg (by rintro (h | h); exact u8_ne h8 h; exact u8_ne h11 h)])
    ·
      refine WL.pickF rfl rfl rfl (WL.nil (WX.then_normal (WC.cond_false rfl (WC.skip (WX.then_normal (WC.seq (WC.region (?_))))))))
      refine WL.move rfl rfl (?_)
      refine WL.call eg_29 rfl rfl (ready_calls hF) ?_
      rintro v w2 ⟨rfl, hR, k⟩
      have zs_k := k.size
      replace hw := hw.chg k (by first | (intro x h1 h2; exact h2) | (intro x h0 h1 h2; exact hS x h1 h2) | (intro x h0 h1 h2; have h3 : _ = _ := h2; subst h3; exact hSR h1.1) | (intro x h1 h2; have h3 : _ = _ := h2; subst h3; assumption) | (intro x h1 h2; have h3 : _ = _ := h2; exfalso; omega) | (intro b h1 h2 h3; have h4 : _ = _ := h3; (try dsimp only at h2); exfalso; omega) | (intro h1; have h2 : _ = _ := h1; exfalso; omega) | (intro h1; have h2 : _ ≤ _ := h1; exfalso; omega) | (intros; exfalso; (try dsimp only at *); omega) | (intro b h1 h2 h3; exfalso; have h4 := h3.2; (try dsimp only at *); omega) | (intro h1; exfalso; have h4 := h1.2; (try dsimp only at *); omega) | (intro x h1 h2; exfalso; have h4 := h2.2; (try dsimp only at *); omega) | (intro x h1 h2; exact ⟨_, rfl, h2⟩) | (intro x h1 h2; have h4 := h2.1; have h5 := h2.2; exfalso; omega) | (intro x h1 h2; exact h2.1) | (intro x h1 h2; rcases h2.1 with h3 | h3; exact h3; exfalso; omega) | (intro x h1 h2; rcases h2 with h3 | h3; exact h3; exfalso; omega))
      refine WL.assign rfl rfl (WL.nil (WX.then_normal (WC.seq (?_))))
      refine WC.draw (Nob) [0, 1, 2, 3, 4, 5, 6, 7, 8, 9, 10, 11, 12, 13, 14, 15, 16, 17, 18] [] mixed rfl rfl (fun wd_1 kd_1 zd_1 => ?_)
      have zs_kd_1 := kd_1.size
      replace hw := hw.pure kd_1
      replace hR := hR.pure kd_1
      apply DQ.step (E' := [(0, _)])
      case ho => rfl
      case hs => exact ⟨rfl, trivial⟩
      case hk => rfl
      case h1 =>
        intro wq_2 kq_2
        refine WL.move rfl rfl (?_)
        refine WL.nil ?_
        exact WX.one ⟨rfl, by first | exact Chg.refl _ _ | assumption⟩
      apply DQ.step (E' := [(0, _)])
      case ho => rfl
      case hs => exact ⟨rfl, trivial⟩
      case hk => rfl
      case h1 =>
        intro wq_3 kq_3
        refine WL.move rfl rfl (?_)
        refine WL.nil ?_
        exact WX.one ⟨rfl, by first | exact Chg.refl _ _ | assumption⟩
      apply DQ.step (E' := [(1, _)])
      case ho => rfl
      case hs => exact ⟨rfl, trivial⟩
      case hk => rfl
      case h1 =>
        intro wq_4 kq_4
        refine WL.move rfl rfl (?_)
        refine WL.nil ?_
        exact WX.one ⟨rfl, by first | exact Chg.refl _ _ | assumption⟩
      apply DQ.step (E' := [(16, _)])
      case ho => rfl
      case hs => exact ⟨rfl, trivial⟩
      case hk => rfl
      case h1 =>
        intro wq_5 kq_5
        refine WL.nilCheck rfl rfl (?_)
        refine WL.nil ?_
        exact WX.one ⟨rfl, by first | exact Chg.refl _ _ | assumption⟩
      apply DQ.step (E' := [(18, _)])
      case ho => rfl
      case hs => exact ⟨rfl, trivial⟩
      case hk => rfl
      case h1 =>
        intro wq_6 kq_6
        refine WL.fieldAddr (fld_65_2) rfl rfl (?_)
        refine WL.nil ?_
        exact WX.one ⟨rfl, by first | exact Chg.refl _ _ | assumption⟩
      apply DQ.step (E' := [(19, _), (17, _)])
      case ho => rfl
      case hs => exact ⟨rfl, rfl, trivial⟩
      case hk => rfl
      case h1 =>
        intro wq_7 kq_7
        have zs_kq_7 := kq_7.size
        replace hw := hw.pure kq_7
        replace hR := hR.pure kq_7
        refine WL.indexArrO a.toNat Try.underlying63 Try.sizeOf3 rfl rfl ⟨rfl, a.toNat_lt⟩ rfl ?_
        refine WL.nil ?_
        exact WX.one ⟨rfl, by first | exact Chg.refl _ _ | assumption⟩
      apply DQ.step (E' := [(20, _)])
      case ho => rfl
      case hs => exact ⟨rfl, trivial⟩
      case hk => rfl
      case h1 =>
        intro wq_8 kq_8
        have zs_kq_8 := kq_8.size
        replace hw := hw.pure kq_8
        replace hR := hR.pure kq_8
        refine WL.loadB Try.isAgg3 hR rfl (FR_l a) rfl ?_
        refine WL.nil ?_
        exact WX.one ⟨rfl, by first | exact Chg.refl _ _ | assumption⟩
      apply DQ.step (E' := [(0, _)])
      case ho => rfl
      case hs => exact ⟨rfl, trivial⟩
      case hk => rfl
      case h1 =>
        intro wq_9 kq_9
        refine WL.move rfl rfl (?_)
        refine WL.nil ?_
        exact WX.one ⟨rfl, by first | exact Chg.refl _ _ | assumption⟩
      apply DQ.step (E' := [(2, _)])
      case ho => rfl
      case hs => exact ⟨rfl, trivial⟩
      case hk => rfl
      case h1 =>
        intro wq_10 kq_10
        refine WL.move rfl rfl (?_)
        refine WL.nil ?_
        exact WX.one ⟨rfl, by first | exact Chg.refl _ _ | assumption⟩
      apply DQ.step (E' := [(22, _)])
      case ho => rfl
      case hs => exact ⟨rfl, trivial⟩
      case hk => rfl
      case h1 =>
        intro wq_11 kq_11
        refine WL.nilCheck rfl rfl (?_)
        refine WL.nil ?_
        exact WX.one ⟨rfl, by first | exact Chg.refl _ _ | assumption⟩
      apply DQ.step (E' := [(24, _)])
      case ho => rfl
      case hs => exact ⟨rfl, trivial⟩
      case hk => rfl
      case h1 =>
        intro wq_12 kq_12
        refine WL.fieldAddr (fld_65_2) rfl rfl (?_)
        refine WL.nil ?_
        exact WX.one ⟨rfl, by first | exact Chg.refl _ _ | assumption⟩
      apply DQ.step (E' := [(25, _), (23, _)])
      case ho => rfl
      case hs => exact ⟨rfl, rfl, trivial⟩
      case hk => rfl
      case h1 =>
        intro wq_13 kq_13
        have zs_kq_13 := kq_13.size
        replace hw := hw.pure kq_13
        replace hR := hR.pure kq_13
        refine WL.indexArrO b.toNat Try.underlying63 Try.sizeOf3 rfl rfl ⟨rfl, b.toNat_lt⟩ rfl ?_
        refine WL.nil ?_
        exact WX.one ⟨rfl, by first | exact Chg.refl _ _ | assumption⟩
      apply DQ.step (E' := [(26, _)])
      case ho => rfl
      case hs => exact ⟨rfl, trivial⟩
      case hk => rfl
      case h1 =>
        intro wq_14 kq_14
        have zs_kq_14 := kq_14.size
        replace hw := hw.pure kq_14
        replace hR := hR.pure kq_14
        refine WL.loadB Try.isAgg3 hR rfl (FR_l b) rfl ?_
        refine WL.nil ?_
        exact WX.one ⟨rfl, by first | exact Chg.refl _ _ | assumption⟩
      apply DQ.step (E' := [(21, _), (27, _)])
      case ho => rfl
      case hs => exact ⟨rfl, rfl, trivial⟩
      case hk => rfl
      case h1 =>
        intro wq_15 kq_15
        refine WL.add64 rfl rfl (by first | omega | (constructor <;> omega)) rfl (?_)
        refine WL.nil ?_
        exact WX.one ⟨rfl, by first | exact Chg.refl _ _ | assumption⟩
      apply DQ.step (E' := [(15, _)])
      case ho => rfl
      case hs => exact ⟨rfl, trivial⟩
      case hk => rfl
      case h1 =>
        intro wq_16 kq_16
        refine WL.nilCheck rfl rfl (?_)
        refine WL.nil ?_
        exact WX.one ⟨rfl, by first | exact Chg.refl _ _ | assumption⟩
      apply DQ.step (E' := [(29, _)])
      case ho => rfl
      case hs => exact ⟨rfl, trivial⟩
      case hk => rfl
      case h1 =>
        intro wq_17 kq_17
        refine WL.fieldAddr (fld_65_1) rfl rfl (?_)
        refine WL.nil ?_
        exact WX.one ⟨rfl, by first | exact Chg.refl _ _ | assumption⟩
      apply DQ.step (E' := [(30, _), (28, _)])
      case ho => rfl
      case hs => exact ⟨rfl, rfl, trivial⟩
      case hk => rfl
      case h1 =>
        intro wq_18 kq_18
        have zs_kq_18 := kq_18.size
        replace hw := hw.pure kq_18
        replace hR := hR.pure kq_18
        refine WL.indexArrO (L a + L b) Try.underlying62 Try.sizeOf5 rfl rfl ⟨by omega, by omega⟩ rfl ?_
        refine WL.nil ?_
        exact WX.one ⟨rfl, by first | exact Chg.refl _ _ | assumption⟩
      apply DQ.step (E' := [(31, _)])
      case ho => rfl
      case hs => exact ⟨rfl, trivial⟩
      case hk => rfl
      case h1 =>
        intro wq_19 kq_19
        have zs_kq_19 := kq_19.size
        replace hw := hw.pure kq_19
        replace hR := hR.pure kq_19
        refine WL.loadB Try.isAgg5 hR rfl (FR_e (by omega)) rfl ?_
        refine WL.nil ?_
        exact WX.one ⟨rfl, by first | exact Chg.refl _ _ | assumption⟩
      apply DQ.step (E' := [(32, _)])
      case ho => rfl
      case hs => exact ⟨rfl, trivial⟩
      case hk => rfl
      case h1 =>
        intro wq_20 kq_20
        refine WL.assign rfl rfl (?_)
        refine WL.nil ?_
        exact WX.one ⟨rfl, by first | exact Chg.refl _ _ | assumption⟩
      refine DQ.done (fun _ => ?_)
      refine DL.done (fun we_21 ke_21 => ?_)
      have zs_ke_21 := ke_21.size
      replace hw := hw.pure ke_21
      replace hR := hR.pure ke_21
      refine WX.then_normal (WC.ret (?_))
      refine WX.ret1 (.inl rfl) Try.results15 rfl ?_
      first
        | (have ha := u8_zero h8
           subst ha
           refine ⟨_, rfl, ?_, hF, hw⟩
           rw [mul_zero_l]
           rfl)
        | (have hb := u8_zero h11
           subst hb
           refine ⟨_, rfl, ?_, hF, hw⟩
           rw [mul_zero_r]
           rfl)
        | (refine ⟨_, rfl, ?_, .inr hR, hw⟩
           rw [mul, if_neg (by rintro (h | h); exact u8_ne h8 h; exact u8_ne h11 h)])
theorem mul_nil {w : World} (a b : UInt8) : Calls Try.prog 15 [.pointer none, v8 a, v8 b].toArray w (Ret fun v w' => v = v8 (mul a b) ∧ Chg Nob w w') := by
  have hw := Chg.refl Nob w
  have hla := L_lt a
  have hlb := L_lt b
  refine Calls.of_WC Try.func15 rfl Try.ntmps15 (by simp) ?_
  refine WC.seq (WC.region (WL.assign rfl rfl (WL.nil (WX.then_normal (WC.seq (WC.seq (WC.region (?_))))))))
  refine WL.move rfl rfl (?_)
  refine WL.eql? rfl rfl rfl (fun h8 => ?_) (fun h8 => ?_)
  ·
    refine WL.move rfl rfl (WL.pass rfl rfl rfl rfl (WL.pass rfl rfl rfl rfl (WL.pickT rfl rfl rfl (WL.nil (WX.then_normal (WC.cond_true rfl (WC.seq (?_))))))))
    refine WC.region (WL.assign rfl rfl (WL.nil (WX.then_normal (WC.ret (WX.then_ret (?_))))))
    refine WX.ret1 (.inl rfl) Try.results15 rfl ?_
    first
      | (have ha := u8_zero h8
         subst ha
         refine ⟨_, rfl, ?_, hw⟩
         rw [mul_zero_l]
         rfl)
      | (have hb := u8_zero h11
         subst hb
         refine ⟨_, rfl, ?_, hw⟩
         rw [mul_zero_r]
         rfl)
      | (refine ⟨_, rfl, ?_, hw⟩
         rw [mul, if_neg (by rintro (h | h); exact u8_ne h8 h; exact u8_ne h11 h)])
  ·
    refine WL.move rfl rfl (WL.want rfl rfl rfl (WL.move rfl rfl (WL.want rfl rfl rfl (?_))))
    refine WL.eql? rfl rfl rfl (fun h11 => ?_) (fun h11 => ?_)
    ·
      refine WL.pickF rfl rfl rfl (WL.nil (WX.then_normal (WC.cond_true rfl (WC.seq (WC.region (WL.assign rfl rfl (WL.nil (?_))))))))
      refine WX.then_normal (WC.ret (WX.then_ret (?_)))
      refine WX.ret1 (.inl rfl) Try.results15 rfl ?_
      first
        | (have ha := u8_zero h8
           subst ha
           refine ⟨_, rfl, ?_, hw⟩
           rw [mul_zero_l]
           rfl)
        | (have hb := u8_zero h11
           subst hb
           refine ⟨_, rfl, ?_, hw⟩
           rw [mul_zero_r]
           rfl)
        | (refine ⟨_, rfl, ?_, hw⟩
           rw [mul, if_neg (by rintro (h | h); exact u8_ne h8 h; exact u8_ne h11 h)])
    ·
      refine WL.pickF rfl rfl rfl (WL.nil (WX.then_normal (WC.cond_false rfl (WC.skip (WX.then_normal (WC.seq (WC.region (?_))))))))
      refine WL.move rfl rfl (?_)
      refine WL.call eg_29 rfl rfl (ready_nil _) ?_
      rintro v w2 ⟨⟨g, rfl, hR, hg⟩, k⟩
      have zs_k := k.size
      replace hw := hw.pure k
      refine WL.assign rfl rfl (WL.nil (WX.then_normal (WC.seq (?_))))
      refine WC.draw (Nob) [0, 1, 2, 3, 4, 5, 6, 7, 8, 9, 10, 11, 12, 13, 14, 15, 16, 17, 18] [] mixed rfl rfl (fun wd_1 kd_1 zd_1 => ?_)
      have zs_kd_1 := kd_1.size
      replace hw := hw.pure kd_1
      replace hR := hR.pure kd_1
      apply DQ.step (E' := [(0, _)])
      case ho => rfl
      case hs => exact ⟨rfl, trivial⟩
      case hk => rfl
      case h1 =>
        intro wq_2 kq_2
        refine WL.move rfl rfl (?_)
        refine WL.nil ?_
        exact WX.one ⟨rfl, by first | exact Chg.refl _ _ | assumption⟩
      apply DQ.step (E' := [(0, _)])
      case ho => rfl
      case hs => exact ⟨rfl, trivial⟩
      case hk => rfl
      case h1 =>
        intro wq_3 kq_3
        refine WL.move rfl rfl (?_)
        refine WL.nil ?_
        exact WX.one ⟨rfl, by first | exact Chg.refl _ _ | assumption⟩
      apply DQ.step (E' := [(1, _)])
      case ho => rfl
      case hs => exact ⟨rfl, trivial⟩
      case hk => rfl
      case h1 =>
        intro wq_4 kq_4
        refine WL.move rfl rfl (?_)
        refine WL.nil ?_
        exact WX.one ⟨rfl, by first | exact Chg.refl _ _ | assumption⟩
      apply DQ.step (E' := [(16, _)])
      case ho => rfl
      case hs => exact ⟨rfl, trivial⟩
      case hk => rfl
      case h1 =>
        intro wq_5 kq_5
        refine WL.nilCheck rfl rfl (?_)
        refine WL.nil ?_
        exact WX.one ⟨rfl, by first | exact Chg.refl _ _ | assumption⟩
      apply DQ.step (E' := [(18, _)])
      case ho => rfl
      case hs => exact ⟨rfl, trivial⟩
      case hk => rfl
      case h1 =>
        intro wq_6 kq_6
        refine WL.fieldAddr (fld_65_2) rfl rfl (?_)
        refine WL.nil ?_
        exact WX.one ⟨rfl, by first | exact Chg.refl _ _ | assumption⟩
      apply DQ.step (E' := [(19, _), (17, _)])
      case ho => rfl
      case hs => exact ⟨rfl, rfl, trivial⟩
      case hk => rfl
      case h1 =>
        intro wq_7 kq_7
        have zs_kq_7 := kq_7.size
        replace hw := hw.pure kq_7
        replace hR := hR.pure kq_7
        refine WL.indexArrO a.toNat Try.underlying63 Try.sizeOf3 rfl rfl ⟨rfl, a.toNat_lt⟩ rfl ?_
        refine WL.nil ?_
        exact WX.one ⟨rfl, by first | exact Chg.refl _ _ | assumption⟩
      apply DQ.step (E' := [(20, _)])
      case ho => rfl
      case hs => exact ⟨rfl, trivial⟩
      case hk => rfl
      case h1 =>
        intro wq_8 kq_8
        have zs_kq_8 := kq_8.size
        replace hw := hw.pure kq_8
        replace hR := hR.pure kq_8
        refine WL.loadB Try.isAgg3 hR rfl (FR_l a) rfl ?_
        refine WL.nil ?_
        exact WX.one ⟨rfl, by first | exact Chg.refl _ _ | assumption⟩
      apply DQ.step (E' := [(0, _)])
      case ho => rfl
      case hs => exact ⟨rfl, trivial⟩
      case hk => rfl
      case h1 =>
        intro wq_9 kq_9
        refine WL.move rfl rfl (?_)
        refine WL.nil ?_
        exact WX.one ⟨rfl, by first | exact Chg.refl _ _ | assumption⟩
      apply DQ.step (E' := [(2, _)])
      case ho => rfl
      case hs => exact ⟨rfl, trivial⟩
      case hk => rfl
      case h1 =>
        intro wq_10 kq_10
        refine WL.move rfl rfl (?_)
        refine WL.nil ?_
        exact WX.one ⟨rfl, by first | exact Chg.refl _ _ | assumption⟩
      apply DQ.step (E' := [(22, _)])
      case ho => rfl
      case hs => exact ⟨rfl, trivial⟩
      case hk => rfl
      case h1 =>
        intro wq_11 kq_11
        refine WL.nilCheck rfl rfl (?_)
        refine WL.nil ?_
        exact WX.one ⟨rfl, by first | exact Chg.refl _ _ | assumption⟩
      apply DQ.step (E' := [(24, _)])
      case ho => rfl
      case hs => exact ⟨rfl, trivial⟩
      case hk => rfl
      case h1 =>
        intro wq_12 kq_12
        refine WL.fieldAddr (fld_65_2) rfl rfl (?_)
        refine WL.nil ?_
        exact WX.one ⟨rfl, by first | exact Chg.refl _ _ | assumption⟩
      apply DQ.step (E' := [(25, _), (23, _)])
      case ho => rfl
      case hs => exact ⟨rfl, rfl, trivial⟩
      case hk => rfl
      case h1 =>
        intro wq_13 kq_13
        have zs_kq_13 := kq_13.size
        replace hw := hw.pure kq_13
        replace hR := hR.pure kq_13
        refine WL.indexArrO b.toNat Try.underlying63 Try.sizeOf3 rfl rfl ⟨rfl, b.toNat_lt⟩ rfl ?_
        refine WL.nil ?_
        exact WX.one ⟨rfl, by first | exact Chg.refl _ _ | assumption⟩
      apply DQ.step (E' := [(26, _)])
      case ho => rfl
      case hs => exact ⟨rfl, trivial⟩
      case hk => rfl
      case h1 =>
        intro wq_14 kq_14
        have zs_kq_14 := kq_14.size
        replace hw := hw.pure kq_14
        replace hR := hR.pure kq_14
        refine WL.loadB Try.isAgg3 hR rfl (FR_l b) rfl ?_
        refine WL.nil ?_
        exact WX.one ⟨rfl, by first | exact Chg.refl _ _ | assumption⟩
      apply DQ.step (E' := [(21, _), (27, _)])
      case ho => rfl
      case hs => exact ⟨rfl, rfl, trivial⟩
      case hk => rfl
      case h1 =>
        intro wq_15 kq_15
        refine WL.add64 rfl rfl (by first | omega | (constructor <;> omega)) rfl (?_)
        refine WL.nil ?_
        exact WX.one ⟨rfl, by first | exact Chg.refl _ _ | assumption⟩
      apply DQ.step (E' := [(15, _)])
      case ho => rfl
      case hs => exact ⟨rfl, trivial⟩
      case hk => rfl
      case h1 =>
        intro wq_16 kq_16
        refine WL.nilCheck rfl rfl (?_)
        refine WL.nil ?_
        exact WX.one ⟨rfl, by first | exact Chg.refl _ _ | assumption⟩
      apply DQ.step (E' := [(29, _)])
      case ho => rfl
      case hs => exact ⟨rfl, trivial⟩
      case hk => rfl
      case h1 =>
        intro wq_17 kq_17
        refine WL.fieldAddr (fld_65_1) rfl rfl (?_)
        refine WL.nil ?_
        exact WX.one ⟨rfl, by first | exact Chg.refl _ _ | assumption⟩
      apply DQ.step (E' := [(30, _), (28, _)])
      case ho => rfl
      case hs => exact ⟨rfl, rfl, trivial⟩
      case hk => rfl
      case h1 =>
        intro wq_18 kq_18
        have zs_kq_18 := kq_18.size
        replace hw := hw.pure kq_18
        replace hR := hR.pure kq_18
        refine WL.indexArrO (L a + L b) Try.underlying62 Try.sizeOf5 rfl rfl ⟨by omega, by omega⟩ rfl ?_
        refine WL.nil ?_
        exact WX.one ⟨rfl, by first | exact Chg.refl _ _ | assumption⟩
      apply DQ.step (E' := [(31, _)])
      case ho => rfl
      case hs => exact ⟨rfl, trivial⟩
      case hk => rfl
      case h1 =>
        intro wq_19 kq_19
        have zs_kq_19 := kq_19.size
        replace hw := hw.pure kq_19
        replace hR := hR.pure kq_19
        refine WL.loadB Try.isAgg5 hR rfl (FR_e (by omega)) rfl ?_
        refine WL.nil ?_
        exact WX.one ⟨rfl, by first | exact Chg.refl _ _ | assumption⟩
      apply DQ.step (E' := [(32, _)])
      case ho => rfl
      case hs => exact ⟨rfl, trivial⟩
      case hk => rfl
      case h1 =>
        intro wq_20 kq_20
        refine WL.assign rfl rfl (?_)
        refine WL.nil ?_
        exact WX.one ⟨rfl, by first | exact Chg.refl _ _ | assumption⟩
      refine DQ.done (fun _ => ?_)
      refine DL.done (fun we_21 ke_21 => ?_)
      have zs_ke_21 := ke_21.size
      replace hw := hw.pure ke_21
      replace hR := hR.pure ke_21
      refine WX.then_normal (WC.ret (?_))
      refine WX.ret1 (.inl rfl) Try.results15 rfl ?_
      first
        | (have ha := u8_zero h8
           subst ha
           refine ⟨_, rfl, ?_, hw⟩
           rw [mul_zero_l]
           rfl)
        | (have hb := u8_zero h11
           subst hb
           refine ⟨_, rfl, ?_, hw⟩
           rw [mul_zero_r]
           rfl)
        | (refine ⟨_, rfl, ?_, hw⟩
           rw [mul, if_neg (by rintro (h | h); exact u8_ne h8 h; exact u8_ne h11 h)])
theorem inv_calls {w : World} {g : Nat} (hF : Fld w g) (a : UInt8) : Calls Try.prog 30 [.pointer (some ⟨g, 0, none⟩), v8 a].toArray w (Ret fun v w' => v = .tuple #[v8 (inv a), vi (if a = 0 then 1 else 0)] ∧ Fld w' g ∧ Chg (fun x => x = g) w w') := by
  have hw := Chg.refl (fun x => x = g) w
  have hla := L_lt a
  refine Calls.of_WC Try.func30 rfl Try.ntmps30 (by simp) ?_
  refine WC.seq (WC.region (WL.assign rfl rfl (WL.assign rfl rfl (WL.nil (WX.then_normal (WC.seq (WC.seq (?_))))))))
  refine WC.region (WL.move rfl rfl (?_))
  refine WL.eql? rfl rfl rfl (fun h7 => ?_) (fun h7 => ?_)
  ·
    refine WL.nil (WX.then_normal (WC.cond_true rfl (WC.seq (WC.region (WL.assign rfl rfl (WL.assign rfl rfl (WL.nil (?_))))))))
    refine WX.then_normal (WC.ret (WX.then_ret (?_)))
    refine WX.ret2 (.inl rfl) Try.results30 rfl rfl ?_
    first
      | (have ha := u8_zero h7
         subst ha
         exact ⟨_, rfl, rfl, hF, hw⟩)
      | (refine ⟨_, rfl, ?_, .inr hR, hw⟩
         rw [inv, if_neg (u8_ne h7), if_neg (u8_ne h7)])
  ·
    refine WL.nil (WX.then_normal (WC.cond_false rfl (WC.skip (WX.then_normal (WC.seq (WC.region (WL.move rfl rfl (?_))))))))
    refine WL.call eg_29 rfl rfl (ready_calls hF) ?_
    rintro v w2 ⟨rfl, hR, k⟩
    have zs_k := k.size
    replace hw := hw.chg k (by first | (intro x h1 h2; exact h2) | (intro x h0 h1 h2; exact hS x h1 h2) | (intro x h0 h1 h2; have h3 : _ = _ := h2; subst h3; exact hSR h1.1) | (intro x h1 h2; have h3 : _ = _ := h2; subst h3; assumption) | (intro x h1 h2; have h3 : _ = _ := h2; exfalso; omega) | (intro b h1 h2 h3; have h4 : _ = _ := h3; (try dsimp only at h2); exfalso; omega) | (intro h1; have h2 : _ = _ := h1; exfalso; omega) | (intro h1; have h2 : _ ≤ _ := h1; exfalso; omega) | (intros; exfalso; (try dsimp only at *); omega) | (intro b h1 h2 h3; exfalso; have h4 := h3.2; (try dsimp only at *); omega) | (intro h1; exfalso; have h4 := h1.2; (try dsimp only at *); omega) | (intro x h1 h2; exfalso; have h4 := h2.2; (try dsimp only at *); omega) | (intro x h1 h2; exact ⟨_, rfl, h2⟩) | (intro x h1 h2; have h4 := h2.1; have h5 := h2.2; exfalso; omega) | (intro x h1 h2; exact h2.1) | (intro x h1 h2; rcases h2.1 with h3 | h3; exact h3; exfalso; omega) | (intro x h1 h2; rcases h2 with h3 | h3; exact h3; exfalso; omega))
    refine WL.assign rfl rfl (WL.nil (WX.then_normal (WC.seq (?_))))
    refine WC.draw (Nob) [0, 1, 2, 3, 4, 5, 6, 7, 8, 9, 10, 11, 12, 13] [] mixed rfl rfl (fun wd_1 kd_1 zd_1 => ?_)
    have zs_kd_1 := kd_1.size
    replace hw := hw.pure kd_1
    replace hR := hR.pure kd_1
    apply DQ.step (E' := [(0, _)])
    case ho => rfl
    case hs => exact ⟨rfl, trivial⟩
    case hk => rfl
    case h1 =>
      intro wq_2 kq_2
      refine WL.move rfl rfl (?_)
      refine WL.nil ?_
      exact WX.one ⟨rfl, by first | exact Chg.refl _ _ | assumption⟩
    apply DQ.step (E' := [(0, _)])
    case ho => rfl
    case hs => exact ⟨rfl, trivial⟩
    case hk => rfl
    case h1 =>
      intro wq_3 kq_3
      refine WL.move rfl rfl (?_)
      refine WL.nil ?_
      exact WX.one ⟨rfl, by first | exact Chg.refl _ _ | assumption⟩
    apply DQ.step (E' := [(1, _)])
    case ho => rfl
    case hs => exact ⟨rfl, trivial⟩
    case hk => rfl
    case h1 =>
      intro wq_4 kq_4
      refine WL.move rfl rfl (?_)
      refine WL.nil ?_
      exact WX.one ⟨rfl, by first | exact Chg.refl _ _ | assumption⟩
    apply DQ.step (E' := [(11, _)])
    case ho => rfl
    case hs => exact ⟨rfl, trivial⟩
    case hk => rfl
    case h1 =>
      intro wq_5 kq_5
      refine WL.nilCheck rfl rfl (?_)
      refine WL.nil ?_
      exact WX.one ⟨rfl, by first | exact Chg.refl _ _ | assumption⟩
    apply DQ.step (E' := [(13, _)])
    case ho => rfl
    case hs => exact ⟨rfl, trivial⟩
    case hk => rfl
    case h1 =>
      intro wq_6 kq_6
      refine WL.fieldAddr (fld_65_2) rfl rfl (?_)
      refine WL.nil ?_
      exact WX.one ⟨rfl, by first | exact Chg.refl _ _ | assumption⟩
    apply DQ.step (E' := [(14, _), (12, _)])
    case ho => rfl
    case hs => exact ⟨rfl, rfl, trivial⟩
    case hk => rfl
    case h1 =>
      intro wq_7 kq_7
      have zs_kq_7 := kq_7.size
      replace hw := hw.pure kq_7
      replace hR := hR.pure kq_7
      refine WL.indexArrO a.toNat Try.underlying63 Try.sizeOf3 rfl rfl ⟨rfl, a.toNat_lt⟩ rfl ?_
      refine WL.nil ?_
      exact WX.one ⟨rfl, by first | exact Chg.refl _ _ | assumption⟩
    apply DQ.step (E' := [(15, _)])
    case ho => rfl
    case hs => exact ⟨rfl, trivial⟩
    case hk => rfl
    case h1 =>
      intro wq_8 kq_8
      have zs_kq_8 := kq_8.size
      replace hw := hw.pure kq_8
      replace hR := hR.pure kq_8
      refine WL.loadB Try.isAgg3 hR rfl (FR_l a) rfl ?_
      refine WL.nil ?_
      exact WX.one ⟨rfl, by first | exact Chg.refl _ _ | assumption⟩
    apply DQ.step (E' := [(16, _)])
    case ho => rfl
    case hs => exact ⟨rfl, trivial⟩
    case hk => rfl
    case h1 =>
      intro wq_9 kq_9
      refine WL.sub64 rfl rfl (by first | omega | (constructor <;> omega)) rfl (?_)
      refine WL.nil ?_
      exact WX.one ⟨rfl, by first | exact Chg.refl _ _ | assumption⟩
    apply DQ.step (E' := [(10, _)])
    case ho => rfl
    case hs => exact ⟨rfl, trivial⟩
    case hk => rfl
    case h1 =>
      intro wq_10 kq_10
      refine WL.nilCheck rfl rfl (?_)
      refine WL.nil ?_
      exact WX.one ⟨rfl, by first | exact Chg.refl _ _ | assumption⟩
    apply DQ.step (E' := [(18, _)])
    case ho => rfl
    case hs => exact ⟨rfl, trivial⟩
    case hk => rfl
    case h1 =>
      intro wq_11 kq_11
      refine WL.fieldAddr (fld_65_1) rfl rfl (?_)
      refine WL.nil ?_
      exact WX.one ⟨rfl, by first | exact Chg.refl _ _ | assumption⟩
    apply DQ.step (E' := [(19, _), (17, _)])
    case ho => rfl
    case hs => exact ⟨rfl, rfl, trivial⟩
    case hk => rfl
    case h1 =>
      intro wq_12 kq_12
      have zs_kq_12 := kq_12.size
      replace hw := hw.pure kq_12
      replace hR := hR.pure kq_12
      refine WL.indexArrO (255 - L a) Try.underlying62 Try.sizeOf5 rfl rfl ⟨by omega, by omega⟩ rfl ?_
      refine WL.nil ?_
      exact WX.one ⟨rfl, by first | exact Chg.refl _ _ | assumption⟩
    apply DQ.step (E' := [(20, _)])
    case ho => rfl
    case hs => exact ⟨rfl, trivial⟩
    case hk => rfl
    case h1 =>
      intro wq_13 kq_13
      have zs_kq_13 := kq_13.size
      replace hw := hw.pure kq_13
      replace hR := hR.pure kq_13
      refine WL.loadB Try.isAgg5 hR rfl (FR_e (by omega)) rfl ?_
      refine WL.nil ?_
      exact WX.one ⟨rfl, by first | exact Chg.refl _ _ | assumption⟩
    apply DQ.step (E' := [(21, _)])
    case ho => rfl
    case hs => exact ⟨rfl, trivial⟩
    case hk => rfl
    case h1 =>
      intro wq_14 kq_14
      refine WL.assign rfl rfl (?_)
      refine WL.nil ?_
      exact WX.one ⟨rfl, by first | exact Chg.refl _ _ | assumption⟩
    apply DQ.step (E' := [])
    case ho => rfl
    case hs => exact trivial
    case hk => rfl
    case h1 =>
      intro wq_15 kq_15
      refine WL.assign rfl rfl (?_)
      refine WL.nil ?_
      exact WX.one ⟨rfl, by first | exact Chg.refl _ _ | assumption⟩
    refine DQ.done (fun _ => ?_)
    refine DL.done (fun we_16 ke_16 => ?_)
    have zs_ke_16 := ke_16.size
    replace hw := hw.pure ke_16
    replace hR := hR.pure ke_16
    refine WX.then_normal (WC.ret (?_))
    refine WX.ret2 (.inl rfl) Try.results30 rfl rfl ?_
    first
      | (have ha := u8_zero h7
         subst ha
         exact ⟨_, rfl, rfl, hF, hw⟩)
      | (refine ⟨_, rfl, ?_, .inr hR, hw⟩
         rw [inv, if_neg (u8_ne h7), if_neg (u8_ne h7)])
/-- powers, as the program reckons them -/
def powR (a : UInt8) (n : Int) : UInt8 × Int := if n < 0 then (0, 1) else if n = 0 then (1, 0) else if a = 0 then (0, 0) else (Go.HL.E ((L a * (n.toNat % 255)) % 255), 0)
theorem pow_calls {w : World} {g : Nat} (hF : Fld w g) (a : UInt8) (n : Int) : Calls Try.prog 54 [.pointer (some ⟨g, 0, none⟩), v8 a, vi n].toArray w (Ret fun v w' => v = .tuple #[v8 (powR a n).1, vi (powR a n).2] ∧ Fld w' g ∧ Chg (fun x => x = g) w w') := by
  have hw := Chg.refl (fun x => x = g) w
  have hla := L_lt a
  refine Calls.of_WC Try.func54 rfl Try.ntmps54 (by simp) ?_
  refine WC.seq (WC.region (WL.assign rfl rfl (WL.assign rfl rfl (WL.nil (WX.then_normal (WC.seq (WC.block (?_))))))))
  refine WC.seq (WC.region (WL.move rfl rfl (?_)))
  refine WL.lss? rfl rfl rfl (fun h10 => ?_) (fun h10 => ?_)
  ·
    refine WL.assign rfl rfl (WL.nil (WX.then_normal (WC.cond_true rfl (WC.seq (WC.region (WL.assign rfl rfl (WL.assign rfl rfl (?_))))))))
    refine WL.nil (WX.then_normal (WC.ret (WX.block_ret (WX.then_ret (?_)))))
    refine WX.ret2 (.inl rfl) Try.results54 rfl rfl ?_
    first
      | (refine ⟨_, rfl, ?_, hF, hw⟩
         rw [powR, if_pos (by omega)]
         rfl)
      | (refine ⟨_, rfl, ?_, hF, hw⟩
         rw [powR, if_neg (by omega), if_pos (by omega)]
         rfl)
      | (have ha := u8_zero h16
         refine ⟨_, rfl, ?_, hF, hw⟩
         rw [powR, if_neg (by omega), if_neg (by omega), if_pos ha]
         rfl)
      | (refine ⟨_, rfl, ?_, .inr hR, hw⟩
         rw [powR, if_neg (by omega), if_neg (by omega), if_neg (u8_ne h16), Int.toNat_natCast])
  ·
    refine WL.assign rfl rfl (WL.nil (WX.then_normal (WC.cond_false rfl (WC.seq (WC.region (WL.move rfl rfl (?_)))))))
    refine WL.eql? rfl rfl rfl (fun h13 => ?_) (fun h13 => ?_)
    ·
      refine WL.assign rfl rfl (WL.nil (WX.then_normal (WC.cond_true rfl (WC.seq (WC.region (WL.assign rfl rfl (WL.assign rfl rfl (?_))))))))
      refine WL.nil (WX.then_normal (WC.ret (WX.block_ret (WX.then_ret (?_)))))
      refine WX.ret2 (.inl rfl) Try.results54 rfl rfl ?_
      first
        | (refine ⟨_, rfl, ?_, hF, hw⟩
           rw [powR, if_pos (by omega)]
           rfl)
        | (refine ⟨_, rfl, ?_, hF, hw⟩
           rw [powR, if_neg (by omega), if_pos (by omega)]
           rfl)
        | (have ha := u8_zero h16
           refine ⟨_, rfl, ?_, hF, hw⟩
           rw [powR, if_neg (by omega), if_neg (by omega), if_pos ha]
           rfl)
        | (refine ⟨_, rfl, ?_, .inr hR, hw⟩
           rw [powR, if_neg (by omega), if_neg (by omega), if_neg (u8_ne h16), Int.toNat_natCast])
    ·
      refine WL.assign rfl rfl (WL.nil (WX.then_normal (WC.cond_false rfl (WC.seq (WC.region (WL.move rfl rfl (?_)))))))
      refine WL.eql? rfl rfl rfl (fun h16 => ?_) (fun h16 => ?_)
      ·
        refine WL.assign rfl rfl (WL.nil (WX.then_normal (WC.cond_true rfl (WC.seq (WC.region (WL.assign rfl rfl (WL.assign rfl rfl (?_))))))))
        refine WL.nil (WX.then_normal (WC.ret (WX.block_ret (WX.then_ret (?_)))))
        refine WX.ret2 (.inl rfl) Try.results54 rfl rfl ?_
        first
          | (refine ⟨_, rfl, ?_, hF, hw⟩
             rw [powR, if_pos (by omega)]
             rfl)
          | (refine ⟨_, rfl, ?_, hF, hw⟩
             rw [powR, if_neg (by omega), if_pos (by omega)]
             rfl)
          | (have ha := u8_zero h16
             refine ⟨_, rfl, ?_, hF, hw⟩
             rw [powR, if_neg (by omega), if_neg (by omega), if_pos ha]
             rfl)
          | (refine ⟨_, rfl, ?_, .inr hR, hw⟩
             rw [powR, if_neg (by omega), if_neg (by omega), if_neg (u8_ne h16), Int.toNat_natCast])
      ·
        refine WL.assign rfl rfl (WL.nil (WX.then_normal (WC.cond_false rfl (WC.skip (WX.block_normal (WX.then_normal (WC.seq (?_))))))))
        refine WC.region (WL.move rfl rfl (?_))
        refine WL.call eg_29 rfl rfl (ready_calls hF) ?_
        rintro v w2 ⟨rfl, hR, k⟩
        have zs_k := k.size
        replace hw := hw.chg k (by first | (intro x h1 h2; exact h2) | (intro x h0 h1 h2; exact hS x h1 h2) | (intro x h0 h1 h2; have h3 : _ = _ := h2; subst h3; exact hSR h1.1) | (intro x h1 h2; have h3 : _ = _ := h2; subst h3; assumption) | (intro x h1 h2; have h3 : _ = _ := h2; exfalso; omega) | (intro b h1 h2 h3; have h4 : _ = _ := h3; (try dsimp only at h2); exfalso; omega) | (intro h1; have h2 : _ = _ := h1; exfalso; omega) | (intro h1; have h2 : _ ≤ _ := h1; exfalso; omega) | (intros; exfalso; (try dsimp only at *); omega) | (intro b h1 h2 h3; exfalso; have h4 := h3.2; (try dsimp only at *); omega) | (intro h1; exfalso; have h4 := h1.2; (try dsimp only at *); omega) | (intro x h1 h2; exfalso; have h4 := h2.2; (try dsimp only at *); omega) | (intro x h1 h2; exact ⟨_, rfl, h2⟩) | (intro x h1 h2; have h4 := h2.1; have h5 := h2.2; exfalso; omega) | (intro x h1 h2; exact h2.1) | (intro x h1 h2; rcases h2.1 with h3 | h3; exact h3; exfalso; omega) | (intro x h1 h2; rcases h2 with h3 | h3; exact h3; exfalso; omega))
        obtain ⟨m, rfl⟩ : ∃ m : Nat, n = (m : Int) := ⟨n.toNat, by omega⟩
        have hm := Nat.mod_lt m (show 255 > 0 by decide)
        have hmul : L a * (m % 255) ≤ 64770 := by
          have := Nat.mul_le_mul (show L a ≤ 254 by omega) (show m % 255 ≤ 254 by omega)
          omega
        refine WL.assign rfl rfl (WL.nil (WX.then_normal (WC.seq (?_))))
        refine WC.draw (Nob) [0, 1, 2, 3, 4, 5, 6, 7, 8, 9, 10, 11, 12, 13, 14, 15, 16] [] mixed rfl rfl (fun wd_1 kd_1 zd_1 => ?_)
        have zs_kd_1 := kd_1.size
        replace hw := hw.pure kd_1
        replace hR := hR.pure kd_1
        apply DQ.step (E' := [(0, _)])
        case ho => rfl
        case hs => exact ⟨rfl, trivial⟩
        case hk => rfl
        case h1 =>
          intro wq_2 kq_2
          refine WL.move rfl rfl (?_)
          refine WL.nil ?_
          exact WX.one ⟨rfl, by first | exact Chg.refl _ _ | assumption⟩
        apply DQ.step (E' := [(0, _)])
        case ho => rfl
        case hs => exact ⟨rfl, trivial⟩
        case hk => rfl
        case h1 =>
          intro wq_3 kq_3
          refine WL.move rfl rfl (?_)
          refine WL.nil ?_
          exact WX.one ⟨rfl, by first | exact Chg.refl _ _ | assumption⟩
        apply DQ.step (E' := [(1, _)])
        case ho => rfl
        case hs => exact ⟨rfl, trivial⟩
        case hk => rfl
        case h1 =>
          intro wq_4 kq_4
          refine WL.move rfl rfl (?_)
          refine WL.nil ?_
          exact WX.one ⟨rfl, by first | exact Chg.refl _ _ | assumption⟩
        apply DQ.step (E' := [(20, _)])
        case ho => rfl
        case hs => exact ⟨rfl, trivial⟩
        case hk => rfl
        case h1 =>
          intro wq_5 kq_5
          refine WL.nilCheck rfl rfl (?_)
          refine WL.nil ?_
          exact WX.one ⟨rfl, by first | exact Chg.refl _ _ | assumption⟩
        apply DQ.step (E' := [(22, _)])
        case ho => rfl
        case hs => exact ⟨rfl, trivial⟩
        case hk => rfl
        case h1 =>
          intro wq_6 kq_6
          refine WL.fieldAddr (fld_65_2) rfl rfl (?_)
          refine WL.nil ?_
          exact WX.one ⟨rfl, by first | exact Chg.refl _ _ | assumption⟩
        apply DQ.step (E' := [(23, _), (21, _)])
        case ho => rfl
        case hs => exact ⟨rfl, rfl, trivial⟩
        case hk => rfl
        case h1 =>
          intro wq_7 kq_7
          have zs_kq_7 := kq_7.size
          replace hw := hw.pure kq_7
          replace hR := hR.pure kq_7
          refine WL.indexArrO a.toNat Try.underlying63 Try.sizeOf3 rfl rfl ⟨rfl, a.toNat_lt⟩ rfl ?_
          refine WL.nil ?_
          exact WX.one ⟨rfl, by first | exact Chg.refl _ _ | assumption⟩
        apply DQ.step (E' := [(24, _)])
        case ho => rfl
        case hs => exact ⟨rfl, trivial⟩
        case hk => rfl
        case h1 =>
          intro wq_8 kq_8
          have zs_kq_8 := kq_8.size
          replace hw := hw.pure kq_8
          replace hR := hR.pure kq_8
          refine WL.loadB Try.isAgg3 hR rfl (FR_l a) rfl ?_
          refine WL.nil ?_
          exact WX.one ⟨rfl, by first | exact Chg.refl _ _ | assumption⟩
        apply DQ.step (E' := [(2, _)])
        case ho => rfl
        case hs => exact ⟨rfl, trivial⟩
        case hk => rfl
        case h1 =>
          intro wq_9 kq_9
          refine WL.move rfl rfl (?_)
          refine WL.nil ?_
          exact WX.one ⟨rfl, by first | exact Chg.refl _ _ | assumption⟩
        apply DQ.step (E' := [(26, _)])
        case ho => rfl
        case hs => exact ⟨rfl, trivial⟩
        case hk => rfl
        case h1 =>
          intro wq_10 kq_10
          refine WL.rem64i rfl rfl (by omega) rfl ?_
          rw [show ((m : Int) % 255) = ((m % 255 : Nat) : Int) from by omega]
          refine WL.nil ?_
          exact WX.one ⟨rfl, by first | exact Chg.refl _ _ | assumption⟩
        apply DQ.step (E' := [(25, _), (27, _)])
        case ho => rfl
        case hs => exact ⟨rfl, rfl, trivial⟩
        case hk => rfl
        case h1 =>
          intro wq_11 kq_11
          refine WL.mul64 rfl rfl (by rw [← Int.natCast_mul]; omega) rfl ?_
          rw [← Int.natCast_mul]
          refine WL.nil ?_
          exact WX.one ⟨rfl, by first | exact Chg.refl _ _ | assumption⟩
        apply DQ.step (E' := [(28, _)])
        case ho => rfl
        case hs => exact ⟨rfl, trivial⟩
        case hk => rfl
        case h1 =>
          intro wq_12 kq_12
          refine WL.rem64i rfl rfl (by omega) rfl ?_
          rw [show (((L a * (m % 255) : Nat) : Int) % 255) = ((L a * (m % 255) % 255 : Nat) : Int) from by omega]
          refine WL.nil ?_
          exact WX.one ⟨rfl, by first | exact Chg.refl _ _ | assumption⟩
        apply DQ.step (E' := [(19, _)])
        case ho => rfl
        case hs => exact ⟨rfl, trivial⟩
        case hk => rfl
        case h1 =>
          intro wq_13 kq_13
          refine WL.nilCheck rfl rfl (?_)
          refine WL.nil ?_
          exact WX.one ⟨rfl, by first | exact Chg.refl _ _ | assumption⟩
        apply DQ.step (E' := [(30, _)])
        case ho => rfl
        case hs => exact ⟨rfl, trivial⟩
        case hk => rfl
        case h1 =>
          intro wq_14 kq_14
          refine WL.fieldAddr (fld_65_1) rfl rfl (?_)
          refine WL.nil ?_
          exact WX.one ⟨rfl, by first | exact Chg.refl _ _ | assumption⟩
        apply DQ.step (E' := [(31, _), (29, _)])
        case ho => rfl
        case hs => exact ⟨rfl, rfl, trivial⟩
        case hk => rfl
        case h1 =>
          intro wq_15 kq_15
          have zs_kq_15 := kq_15.size
          replace hw := hw.pure kq_15
          replace hR := hR.pure kq_15
          refine WL.indexArrO (L a * (m % 255) % 255) Try.underlying62 Try.sizeOf5 rfl rfl ⟨rfl, by omega⟩ rfl ?_
          refine WL.nil ?_
          exact WX.one ⟨rfl, by first | exact Chg.refl _ _ | assumption⟩
        apply DQ.step (E' := [(32, _)])
        case ho => rfl
        case hs => exact ⟨rfl, trivial⟩
        case hk => rfl
        case h1 =>
          intro wq_16 kq_16
          have zs_kq_16 := kq_16.size
          replace hw := hw.pure kq_16
          replace hR := hR.pure kq_16
          refine WL.loadB Try.isAgg5 hR rfl (FR_e (by omega)) rfl ?_
          refine WL.nil ?_
          exact WX.one ⟨rfl, by first | exact Chg.refl _ _ | assumption⟩
        apply DQ.step (E' := [(33, _)])
        case ho => rfl
        case hs => exact ⟨rfl, trivial⟩
        case hk => rfl
        case h1 =>
          intro wq_17 kq_17
          refine WL.assign rfl rfl (?_)
          refine WL.nil ?_
          exact WX.one ⟨rfl, by first | exact Chg.refl _ _ | assumption⟩
        apply DQ.step (E' := [])
        case ho => rfl
        case hs => exact trivial
        case hk => rfl
        case h1 =>
          intro wq_18 kq_18
          refine WL.assign rfl rfl (?_)
          refine WL.nil ?_
          exact WX.one ⟨rfl, by first | exact Chg.refl _ _ | assumption⟩
        refine DQ.done (fun _ => ?_)
        refine DL.done (fun we_19 ke_19 => ?_)
        have zs_ke_19 := ke_19.size
        replace hw := hw.pure ke_19
        replace hR := hR.pure ke_19
        refine WX.then_normal (WC.ret (?_))
        refine WX.ret2 (.inl rfl) Try.results54 rfl rfl ?_
        first
          | (refine ⟨_, rfl, ?_, hF, hw⟩
             rw [powR, if_pos (by omega)]
             rfl)
          | (refine ⟨_, rfl, ?_, hF, hw⟩
             rw [powR, if_neg (by omega), if_pos (by omega)]
             rfl)
          | (have ha := u8_zero h16
             refine ⟨_, rfl, ?_, hF, hw⟩
             rw [powR, if_neg (by omega), if_neg (by omega), if_pos ha]
             rfl)
          | (refine ⟨_, rfl, ?_, .inr hR, hw⟩
             rw [powR, if_neg (by omega), if_neg (by omega), if_neg (u8_ne h16), Int.toNat_natCast])
set_option maxRecDepth 100000 in
theorem two_products : mul 2 128 = 29 ∧ mul 3 7 = 9 := by decide +kernel
theorem eql_self (a : Int) : decide (a = a) = true := decide_eq_true rfl
theorem neq_self (a : Int) : decide (a ≠ a) = false := decide_eq_false (fun h => h rfl)
theorem known2_calls (w : World) : Calls Try.prog 11 [].toArray w (Ret fun v w' => v = .bool true ∧ Chg Nob w w') := by
  have hw := Chg.refl Nob w
  refine Calls.of_WC Try.func11 rfl Try.ntmps11 (by simp) ?_
  refine WC.seq (WC.region (WL.assign rfl rfl (WL.nil (WX.then_normal (WC.seq (WC.region (?_)))))))
  refine WL.call eg_13 rfl rfl (fresh_calls _) ?_
  rintro v w1 ⟨⟨g, rfl, hF, hg⟩, k⟩
  have zs_k := k.size
  replace hw := hw.pure k
  refine WL.call eg_15 rfl rfl (mul_calls hF 2 128) ?_
  rintro v w2 ⟨rfl, hF2, k⟩
  rw [two_products.1]
  have zs_k := k.size
  replace hw := hw.chg k (by first | (intro x h1 h2; exact h2) | (intro x h0 h1 h2; exact hS x h1 h2) | (intro x h0 h1 h2; have h3 : _ = _ := h2; subst h3; exact hSR h1.1) | (intro x h1 h2; have h3 : _ = _ := h2; subst h3; assumption) | (intro x h1 h2; have h3 : _ = _ := h2; exfalso; omega) | (intro b h1 h2 h3; have h4 : _ = _ := h3; (try dsimp only at h2); exfalso; omega) | (intro h1; have h2 : _ = _ := h1; exfalso; omega) | (intro h1; have h2 : _ ≤ _ := h1; exfalso; omega) | (intros; exfalso; (try dsimp only at *); omega) | (intro b h1 h2 h3; exfalso; have h4 := h3.2; (try dsimp only at *); omega) | (intro h1; exfalso; have h4 := h1.2; (try dsimp only at *); omega) | (intro x h1 h2; exfalso; have h4 := h2.2; (try dsimp only at *); omega) | (intro x h1 h2; exact ⟨_, rfl, h2⟩) | (intro x h1 h2; have h4 := h2.1; have h5 := h2.2; exfalso; omega) | (intro x h1 h2; exact h2.1) | (intro x h1 h2; rcases h2.1 with h3 | h3; exact h3; exfalso; omega) | (intro x h1 h2; rcases h2 with h3 | h3; exact h3; exfalso; omega))
  replace hF := hF2
  refine WL.eql rfl rfl rfl ?_
  rw [show decide (((29 : UInt8).toNat : Int) = 29) = true from rfl]
  refine WL.move rfl rfl (WL.want rfl rfl rfl (?_))
  refine WL.call eg_23 rfl rfl (nobody_calls _) ?_
  rintro v w1 ⟨rfl, k⟩
  have zs_k := k.size
  replace hw := hw.pure k
  replace hF := hF.pure k
  refine WL.want rfl rfl rfl (?_)
  refine WL.call eg_15 rfl rfl (mul_nil 3 7) ?_
  rintro v w2 ⟨rfl, k⟩
  rw [two_products.2]
  have zs_k := k.size
  replace hw := hw.pure k
  replace hF := hF.pure k
  refine WL.want rfl rfl rfl (WL.eql rfl rfl rfl (WL.pickT rfl rfl rfl (WL.assign rfl rfl (WL.nil (WX.then_normal (WC.ret (?_)))))))
  refine WX.ret1 (.inl rfl) Try.results11 rfl ?_
  exact ⟨_, rfl, rfl, hw⟩
end Go.Proofs.Ytjdbjdgobhjbkaa
/-! parities: plain laws -/
namespace Go.HL
/-- the one length of columns; -1: they have none -/
def lenC (cols : List (List UInt8)) : Int := match cols with
  | [] => -1
  | c :: _ => if (∀ d ∈ cols, d.length = c.length) ∧ 1 ≤ c.length ∧ c.length ≤ 4096 then (c.length : Int) else -1
theorem lenC_some {cols : List (List UInt8)} (h : 0 ≤ lenC cols) : ∃ n : Nat, lenC cols = (n : Int) ∧ 1 ≤ n ∧ n ≤ 4096 ∧ cols ≠ [] ∧ ∀ d ∈ cols, d.length = n := by
  unfold lenC at h ⊢
  split at h
  · omega
  · rename_i c r
    split at h
    · rename_i h1
      exact ⟨c.length, by rw [if_pos h1], h1.2.1, h1.2.2, by simp, h1.1⟩
    · omega
theorem lenC_of {cols : List (List UInt8)} {n : Nat} (hne : cols ≠ []) (h : ∀ d ∈ cols, d.length = n) : lenC cols = if 1 ≤ n ∧ n ≤ 4096 then (n : Int) else -1 := by
  unfold lenC
  split
  · exact absurd rfl hne
  · rename_i c r
    have hc : c.length = n := h c (by simp)
    by_cases h1 : 1 ≤ n ∧ n ≤ 4096
    · rw [if_pos h1, if_pos ⟨fun d hd => by rw [h d hd, hc], by omega, by omega⟩, hc]
    · rw [if_neg h1, if_neg (fun k => h1 ⟨by omega, by omega⟩)]
theorem lenC_bad {cols : List (List UInt8)} {c d : List UInt8} (hc : c ∈ cols) (hd : d ∈ cols) (h : c.length ≠ d.length) : lenC cols = -1 := by
  unfold lenC
  split
  · rfl
  · rename_i e r
    rw [if_neg]
    rintro ⟨h1, _⟩
    exact h (by rw [h1 c hc, h1 d hd])
theorem lenC_neg {cols : List (List UInt8)} (h : ¬ 0 ≤ lenC cols) : lenC cols = -1 := by
  unfold lenC at h ⊢
  split
  · rfl
  · rename_i c r
    simp only at h
    split
    · rename_i h1
      rw [if_pos h1] at h
      omega
    · rfl
/-- a multiple of a column is added -/
def addRow (acc col : List UInt8) (m : UInt8) : List UInt8 := List.zipWith (fun p c => p ^^^ mul m c) acc col
theorem addRow_len {acc col : List UInt8} {m : UInt8} (h : col.length = acc.length) : (addRow acc col m).length = acc.length := by rw [addRow, List.length_zipWith, h, Nat.min_self]
theorem addRow_at {acc col : List UInt8} {m p c : UInt8} {k : Nat} (hp : acc[k]? = some p) (hc : col[k]? = some c) : (addRow acc col m)[k]? = some (p ^^^ mul m c) := by
  rw [addRow, List.getElem?_zipWith, hp, hc]
/-- the first k places are done -/
def addTo' (acc col : List UInt8) (m : UInt8) (k : Nat) : List UInt8 := (addRow acc col m).take k ++ acc.drop k
theorem addTo'_len {acc col : List UInt8} {m : UInt8} {k : Nat} (h : col.length = acc.length) (hk : k ≤ acc.length) : (addTo' acc col m k).length = acc.length := by
  rw [addTo', List.length_append, List.length_take, List.length_drop, addRow_len h]
  omega
theorem addTo'_at {acc col : List UInt8} {m : UInt8} {k : Nat} (h : col.length = acc.length) (hk : k < acc.length) : ∃ p c, acc[k]? = some p ∧ col[k]? = some c ∧ (addTo' acc col m k)[k]? = some p ∧ (addTo' acc col m k).set k (p ^^^ mul m c) = addTo' acc col m (k + 1) := by
  have hp : acc[k]? = some acc[k] := List.getElem?_eq_getElem hk
  have hc : col[k]? = some col[k] := List.getElem?_eq_getElem (by omega)
  refine ⟨acc[k], col[k], hp, hc, ?_, ?_⟩
  · rw [addTo', List.getElem?_append_right (by rw [List.length_take]; omega), List.length_take, addRow_len h, Nat.min_eq_left (by omega), Nat.sub_self, List.getElem?_drop, Nat.add_zero, hp]
  · have hl : ((addRow acc col m).take k).length = k := by rw [List.length_take, addRow_len h]; omega
    rw [addTo', addTo', List.set_append_right _ _ (by omega), hl, Nat.sub_self, List.drop_eq_getElem_cons hk, List.set_cons_zero, List.take_add_one, addRow_at hp hc]
    simp
theorem addTo'_end {acc col : List UInt8} {m : UInt8} (h : col.length = acc.length) : addTo' acc col m acc.length = addRow acc col m := by
  rw [addTo', List.take_of_length_le (by rw [addRow_len h]; exact Nat.le_refl _), List.drop_length, List.append_nil]
/-- a parity of the first i columns -/
def prow (wt : Nat → UInt8) (cols : List (List UInt8)) (n : Nat) : Nat → List UInt8
  | 0 => List.replicate n 0
  | i + 1 => addRow (prow wt cols n i) (cols.getD i []) (wt i)
theorem prow_len {wt : Nat → UInt8} {cols : List (List UInt8)} {n : Nat} (h : ∀ d ∈ cols, d.length = n) : ∀ {i : Nat}, i ≤ cols.length → (prow wt cols n i).length = n := by
  intro i
  induction i with
  | zero => intro _; rw [prow, List.length_replicate]
  | succ i ih =>
    intro hi
    have h1 := ih (by omega)
    have h2 : (cols.getD i []).length = n := by
      rw [List.getD_eq_getElem?_getD, List.getElem?_eq_getElem (by omega)]
      exact h _ (List.getElem_mem _)
    rw [prow, addRow_len (by rw [h2, h1]), h1]
def wtq (q i : Nat) : UInt8 := if q = 0 then 1 else if q = 1 then G i else mul (G i) (G i)
end Go.HL
namespace Go.HL
open Go.RowKit
/-- rows of the call's own, each of one length, in blocks of their own -/
def orows (gs : List Nat) (n : Nat) (xss : List (List UInt8)) : List Rw := List.zipWith (fun g x => ⟨some ⟨g, 0, none⟩, n, x⟩) gs xss
structure OR (w : World) (T U : TypeId) (go k : Nat) (gs : List Nat) (n : Nat) (xss : List (List UInt8)) (tl : List Rw) : Prop where
  outer : Row (fun x => x = go) w T erow (some ⟨go, 0, none⟩) k (orows gs n xss ++ tl)
  inner : ∀ (i : Nat) (g : Nat) (x : List UInt8), gs[i]? = some g → xss[i]? = some x → Row (fun b => b = g) w U eb (some ⟨g, 0, none⟩) n x
  len : gs.length = xss.length
  apart : ∀ (i j : Nat) (g : Nat), gs[i]? = some g → gs[j]? = some g → i = j
  above : ∀ (i g : Nat), gs[i]? = some g → go < g
section
variable {w w' : World} {T U : TypeId} {go k n : Nat} {gs : List Nat} {xss : List (List UInt8)} {tl : List Rw} {M : Nat → Prop}
theorem OR.chg (h : OR w T U go k gs n xss tl) (c : Chg M w w') (hd : ¬ M go ∧ ∀ (i g : Nat), gs[i]? = some g → ¬ M g) : OR w' T U go k gs n xss tl :=
  ⟨h.outer.chg c (fun b _ e m => hd.1 (e ▸ m)), fun i g x hg hx => (h.inner i g x hg hx).chg c (fun b _ e m => hd.2 i g hg (e ▸ m)), h.len, h.apart, h.above⟩
theorem OR.pure (h : OR w T U go k gs n xss tl) (c : Chg Nob w w') : OR w' T U go k gs n xss tl := h.chg c ⟨fun x => x, fun _ _ _ x => x⟩
theorem orows_at {i g : Nat} {x : List UInt8} (hg : gs[i]? = some g) (hx : xss[i]? = some x) : (orows gs n xss ++ tl)[i]? = some ⟨some ⟨g, 0, none⟩, n, x⟩ := by
  have h1 : (orows gs n xss)[i]? = some ⟨some ⟨g, 0, none⟩, n, x⟩ := by rw [orows, List.getElem?_zipWith, hg, hx]
  rw [List.getElem?_append_left (List.getElem?_eq_some_iff.1 h1).1, h1]
theorem orows_len (h : gs.length = xss.length) : (orows gs n xss).length = gs.length := by rw [orows, List.length_zipWith, ← h, Nat.min_self]
/-- one row has turned -/
theorem OR.upd (h : OR w T U go k gs n xss tl) {r g : Nat} {x x' : List UInt8} (hg : gs[r]? = some g) (hx : xss[r]? = some x) (hl : x'.length = x.length) (c : Chg M w w') (hd : ¬ M go ∧ ∀ (i g' : Nat), gs[i]? = some g' → i ≠ r → ¬ M g')
    (hr : Row (fun b => b = g) w' U eb (some ⟨g, 0, none⟩) n x') : OR w' T U go k gs n (xss.set r x') tl := by
  have hrl : r < xss.length := (List.getElem?_eq_some_iff.1 hx).1
  refine ⟨?_, fun i g' y hg' hy => ?_, by rw [List.length_set]; exact h.len, h.apart, h.above⟩
  · have h1 := h.outer.chg c (fun b _ e m => hd.1 (e ▸ m))
    have e1 : erow.all (orows gs n (xss.set r x')) = erow.all (orows gs n xss) := by
      have : ∀ (gs : List Nat) (ys : List (List UInt8)) (r : Nat), (∀ y, ys[r]? = some y → x'.length = y.length) → erow.all (orows gs n (ys.set r x')) = erow.all (orows gs n ys) := by
        intro gs
        induction gs with
        | nil => intro ys r _; simp [orows]
        | cons g gs ih =>
          intro ys r hy
          cases ys with
          | nil => simp
          | cons y ys =>
            cases r with
            | zero =>
              have := hy y rfl
              simp [orows, Enc.all, erow, this]
            | succ r =>
              have := ih ys r (fun z hz => hy z (by simpa using hz))
              simp only [Enc.all, orows] at this
              simp [orows, Enc.all, this]
      exact this gs xss r (fun y hy => by rw [hx] at hy; injection hy with hy; rw [← hy]; exact hl)
    have e2 : (orows gs n (xss.set r x') ++ tl).length = (orows gs n xss ++ tl).length := by simp [orows]
    exact ⟨h1.at_, by rw [Enc.all_append, e1, ← Enc.all_append, e2]; exact h1.own⟩
  · by_cases hir : i = r
    · subst hir
      rw [hg] at hg'
      injection hg' with hg'
      subst hg'
      rw [List.getElem?_set_self hrl] at hy
      injection hy with hy
      subst hy
      exact hr
    · rw [List.getElem?_set_ne (fun e => hir e.symm)] at hy
      exact (h.inner i g' y hg' hy).chg c (fun b _ e m => hd.2 i g' hg' hir (e ▸ m))
/-- one row more -/
theorem OR.snoc {z : Rw} (h : OR w T U go k gs n xss (z :: tl)) {g : Nat} {x : List UInt8} (hgo : go < g) (hnew : ∀ (i g' : Nat), gs[i]? = some g' → g' < g) (c : Chg M w w') (hd : ∀ (i g' : Nat), gs[i]? = some g' → ¬ M g')
    (ho : Row (fun b => b = go) w' T erow (some ⟨go, 0, none⟩) k ((orows gs n xss ++ z :: tl).set gs.length ⟨some ⟨g, 0, none⟩, n, x⟩)) (hr : Row (fun b => b = g) w' U eb (some ⟨g, 0, none⟩) n x) : OR w' T U go k (gs ++ [g]) n (xss ++ [x]) tl := by
  have hl := h.len
  have hsplit : ∀ (i g' : Nat), (gs ++ [g])[i]? = some g' → gs[i]? = some g' ∨ i = gs.length ∧ g' = g := by
    intro i g' h1
    rcases Nat.lt_or_ge i gs.length with h2 | h2
    · rw [List.getElem?_append_left h2] at h1; exact .inl h1
    · rw [List.getElem?_append_right h2] at h1
      have h3 := (List.getElem?_eq_some_iff.1 h1).1
      simp at h3
      have h4 : i - gs.length = 0 := by omega
      rw [h4] at h1
      simp at h1
      exact .inr ⟨by omega, h1.symm⟩
  refine ⟨?_, fun i g' y hg' hy => ?_, by simp [hl], fun i j g' h1 h2 => ?_, fun i g' h1 => ?_⟩
  · have e : (orows gs n xss ++ z :: tl).set gs.length ⟨some ⟨g, 0, none⟩, n, x⟩ = orows (gs ++ [g]) n (xss ++ [x]) ++ tl := by
      have ol := orows_len (n := n) hl
      rw [List.set_append_right _ _ (by omega), ol, Nat.sub_self, List.set_cons_zero, orows, orows, List.zipWith_append hl]
      simp
    rw [e] at ho
    exact ho
  · rcases hsplit i g' hg' with h1 | ⟨h1, h2⟩
    · have hil := (List.getElem?_eq_some_iff.1 h1).1
      rw [List.getElem?_append_left (by omega)] at hy
      exact (h.inner i g' y h1 hy).chg c (fun b _ e m => hd i g' h1 (e ▸ m))
    · subst h1; subst h2
      rw [List.getElem?_append_right (by omega), hl, Nat.sub_self] at hy
      simp at hy
      subst hy
      exact hr
  · rcases hsplit i g' h1 with h3 | ⟨h3, h3'⟩ <;> rcases hsplit j g' h2 with h4 | ⟨h4, h4'⟩
    · exact h.apart i j g' h3 h4
    · have := hnew i g' h3; omega
    · have := hnew j g' h4; omega
    · omega
  · rcases hsplit i g' h1 with h3 | ⟨h3, h3'⟩
    · exact h.above i g' h3
    · omega
/-- as rows that are read -/
theorem OR.rs (h : OR w T U go k gs n xss []) {S : Nat → Prop} (hgo : S go) (hgs : ∀ (i g : Nat), gs[i]? = some g → S g) : RS S w (some ⟨go, 0, none⟩) k (orows gs n xss) := by
  have ho := h.outer
  rw [List.append_nil] at ho
  refine ⟨ho.rsl.mono (fun b e => e ▸ hgo), fun r hr => ?_⟩
  obtain ⟨i, hi⟩ := List.getElem?_of_mem hr
  rw [orows, List.getElem?_zipWith] at hi
  split at hi
  · rename_i g x hg hx
    injection hi with hi
    subst hi
    exact (h.inner i g x hg hx).rsl.mono (fun b e => e ▸ hgs i g hg)
  · cases hi
end
end Go.HL
namespace Go.HL
open Go.RowKit
section
variable {w w' : World} {T U : TypeId} {go k n : Nat} {gs : List Nat} {xss : List (List UInt8)} {tl : List Rw}
theorem OR.lt (h : OR w T U go k gs n xss tl) {i g : Nat} (hg : gs[i]? = some g) : g < w.heap.size := by
  have hi := (List.getElem?_eq_some_iff.1 hg).1
  obtain ⟨x, hx⟩ : ∃ x, xss[i]? = some x := ⟨_, List.getElem?_eq_getElem (by rw [← h.len]; exact hi)⟩
  exact (h.inner i g x hg hx).own.lt _ rfl
theorem OR.lto (h : OR w T U go k gs n xss tl) : go < w.heap.size := h.outer.own.lt _ rfl
end
/-- the rows with a multiple of a column added, the first r of them -/
def updR (ys : List (List UInt8)) (col : List UInt8) (i : Nat) : Nat → List (List UInt8)
  | 0 => ys
  | r + 1 => (updR ys col i r).set r (addRow (ys.getD r []) col (wtq r i))
theorem updR_len (ys : List (List UInt8)) (col : List UInt8) (i r : Nat) : (updR ys col i r).length = ys.length := by
  induction r with
  | zero => rfl
  | succ r ih => rw [updR, List.length_set, ih]
theorem updR_at (ys : List (List UInt8)) (col : List UInt8) (i : Nat) : ∀ (r j : Nat), r ≤ j → (updR ys col i r)[j]? = ys[j]? := by
  intro r
  induction r with
  | zero => intro j _; rfl
  | succ r ih =>
    intro j hj
    rw [updR, List.getElem?_set_ne (by omega), ih j (by omega)]
def three (cols : List (List UInt8)) (n i : Nat) : List (List UInt8) := [prow (wtq 0) cols n i, prow (wtq 1) cols n i, prow (wtq 2) cols n i]
theorem three_next (cols : List (List UInt8)) (n i : Nat) : updR (three cols n i) (cols.getD i []) i 3 = three cols n (i + 1) := rfl
end Go.HL
namespace Go.Proofs.Ytjdbjdgobhjbkaa
open Go.RowKit Go.HL

/-! a number among others -/
theorem index_calls {S : Nat → Prop} {w : World} {ao : Option Addr} {c : Nat} {l : List Int} (hr : RSl S w ei ao c l) (hl : l.length ≤ 140737488351232) (x : Int) :
    Calls Try.prog 49 [.slice ao l.length c, vi x].toArray w (Ret fun v w' => (∃ k : Int, v = vi k ∧ (0 ≤ k ↔ x ∈ l)) ∧ Chg Nob w w') := by
  replace hr := hr.old
  have hw := Chg.refl Nob w
  refine Calls.of_WC Try.func49 rfl Try.ntmps49 (by simp) ?_
  refine WC.seq (WC.region (WL.assign rfl rfl (WL.nil (WX.then_normal (WC.seq (WC.seq (WC.region (?_))))))))
  refine WL.move rfl rfl (WL.len Try.underlying33 rfl rfl (WL.move rfl rfl (WL.nil (WX.then_normal (WC.block (?_))))))
  refine WC.loop (σ := Nat) (fun i => [(0, .slice ao l.length c), (1, vi x), (7, vi l.length), (8, vi i)])
    (fun i w' => i ≤ l.length ∧ (∀ j : Nat, j < i → l[j]? ≠ some x) ∧ RSl (· < w.heap.size) w' ei ao c l ∧ Chg Nob w w') (fun i => l.length - i) 0 ⟨rfl, rfl, rfl, rfl, trivial⟩ ⟨Nat.zero_le _, fun j h => absurd h (by omega), hr, hw⟩ ?_
  clear hr hw
  rintro i w2 ⟨hi, hall, hr, hw⟩
  refine WC.seq (WC.region (?_))
  refine WL.lss? rfl rfl rfl (fun h9 => ?_) (fun h9 => ?_)
  ·
    refine WL.nil (WX.then_normal (WC.seq (WC.cond_true rfl (WC.skip (WX.then_normal (WC.seq (WC.block (?_))))))))
    refine WC.seq (WC.region (WL.move rfl rfl (WL.assign rfl rfl (WL.nil (WX.then_normal (WC.seq (WC.region (?_))))))))
    refine WL.move rfl rfl (WL.move rfl rfl (WL.move rfl rfl (?_)))
    obtain ⟨y, hy⟩ : ∃ y, l[i]? = some y := ⟨_, List.getElem?_eq_getElem (by omega)⟩
    refine WL.indexT Try.underlying33 Try.sizeOf3 hr rfl rfl ⟨hy, rfl⟩ rfl ?_
    intro b_1 o_1 hc_1
    refine WL.load Try.isAgg3 rfl (hc_1 0 _ rfl) rfl (?_)
    refine WL.eql? rfl rfl rfl (fun h16 => ?_) (fun h16 => ?_)
    ·
      refine WL.nil (WX.then_normal (WC.cond_true rfl (WC.seq (WC.region (WL.move rfl rfl (WL.assign rfl rfl (WL.nil (?_))))))))
      refine WX.then_normal (WC.ret (WX.block_ret (WX.then_ret (WX.then_ret (WX.block_ret (WX.then_ret (?_)))))))
      refine WX.ret1 (.inl rfl) Try.results49 rfl ?_
      first
        | (refine ⟨_, rfl, ⟨_, rfl, ?_⟩, hw⟩
           rw [h16]
           exact ⟨fun _ => List.mem_of_getElem? hy, fun _ => by omega⟩)
        | (refine ⟨_, rfl, ⟨_, rfl, ?_⟩, hw⟩
           refine ⟨fun h => absurd h (by decide), fun h => ?_⟩
           obtain ⟨j, hj⟩ := List.getElem?_of_mem h
           have hjl := (List.getElem?_eq_some_iff.1 hj).1
           exact absurd hj (hall j (by omega)))
    ·
      refine WL.nil (WX.then_normal (WC.cond_false rfl (WC.skip (WX.block_normal (WX.then_normal (WC.region (WL.add64 rfl rfl (by first | omega | (constructor <;> omega)) rfl (?_))))))))
      refine WL.move rfl rfl (WL.nil (?_))
      refine WX.loop_next (i + 1) ⟨rfl, rfl, rfl, rfl, trivial⟩ ⟨by omega, fun j h => ?_, hr, hw⟩ (by show _ - _ < _ - _; omega)
      rcases Nat.lt_or_ge j i with h3 | h3
      ·
        exact hall j h3
      ·
        rw [show j = i from by omega, hy]
        exact fun e => h16 (by injection e with e; exact e.symm)
  ·
    refine WL.nil (WX.then_normal (WC.seq (WC.cond_false rfl (WC.exit (WX.then_exit (WX.then_exit (WX.block_here (?_))))))))
    refine WX.then_normal (WC.seq (WC.region (WL.assign rfl rfl (WL.nil (WX.then_normal (WC.ret (?_)))))))
    refine WX.ret1 (.inl rfl) Try.results49 rfl ?_
    first
      | (refine ⟨_, rfl, ⟨_, rfl, ?_⟩, hw⟩
         rw [h16]
         exact ⟨fun _ => List.mem_of_getElem? hy, fun _ => by omega⟩)
      | (refine ⟨_, rfl, ⟨_, rfl, ?_⟩, hw⟩
         refine ⟨fun h => absurd h (by decide), fun h => ?_⟩
         obtain ⟨j, hj⟩ := List.getElem?_of_mem h
         have hjl := (List.getElem?_eq_some_iff.1 hj).1
         exact absurd hj (hall j (by omega)))
theorem contains_calls {S : Nat → Prop} {w : World} {ao : Option Addr} {c : Nat} {l : List Int} (hr : RSl S w ei ao c l) (hl : l.length ≤ 140737488351232) (x : Int) :
    Calls Try.prog 39 [.slice ao l.length c, vi x].toArray w (Ret fun v w' => v = .bool (decide (x ∈ l)) ∧ Chg Nob w w') := by
  replace hr := hr.old
  have hw := Chg.refl Nob w
  refine Calls.of_WC Try.func39 rfl Try.ntmps39 (by simp) ?_
  refine WC.seq (WC.region (WL.assign rfl rfl (WL.nil (WX.then_normal (WC.seq (WC.region (WL.move rfl rfl (?_))))))))
  refine WL.move rfl rfl (?_)
  refine WL.call eg_49 rfl rfl (index_calls hr hl x) ?_
  rintro v w1 ⟨⟨k, rfl, hk⟩, kk⟩
  have zs_kk := kk.size
  replace hr := hr.pure kk
  replace hw := hw.pure kk
  refine WL.geq rfl rfl rfl (WL.assign rfl rfl (WL.nil (WX.then_normal (WC.ret (?_)))))
  refine WX.ret1 (.inl rfl) Try.results39 rfl ?_
  exact ⟨_, rfl, congrArg Value.bool (decide_eq_decide.2 hk), hw⟩
/-! the one length of columns, none of them bad -/
def xss (rs : List Rw) : List (List UInt8) := rs.map Rw.xs
theorem xss_mem {rs : List Rw} {i : Nat} {r : Rw} (h : rs[i]? = some r) : r.xs ∈ xss rs := List.mem_map.2 ⟨r, List.mem_of_getElem? h, rfl⟩
set_option maxHeartbeats 1000000 in
theorem length_calls {S : Nat → Prop} {w : World} {ao : Option Addr} {c : Nat} {rs : List Rw} (hc : RS S w ao c rs) (hl : rs.length * 24 ≤ 140737488351232) :
    Calls Try.prog 43 [.slice ao rs.length c, .slice none 0 0].toArray w (Ret fun v w' => v = vi (lenC (xss rs)) ∧ Chg Nob w w') := by
  replace hc := hc.old
  have hw := Chg.refl Nob w
  refine Calls.of_WC Try.func43 rfl Try.ntmps43 (by simp) ?_
  refine WC.seq (WC.region (WL.assign rfl rfl (WL.nil (WX.then_normal (WC.seq (WC.region (WL.assign rfl rfl (?_))))))))
  refine WL.nil (WX.then_normal (WC.seq (WC.seq (WC.region (WL.move rfl rfl (WL.len Try.underlying22 rfl rfl (WL.move rfl rfl (?_))))))))
  refine WL.nil (WX.then_normal (WC.block (?_)))
  refine WC.loop (σ := Nat × Int) (fun q => [(1, .slice none 0 0), (5, vi q.2), (8, .slice ao rs.length c), (9, vi rs.length), (10, vi q.1)])
    (fun q w' => q.1 ≤ rs.length ∧ (q.1 = 0 ∧ q.2 = -1 ∨ 0 < q.1 ∧ ∃ m : Nat, q.2 = (m : Int) ∧ ∀ (j : Nat) (r : Rw), j < q.1 → rs[j]? = some r → r.xs.length = m) ∧ RS (· < w.heap.size) w' ao c rs ∧ Chg Nob w w') (fun q => rs.length - q.1) (0, -1) ⟨rfl, rfl, rfl, rfl, rfl, trivial⟩ ⟨Nat.zero_le _, .inl ⟨rfl, rfl⟩, hc, hw⟩ ?_
  clear hc hw
  rintro ⟨i, n⟩ w2 ⟨hi, hall, hc, hw⟩
  dsimp only at hi hall hc hw ⊢
  refine WC.seq (WC.region (?_))
  refine WL.lss? rfl rfl rfl (fun h11 => ?_) (fun h11 => ?_)
  ·
    refine WL.nil (WX.then_normal (WC.seq (WC.cond_true rfl (WC.skip (WX.then_normal (WC.seq (WC.block (?_))))))))
    refine WC.seq (WC.region (WL.move rfl rfl (?_)))
    obtain ⟨r, hr⟩ : ∃ r, rs[i]? = some r := ⟨_, List.getElem?_eq_getElem (by omega)⟩
    refine WL.indexT Try.underlying22 Try.sizeOf23 hc.outer rfl rfl ⟨hr, rfl⟩ rfl ?_
    intro b_1 o_1 hc_1
    refine WL.load Try.isAgg23 rfl (hc_1 0 _ rfl) rfl (WL.assign rfl rfl (WL.assign rfl rfl (WL.nil (WX.then_normal (WC.block (WC.seq (WC.region (?_))))))))
    refine WL.move rfl rfl (WL.move rfl rfl (?_))
    refine WL.call eg_39 rfl rfl (contains_calls (RSl.nil (fun _ => True) _ ei none 0) (by decide) _) ?_
    rintro v w3 ⟨rfl, k⟩
    rw [show decide ((i : Int) ∈ ([] : List Int)) = false from rfl]
    have zs_k := k.size
    replace hc := hc.pure k
    replace hw := hw.pure k
    refine WL.assign rfl rfl (WL.nil (WX.then_normal (WC.cond_false rfl (WC.seq (WC.region (WL.move rfl rfl (?_)))))))
    refine WL.geq? rfl rfl rfl (fun h23 => ?_) (fun h23 => ?_)
    ·
      refine WL.move rfl rfl (WL.want rfl rfl rfl (WL.move rfl rfl (WL.want rfl rfl rfl (WL.len Try.underlying23 rfl rfl (WL.want rfl rfl rfl (WL.move rfl rfl (WL.want rfl rfl rfl (?_))))))))
      refine WL.neq? rfl rfl rfl (fun h28 => ?_) (fun h28 => ?_)
      ·
        refine WL.pickT rfl rfl rfl (WL.assign rfl rfl (WL.nil (WX.then_normal (WC.cond_true rfl (WC.seq (WC.region (WL.assign rfl rfl (?_))))))))
        refine WL.nil (WX.then_normal (WC.ret (WX.block_ret (WX.block_ret (WX.then_ret (WX.then_ret (WX.block_ret (?_))))))))
        refine WX.then_ret (?_)
        refine WX.ret1 (.inl rfl) Try.results43 rfl ?_
        first
          | (refine ⟨_, rfl, ?_, hw⟩
             rcases hall with ⟨h1, h2⟩ | ⟨h0, m, h1, h2⟩
             ·
               exfalso; omega
             ·
               obtain ⟨r0, hr0⟩ : ∃ r0, rs[0]? = some r0 := ⟨_, List.getElem?_eq_getElem (by omega)⟩
               have h3 := h2 0 r0 h0 hr0
               rw [lenC_bad (xss_mem hr) (xss_mem hr0) (by omega)])
          | (have hil : i = rs.length := by omega
             refine ⟨_, rfl, ?_, hw⟩
             rcases hall with ⟨h1, h2⟩ | ⟨h0, m, h1, h2⟩
             ·
               have : rs = [] := List.eq_nil_of_length_eq_zero (by omega)
               subst this
               first
                 | rfl
                 | (exfalso; omega)
             ·
               have hne : xss rs ≠ [] := fun e => by
                 have : (xss rs).length = 0 := by rw [e]; rfl
                 rw [xss, List.length_map] at this
                 omega
               have hall2 : ∀ d ∈ xss rs, d.length = m := by
                 intro d hd
                 obtain ⟨r, hr, rfl⟩ := List.mem_map.1 hd
                 obtain ⟨j, hj⟩ := List.getElem?_of_mem hr
                 exact h2 j r (by have := (List.getElem?_eq_some_iff.1 hj).1; omega) hj
               rw [lenC_of hne hall2]
               first
                 | (rw [if_neg (by omega)]; done)
                 | (rw [if_pos (by omega), h1]; done))
      ·
        refine WL.pickT rfl rfl rfl (WL.assign rfl rfl (WL.nil (WX.then_normal (WC.cond_false rfl (WC.region (WL.move rfl rfl (WL.len Try.underlying23 rfl rfl (?_))))))))
        refine WL.assign rfl rfl (WL.nil (WX.block_normal (WX.block_normal (WX.then_normal (WC.region (WL.add64 rfl rfl (by first | omega | (constructor <;> omega)) rfl (WL.move rfl rfl (?_))))))))
        refine WL.nil (?_)
        refine WX.loop_next (i + 1, (r.xs.length : Int)) ⟨rfl, rfl, rfl, rfl, rfl, trivial⟩ ⟨by dsimp only; omega, .inr ⟨by dsimp only; omega, r.xs.length, rfl, fun j r' h h' => ?_⟩, hc, hw⟩ (by show _ - _ < _ - _; omega)
        dsimp only at h
        rcases Nat.lt_or_ge j i with h3 | h3
        ·
          rcases hall with ⟨h1, _⟩ | ⟨_, m, h1, h2⟩
          ·
            omega
          ·
            have h4 := h2 j r' h3 h'
            omega
        ·
          rw [show j = i from by omega, hr] at h'
          injection h' with h'
          rw [h']
    ·
      refine WL.move rfl rfl (WL.pass rfl rfl rfl rfl (WL.pass rfl rfl rfl rfl (WL.pass rfl rfl rfl rfl (WL.pass rfl rfl rfl rfl (WL.pickF rfl rfl rfl (WL.assign rfl rfl (WL.nil (?_))))))))
      refine WX.then_normal (WC.cond_false rfl (WC.region (WL.move rfl rfl (WL.len Try.underlying23 rfl rfl (WL.assign rfl rfl (WL.nil (WX.block_normal (?_))))))))
      refine WX.block_normal (WX.then_normal (WC.region (WL.add64 rfl rfl (by first | omega | (constructor <;> omega)) rfl (WL.move rfl rfl (WL.nil (?_))))))
      refine WX.loop_next (i + 1, (r.xs.length : Int)) ⟨rfl, rfl, rfl, rfl, rfl, trivial⟩ ⟨by dsimp only; omega, .inr ⟨by dsimp only; omega, r.xs.length, rfl, fun j r' h h' => ?_⟩, hc, hw⟩ (by show _ - _ < _ - _; omega)
      dsimp only at h
      rcases Nat.lt_or_ge j i with h3 | h3
      ·
        rcases hall with ⟨h1, _⟩ | ⟨_, m, h1, h2⟩
        ·
          omega
        ·
          have h4 := h2 j r' h3 h'
          omega
      ·
        rw [show j = i from by omega, hr] at h'
        injection h' with h'
        rw [h']
  ·
    refine WL.nil (WX.then_normal (WC.seq (WC.cond_false rfl (WC.exit (WX.then_exit (WX.then_exit (WX.block_here (?_))))))))
    refine WX.then_normal (WC.seq (WC.seq (WC.region (WL.move rfl rfl (?_)))))
    refine WL.lss? rfl rfl rfl (fun h32 => ?_) (fun h32 => ?_)
    ·
      refine WL.move rfl rfl (WL.pass rfl rfl rfl rfl (WL.pass rfl rfl rfl rfl (WL.pickT rfl rfl rfl (WL.nil (WX.then_normal (WC.cond_true rfl (WC.seq (?_))))))))
      refine WC.region (WL.assign rfl rfl (WL.nil (WX.then_normal (WC.ret (WX.then_ret (?_))))))
      refine WX.ret1 (.inl rfl) Try.results43 rfl ?_
      first
        | (refine ⟨_, rfl, ?_, hw⟩
           rcases hall with ⟨h1, h2⟩ | ⟨h0, m, h1, h2⟩
           ·
             exfalso; omega
           ·
             obtain ⟨r0, hr0⟩ : ∃ r0, rs[0]? = some r0 := ⟨_, List.getElem?_eq_getElem (by omega)⟩
             have h3 := h2 0 r0 h0 hr0
             rw [lenC_bad (xss_mem hr) (xss_mem hr0) (by omega)])
        | (have hil : i = rs.length := by omega
           refine ⟨_, rfl, ?_, hw⟩
           rcases hall with ⟨h1, h2⟩ | ⟨h0, m, h1, h2⟩
           ·
             have : rs = [] := List.eq_nil_of_length_eq_zero (by omega)
             subst this
             first
               | rfl
               | (exfalso; omega)
           ·
             have hne : xss rs ≠ [] := fun e => by
               have : (xss rs).length = 0 := by rw [e]; rfl
               rw [xss, List.length_map] at this
               omega
             have hall2 : ∀ d ∈ xss rs, d.length = m := by
               intro d hd
               obtain ⟨r, hr, rfl⟩ := List.mem_map.1 hd
               obtain ⟨j, hj⟩ := List.getElem?_of_mem hr
               exact h2 j r (by have := (List.getElem?_eq_some_iff.1 hj).1; omega) hj
             rw [lenC_of hne hall2]
             first
               | (rw [if_neg (by omega)]; done)
               | (rw [if_pos (by omega), h1]; done))
    ·
      refine WL.move rfl rfl (WL.want rfl rfl rfl (WL.move rfl rfl (WL.want rfl rfl rfl (?_))))
      refine WL.gtr? rfl rfl rfl (fun h35 => ?_) (fun h35 => ?_)
      ·
        refine WL.pickF rfl rfl rfl (WL.nil (WX.then_normal (WC.cond_true rfl (WC.seq (WC.region (WL.assign rfl rfl (WL.nil (?_))))))))
        refine WX.then_normal (WC.ret (WX.then_ret (?_)))
        refine WX.ret1 (.inl rfl) Try.results43 rfl ?_
        first
          | (refine ⟨_, rfl, ?_, hw⟩
             rcases hall with ⟨h1, h2⟩ | ⟨h0, m, h1, h2⟩
             ·
               exfalso; omega
             ·
               obtain ⟨r0, hr0⟩ : ∃ r0, rs[0]? = some r0 := ⟨_, List.getElem?_eq_getElem (by omega)⟩
               have h3 := h2 0 r0 h0 hr0
               rw [lenC_bad (xss_mem hr) (xss_mem hr0) (by omega)])
          | (have hil : i = rs.length := by omega
             refine ⟨_, rfl, ?_, hw⟩
             rcases hall with ⟨h1, h2⟩ | ⟨h0, m, h1, h2⟩
             ·
               have : rs = [] := List.eq_nil_of_length_eq_zero (by omega)
               subst this
               first
                 | rfl
                 | (exfalso; omega)
             ·
               have hne : xss rs ≠ [] := fun e => by
                 have : (xss rs).length = 0 := by rw [e]; rfl
                 rw [xss, List.length_map] at this
                 omega
               have hall2 : ∀ d ∈ xss rs, d.length = m := by
                 intro d hd
                 obtain ⟨r, hr, rfl⟩ := List.mem_map.1 hd
                 obtain ⟨j, hj⟩ := List.getElem?_of_mem hr
                 exact h2 j r (by have := (List.getElem?_eq_some_iff.1 hj).1; omega) hj
               rw [lenC_of hne hall2]
               first
                 | (rw [if_neg (by omega)]; done)
                 | (rw [if_pos (by omega), h1]; done))
      ·
        refine WL.pickF rfl rfl rfl (WL.nil (WX.then_normal (WC.cond_false rfl (WC.skip (WX.then_normal (WC.seq (WC.region (?_))))))))
        refine WL.move rfl rfl (WL.assign rfl rfl (WL.nil (WX.then_normal (WC.ret (?_)))))
        refine WX.ret1 (.inl rfl) Try.results43 rfl ?_
        first
          | (refine ⟨_, rfl, ?_, hw⟩
             rcases hall with ⟨h1, h2⟩ | ⟨h0, m, h1, h2⟩
             ·
               exfalso; omega
             ·
               obtain ⟨r0, hr0⟩ : ∃ r0, rs[0]? = some r0 := ⟨_, List.getElem?_eq_getElem (by omega)⟩
               have h3 := h2 0 r0 h0 hr0
               rw [lenC_bad (xss_mem hr) (xss_mem hr0) (by omega)])
          | (have hil : i = rs.length := by omega
             refine ⟨_, rfl, ?_, hw⟩
             rcases hall with ⟨h1, h2⟩ | ⟨h0, m, h1, h2⟩
             ·
               have : rs = [] := List.eq_nil_of_length_eq_zero (by omega)
               subst this
               first
                 | rfl
                 | (exfalso; omega)
             ·
               have hne : xss rs ≠ [] := fun e => by
                 have : (xss rs).length = 0 := by rw [e]; rfl
                 rw [xss, List.length_map] at this
                 omega
               have hall2 : ∀ d ∈ xss rs, d.length = m := by
                 intro d hd
                 obtain ⟨r, hr, rfl⟩ := List.mem_map.1 hd
                 obtain ⟨j, hj⟩ := List.getElem?_of_mem hr
                 exact h2 j r (by have := (List.getElem?_eq_some_iff.1 hj).1; omega) hj
               rw [lenC_of hne hall2]
               first
                 | (rw [if_neg (by omega)]; done)
                 | (rw [if_pos (by omega), h1]; done))
end Go.Proofs.Ytjdbjdgobhjbkaa
namespace Go.Proofs.Ytjdbjdgobhjbkaa
open Go.RowKit Go.HL

/-! where the tables are there already -/
theorem doR_calls {w : World} {g : Nat} (hR : Blk w g 65 FR) (fv : Value) :
    Calls Try.prog 52 [.pointer (some ⟨g, 0, none⟩), fv].toArray w (Ret fun v w' => v = .tuple #[] ∧ Chg Nob w w') := by
  refine (do_done hR fv).mono ?_
  rintro e w' ⟨rfl, rfl⟩
  exact ⟨_, rfl, rfl, Chg.refl _ _⟩
theorem tablesR_calls {w : World} {g : Nat} (hR : Blk w g 65 FR) : Calls Try.prog 47 [.pointer (some ⟨g, 0, none⟩)].toArray w (Ret fun v w' => v = .tuple #[] ∧ Chg Nob w w') := by
  have hw := Chg.refl Nob w
  refine Calls.of_WC Try.func47 rfl Try.ntmps47 (by simp) ?_
  refine WC.seq (WC.region (?_))
  refine WL.box rfl rfl ?_
  intro g_1 w_1 hge_1 hlt_1 hb_1 k_1
  have zs_k_1 := k_1.size
  replace hR := hR.pure k_1
  replace hw := hw.pure k_1
  refine WL.nil (WX.then_normal (WC.region (WL.loadB Try.isAgg28 hb_1 rfl rfl rfl (WL.nilCheck rfl rfl (WL.fieldAddr (fld_65_0) rfl rfl (?_))))))
  refine WL.makeFunc rfl rfl ?_
  refine WL.call eg_52 rfl rfl (doR_calls hR _) ?_
  rintro v w2 ⟨rfl, k⟩
  have zs_k := k.size
  replace hR := hR.pure k
  replace hw := hw.pure k
  replace hb_1 := hb_1.pure k
  refine WL.nil (?_)
  refine WX.ret0 (.inr rfl) Try.results47 ?_
  exact ⟨_, rfl, rfl, hw⟩
set_option maxRecDepth 100000 in
theorem readyR_calls {w : World} {g : Nat} (hR : Blk w g 65 FR) : Calls Try.prog 29 [.pointer (some ⟨g, 0, none⟩)].toArray w (Ret fun v w' => v = .pointer (some ⟨g, 0, none⟩) ∧ Chg Nob w w') := by
  have hw := Chg.refl Nob w
  refine Calls.of_WC Try.func29 rfl Try.ntmps29 (by simp) ?_
  refine WC.seq (WC.region (WL.assign rfl rfl (WL.nil (WX.then_normal (WC.seq (WC.seq (WC.region (?_))))))))
  refine WL.move rfl rfl (?_)
  refine WL.pnil Try.underlying28 rfl rfl rfl ?_
  rw [show (some (⟨g, 0, none⟩ : Addr)).isNone = false from rfl]
  refine WL.nil (WX.then_normal (WC.cond_false rfl (WC.skip (WX.then_normal (WC.seq (WC.region (WL.move rfl rfl (?_))))))))
  refine WL.call eg_47 rfl rfl (tablesR_calls hR) ?_
  rintro v w2 ⟨rfl, k⟩
  have zs_k := k.size
  replace hR := hR.pure k
  replace hw := hw.pure k
  refine WL.nil (WX.then_normal (WC.seq (WC.region (WL.move rfl rfl (WL.assign rfl rfl (WL.nil (WX.then_normal (?_))))))))
  refine WC.ret (?_)
  refine WX.ret1 (.inl rfl) Try.results29 rfl ?_
  exact ⟨_, rfl, rfl, hw⟩
theorem mulR_calls {w : World} {g : Nat} (hR : Blk w g 65 FR) (a b : UInt8) : Calls Try.prog 15 [.pointer (some ⟨g, 0, none⟩), v8 a, v8 b].toArray w (Ret fun v w' => v = v8 (mul a b) ∧ Chg Nob w w') := by
  have hw := Chg.refl Nob w
  have hla := L_lt a
  have hlb := L_lt b
  refine Calls.of_WC Try.func15 rfl Try.ntmps15 (by simp) ?_
  refine WC.seq (WC.region (WL.assign rfl rfl (WL.nil (WX.then_normal (WC.seq (WC.seq (WC.region (?_))))))))
  refine WL.move rfl rfl (?_)
  refine WL.eql? rfl rfl rfl (fun h8 => ?_) (fun h8 => ?_)
  ·
    refine WL.move rfl rfl (WL.pass rfl rfl rfl rfl (WL.pass rfl rfl rfl rfl (WL.pickT rfl rfl rfl (WL.nil (WX.then_normal (WC.cond_true rfl (WC.seq (?_))))))))
    refine WC.region (WL.assign rfl rfl (WL.nil (WX.then_normal (WC.ret (WX.then_ret (?_))))))
    refine WX.ret1 (.inl rfl) Try.results15 rfl ?_
    first
      | (have ha := u8_zero h8
         subst ha
         refine ⟨_, rfl, ?_, hw⟩
         rw [mul_zero_l]
         rfl)
      | (have hb := u8_zero h11
         subst hb
         refine ⟨_, rfl, ?_, hw⟩
         rw [mul_zero_r]
         rfl)
      | (refine ⟨_, rfl, ?_, hw⟩
         rw [mul, if_neg (by rintro (h | h); exact u8_ne h8 h; exact u8_ne h11 h)])
  ·
    refine WL.move rfl rfl (WL.want rfl rfl rfl (WL.move rfl rfl (WL.want rfl rfl rfl (?_))))
    refine WL.eql? rfl rfl rfl (fun h11 => ?_) (fun h11 => ?_)
    ·
      refine WL.pickF rfl rfl rfl (WL.nil (WX.then_normal (WC.cond_true rfl (WC.seq (WC.region (WL.assign rfl rfl (WL.nil (?_))))))))
      refine WX.then_normal (WC.ret (WX.then_ret (?_)))
      refine WX.ret1 (.inl rfl) Try.results15 rfl ?_
      first
        | (have ha := u8_zero h8
           subst ha
           refine ⟨_, rfl, ?_, hw⟩
           rw [mul_zero_l]
           rfl)
        | (have hb := u8_zero h11
           subst hb
           refine ⟨_, rfl, ?_, hw⟩
           rw [mul_zero_r]
           rfl)
        | (refine ⟨_, rfl, ?_, hw⟩
           rw [mul, if_neg (by rintro (h | h); exact u8_ne h8 h; exact u8_ne h11 h)])
    ·
      refine WL.pickF rfl rfl rfl (WL.nil (WX.then_normal (WC.cond_false rfl (WC.skip (WX.then_normal (WC.seq (WC.region (?_))))))))
      refine WL.move rfl rfl (?_)
      refine WL.call eg_29 rfl rfl (readyR_calls hR) ?_
      rintro v w2 ⟨rfl, k⟩
      have zs_k := k.size
      replace hR := hR.pure k
      replace hw := hw.pure k
      refine WL.assign rfl rfl (WL.nil (WX.then_normal (WC.seq (?_))))
      refine WC.draw (Nob) [0, 1, 2, 3, 4, 5, 6, 7, 8, 9, 10, 11, 12, 13, 14, 15, 16, 17, 18] [] mixed rfl rfl (fun wd_1 kd_1 zd_1 => ?_)
      have zs_kd_1 := kd_1.size
      replace hR := hR.pure kd_1
      replace hw := hw.pure kd_1
      apply DQ.step (E' := [(0, _)])
      case ho => rfl
      case hs => exact ⟨rfl, trivial⟩
      case hk => rfl
      case h1 =>
        intro wq_2 kq_2
        refine WL.move rfl rfl (?_)
        refine WL.nil ?_
        exact WX.one ⟨rfl, by first | exact Chg.refl _ _ | assumption⟩
      apply DQ.step (E' := [(0, _)])
      case ho => rfl
      case hs => exact ⟨rfl, trivial⟩
      case hk => rfl
      case h1 =>
        intro wq_3 kq_3
        refine WL.move rfl rfl (?_)
        refine WL.nil ?_
        exact WX.one ⟨rfl, by first | exact Chg.refl _ _ | assumption⟩
      apply DQ.step (E' := [(1, _)])
      case ho => rfl
      case hs => exact ⟨rfl, trivial⟩
      case hk => rfl
      case h1 =>
        intro wq_4 kq_4
        refine WL.move rfl rfl (?_)
        refine WL.nil ?_
        exact WX.one ⟨rfl, by first | exact Chg.refl _ _ | assumption⟩
      apply DQ.step (E' := [(16, _)])
      case ho => rfl
      case hs => exact ⟨rfl, trivial⟩
      case hk => rfl
      case h1 =>
        intro wq_5 kq_5
        refine WL.nilCheck rfl rfl (?_)
        refine WL.nil ?_
        exact WX.one ⟨rfl, by first | exact Chg.refl _ _ | assumption⟩
      apply DQ.step (E' := [(18, _)])
      case ho => rfl
      case hs => exact ⟨rfl, trivial⟩
      case hk => rfl
      case h1 =>
        intro wq_6 kq_6
        refine WL.fieldAddr (fld_65_2) rfl rfl (?_)
        refine WL.nil ?_
        exact WX.one ⟨rfl, by first | exact Chg.refl _ _ | assumption⟩
      apply DQ.step (E' := [(19, _), (17, _)])
      case ho => rfl
      case hs => exact ⟨rfl, rfl, trivial⟩
      case hk => rfl
      case h1 =>
        intro wq_7 kq_7
        have zs_kq_7 := kq_7.size
        replace hR := hR.pure kq_7
        replace hw := hw.pure kq_7
        refine WL.indexArrO a.toNat Try.underlying63 Try.sizeOf3 rfl rfl ⟨rfl, a.toNat_lt⟩ rfl ?_
        refine WL.nil ?_
        exact WX.one ⟨rfl, by first | exact Chg.refl _ _ | assumption⟩
      apply DQ.step (E' := [(20, _)])
      case ho => rfl
      case hs => exact ⟨rfl, trivial⟩
      case hk => rfl
      case h1 =>
        intro wq_8 kq_8
        have zs_kq_8 := kq_8.size
        replace hR := hR.pure kq_8
        replace hw := hw.pure kq_8
        refine WL.loadB Try.isAgg3 hR rfl (FR_l a) rfl ?_
        refine WL.nil ?_
        exact WX.one ⟨rfl, by first | exact Chg.refl _ _ | assumption⟩
      apply DQ.step (E' := [(0, _)])
      case ho => rfl
      case hs => exact ⟨rfl, trivial⟩
      case hk => rfl
      case h1 =>
        intro wq_9 kq_9
        refine WL.move rfl rfl (?_)
        refine WL.nil ?_
        exact WX.one ⟨rfl, by first | exact Chg.refl _ _ | assumption⟩
      apply DQ.step (E' := [(2, _)])
      case ho => rfl
      case hs => exact ⟨rfl, trivial⟩
      case hk => rfl
      case h1 =>
        intro wq_10 kq_10
        refine WL.move rfl rfl (?_)
        refine WL.nil ?_
        exact WX.one ⟨rfl, by first | exact Chg.refl _ _ | assumption⟩
      apply DQ.step (E' := [(22, _)])
      case ho => rfl
      case hs => exact ⟨rfl, trivial⟩
      case hk => rfl
      case h1 =>
        intro wq_11 kq_11
        refine WL.nilCheck rfl rfl (?_)
        refine WL.nil ?_
        exact WX.one ⟨rfl, by first | exact Chg.refl _ _ | assumption⟩
      apply DQ.step (E' := [(24, _)])
      case ho => rfl
      case hs => exact ⟨rfl, trivial⟩
      case hk => rfl
      case h1 =>
        intro wq_12 kq_12
        refine WL.fieldAddr (fld_65_2) rfl rfl (?_)
        refine WL.nil ?_
        exact WX.one ⟨rfl, by first | exact Chg.refl _ _ | assumption⟩
      apply DQ.step (E' := [(25, _), (23, _)])
      case ho => rfl
      case hs => exact ⟨rfl, rfl, trivial⟩
      case hk => rfl
      case h1 =>
        intro wq_13 kq_13
        have zs_kq_13 := kq_13.size
        replace hR := hR.pure kq_13
        replace hw := hw.pure kq_13
        refine WL.indexArrO b.toNat Try.underlying63 Try.sizeOf3 rfl rfl ⟨rfl, b.toNat_lt⟩ rfl ?_
        refine WL.nil ?_
        exact WX.one ⟨rfl, by first | exact Chg.refl _ _ | assumption⟩
      apply DQ.step (E' := [(26, _)])
      case ho => rfl
      case hs => exact ⟨rfl, trivial⟩
      case hk => rfl
      case h1 =>
        intro wq_14 kq_14
        have zs_kq_14 := kq_14.size
        replace hR := hR.pure kq_14
        replace hw := hw.pure kq_14
        refine WL.loadB Try.isAgg3 hR rfl (FR_l b) rfl ?_
        refine WL.nil ?_
        exact WX.one ⟨rfl, by first | exact Chg.refl _ _ | assumption⟩
      apply DQ.step (E' := [(21, _), (27, _)])
      case ho => rfl
      case hs => exact ⟨rfl, rfl, trivial⟩
      case hk => rfl
      case h1 =>
        intro wq_15 kq_15
        refine WL.add64 rfl rfl (by first | omega | (constructor <;> omega)) rfl (?_)
        refine WL.nil ?_
        exact WX.one ⟨rfl, by first | exact Chg.refl _ _ | assumption⟩
      apply DQ.step (E' := [(15, _)])
      case ho => rfl
      case hs => exact ⟨rfl, trivial⟩
      case hk => rfl
      case h1 =>
        intro wq_16 kq_16
        refine WL.nilCheck rfl rfl (?_)
        refine WL.nil ?_
        exact WX.one ⟨rfl, by first | exact Chg.refl _ _ | assumption⟩
      apply DQ.step (E' := [(29, _)])
      case ho => rfl
      case hs => exact ⟨rfl, trivial⟩
      case hk => rfl
      case h1 =>
        intro wq_17 kq_17
        refine WL.fieldAddr (fld_65_1) rfl rfl (?_)
        refine WL.nil ?_
        exact WX.one ⟨rfl, by first | exact Chg.refl _ _ | assumption⟩
      apply DQ.step (E' := [(30, _), (28, _)])
      case ho => rfl
      case hs => exact ⟨rfl, rfl, trivial⟩
      case hk => rfl
      case h1 =>
        intro wq_18 kq_18
        have zs_kq_18 := kq_18.size
        replace hR := hR.pure kq_18
        replace hw := hw.pure kq_18
        refine WL.indexArrO (L a + L b) Try.underlying62 Try.sizeOf5 rfl rfl ⟨by omega, by omega⟩ rfl ?_
        refine WL.nil ?_
        exact WX.one ⟨rfl, by first | exact Chg.refl _ _ | assumption⟩
      apply DQ.step (E' := [(31, _)])
      case ho => rfl
      case hs => exact ⟨rfl, trivial⟩
      case hk => rfl
      case h1 =>
        intro wq_19 kq_19
        have zs_kq_19 := kq_19.size
        replace hR := hR.pure kq_19
        replace hw := hw.pure kq_19
        refine WL.loadB Try.isAgg5 hR rfl (FR_e (by omega)) rfl ?_
        refine WL.nil ?_
        exact WX.one ⟨rfl, by first | exact Chg.refl _ _ | assumption⟩
      apply DQ.step (E' := [(32, _)])
      case ho => rfl
      case hs => exact ⟨rfl, trivial⟩
      case hk => rfl
      case h1 =>
        intro wq_20 kq_20
        refine WL.assign rfl rfl (?_)
        refine WL.nil ?_
        exact WX.one ⟨rfl, by first | exact Chg.refl _ _ | assumption⟩
      refine DQ.done (fun _ => ?_)
      refine DL.done (fun we_21 ke_21 => ?_)
      have zs_ke_21 := ke_21.size
      replace hR := hR.pure ke_21
      replace hw := hw.pure ke_21
      refine WX.then_normal (WC.ret (?_))
      refine WX.ret1 (.inl rfl) Try.results15 rfl ?_
      first
        | (have ha := u8_zero h8
           subst ha
           refine ⟨_, rfl, ?_, hw⟩
           rw [mul_zero_l]
           rfl)
        | (have hb := u8_zero h11
           subst hb
           refine ⟨_, rfl, ?_, hw⟩
           rw [mul_zero_r]
           rfl)
        | (refine ⟨_, rfl, ?_, hw⟩
           rw [mul, if_neg (by rintro (h | h); exact u8_ne h8 h; exact u8_ne h11 h)])
theorem mulT_calls {w : World} {g : Nat} (hF : Fld w g) (a b : UInt8) (ha : a ≠ 0) (hb : b ≠ 0) : Calls Try.prog 15 [.pointer (some ⟨g, 0, none⟩), v8 a, v8 b].toArray w (Ret fun v w' => v = v8 (mul a b) ∧ Blk w' g 65 FR ∧ Chg (fun x => x = g) w w') := by
  have hw := Chg.refl (fun x => x = g) w
  have hla := L_lt a
  have hlb := L_lt b
  refine Calls.of_WC Try.func15 rfl Try.ntmps15 (by simp) ?_
  refine WC.seq (WC.region (WL.assign rfl rfl (WL.nil (WX.then_normal (WC.seq (WC.seq (WC.region (?_))))))))
  refine WL.move rfl rfl (?_)
  refine WL.eql? rfl rfl rfl (fun h8 => ?_) (fun h8 => ?_)
  ·
    refine WL.move rfl rfl (WL.pass rfl rfl rfl rfl (WL.pass rfl rfl rfl rfl (WL.pickT rfl rfl rfl (WL.nil (WX.then_normal (WC.cond_true rfl (WC.seq (?_))))))))
    refine WC.region (WL.assign rfl rfl (WL.nil (WX.then_normal (WC.ret (WX.then_ret (?_))))))
    refine WX.ret1 (.inl rfl) Try.results15 rfl ?_
    first
      | (exfalso; exact ha (u8_zero h8))
      | (exfalso; exact hb (u8_zero h11))
      | (refine ⟨_, rfl, ?_, hR, hw⟩
         rw [mul, if_neg (by rintro (h | h); exact u8_ne h8 h; exact u8_ne h11 h)])
  ·
    refine WL.move rfl rfl (WL.want rfl rfl rfl (WL.move rfl rfl (WL.want rfl rfl rfl (?_))))
    refine WL.eql? rfl rfl rfl (fun h11 => ?_) (fun h11 => ?_)
    ·
      refine WL.pickF rfl rfl rfl (WL.nil (WX.then_normal (WC.cond_true rfl (WC.seq (WC.region (WL.assign rfl rfl (WL.nil (?_))))))))
      refine WX.then_normal (WC.ret (WX.then_ret (?_)))
      refine WX.ret1 (.inl rfl) Try.results15 rfl ?_
      first
        | (exfalso; exact ha (u8_zero h8))
        | (exfalso; exact hb (u8_zero h11))
        | (refine ⟨_, rfl, ?_, hR, hw⟩
           rw [mul, if_neg (by rintro (h | h); exact u8_ne h8 h; exact u8_ne h11 h)])
    ·
      refine WL.pickF rfl rfl rfl (WL.nil (WX.then_normal (WC.cond_false rfl (WC.skip (WX.then_normal (WC.seq (WC.region (?_))))))))
      refine WL.move rfl rfl (?_)
      refine WL.call eg_29 rfl rfl (ready_calls hF) ?_
      rintro v w2 ⟨rfl, hR, k⟩
      have zs_k := k.size
      replace hw := hw.chg k (by first | (intro x h1 h2; exact h2) | (intro x h0 h1 h2; exact hS x h1 h2) | (intro x h0 h1 h2; have h3 : _ = _ := h2; subst h3; exact hSR h1.1) | (intro x h1 h2; have h3 : _ = _ := h2; subst h3; assumption) | (intro x h1 h2; have h3 : _ = _ := h2; exfalso; omega) | (intro b h1 h2 h3; have h4 : _ = _ := h3; (try dsimp only at h2); exfalso; omega) | (intro h1; have h2 : _ = _ := h1; exfalso; omega) | (intro h1; have h2 : _ ≤ _ := h1; exfalso; omega) | (intros; exfalso; (try dsimp only at *); omega) | (intro b h1 h2 h3; exfalso; have h4 := h3.2; (try dsimp only at *); omega) | (intro h1; exfalso; have h4 := h1.2; (try dsimp only at *); omega) | (intro x h1 h2; exfalso; have h4 := h2.2; (try dsimp only at *); omega) | (intro x h1 h2; exact ⟨_, rfl, h2⟩) | (intro x h1 h2; have h4 := h2.1; have h5 := h2.2; exfalso; omega) | (intro x h1 h2; exact h2.1) | (intro x h1 h2; rcases h2.1 with h3 | h3; exact h3; exfalso; omega) | (intro x h1 h2; rcases h2 with h3 | h3; exact h3; exfalso; omega))
      refine WL.assign rfl rfl (WL.nil (WX.then_normal (WC.seq (?_))))
      refine WC.draw (Nob) [0, 1, 2, 3, 4, 5, 6, 7, 8, 9, 10, 11, 12, 13, 14, 15, 16, 17, 18] [] mixed rfl rfl (fun wd_1 kd_1 zd_1 => ?_)
      have zs_kd_1 := kd_1.size
      replace hw := hw.pure kd_1
      replace hR := hR.pure kd_1
      apply DQ.step (E' := [(0, _)])
      case ho => rfl
      case hs => exact ⟨rfl, trivial⟩
      case hk => rfl
      case h1 =>
        intro wq_2 kq_2
        refine WL.move rfl rfl (?_)
        refine WL.nil ?_
        exact WX.one ⟨rfl, by first | exact Chg.refl _ _ | assumption⟩
      apply DQ.step (E' := [(0, _)])
      case ho => rfl
      case hs => exact ⟨rfl, trivial⟩
      case hk => rfl
      case h1 =>
        intro wq_3 kq_3
        refine WL.move rfl rfl (?_)
        refine WL.nil ?_
        exact WX.one ⟨rfl, by first | exact Chg.refl _ _ | assumption⟩
      apply DQ.step (E' := [(1, _)])
      case ho => rfl
      case hs => exact ⟨rfl, trivial⟩
      case hk => rfl
      case h1 =>
        intro wq_4 kq_4
        refine WL.move rfl rfl (?_)
        refine WL.nil ?_
        exact WX.one ⟨rfl, by first | exact Chg.refl _ _ | assumption⟩
      apply DQ.step (E' := [(16, _)])
      case ho => rfl
      case hs => exact ⟨rfl, trivial⟩
      case hk => rfl
      case h1 =>
        intro wq_5 kq_5
        refine WL.nilCheck rfl rfl (?_)
        refine WL.nil ?_
        exact WX.one ⟨rfl, by first | exact Chg.refl _ _ | assumption⟩
      apply DQ.step (E' := [(18, _)])
      case ho => rfl
      case hs => exact ⟨rfl, trivial⟩
      case hk => rfl
      case h1 =>
        intro wq_6 kq_6
        refine WL.fieldAddr (fld_65_2) rfl rfl (?_)
        refine WL.nil ?_
        exact WX.one ⟨rfl, by first | exact Chg.refl _ _ | assumption⟩
      apply DQ.step (E' := [(19, _), (17, _)])
      case ho => rfl
      case hs => exact ⟨rfl, rfl, trivial⟩
      case hk => rfl
      case h1 =>
        intro wq_7 kq_7
        have zs_kq_7 := kq_7.size
        replace hw := hw.pure kq_7
        replace hR := hR.pure kq_7
        refine WL.indexArrO a.toNat Try.underlying63 Try.sizeOf3 rfl rfl ⟨rfl, a.toNat_lt⟩ rfl ?_
        refine WL.nil ?_
        exact WX.one ⟨rfl, by first | exact Chg.refl _ _ | assumption⟩
      apply DQ.step (E' := [(20, _)])
      case ho => rfl
      case hs => exact ⟨rfl, trivial⟩
      case hk => rfl
      case h1 =>
        intro wq_8 kq_8
        have zs_kq_8 := kq_8.size
        replace hw := hw.pure kq_8
        replace hR := hR.pure kq_8
        refine WL.loadB Try.isAgg3 hR rfl (FR_l a) rfl ?_
        refine WL.nil ?_
        exact WX.one ⟨rfl, by first | exact Chg.refl _ _ | assumption⟩
      apply DQ.step (E' := [(0, _)])
      case ho => rfl
      case hs => exact ⟨rfl, trivial⟩
      case hk => rfl
      case h1 =>
        intro wq_9 kq_9
        refine WL.move rfl rfl (?_)
        refine WL.nil ?_
        exact WX.one ⟨rfl, by first | exact Chg.refl _ _ | assumption⟩
      apply DQ.step (E' := [(2, _)])
      case ho => rfl
      case hs => exact ⟨rfl, trivial⟩
      case hk => rfl
      case h1 =>
        intro wq_10 kq_10
        refine WL.move rfl rfl (?_)
        refine WL.nil ?_
        exact WX.one ⟨rfl, by first | exact Chg.refl _ _ | assumption⟩
      apply DQ.step (E' := [(22, _)])
      case ho => rfl
      case hs => exact ⟨rfl, trivial⟩
      case hk => rfl
      case h1 =>
        intro wq_11 kq_11
        refine WL.nilCheck rfl rfl (?_)
        refine WL.nil ?_
        exact WX.one ⟨rfl, by first | exact Chg.refl _ _ | assumption⟩
      apply DQ.step (E' := [(24, _)])
      case ho => rfl
      case hs => exact ⟨rfl, trivial⟩
      case hk => rfl
      case h1 =>
        intro wq_12 kq_12
        refine WL.fieldAddr (fld_65_2) rfl rfl (?_)
        refine WL.nil ?_
        exact WX.one ⟨rfl, by first | exact Chg.refl _ _ | assumption⟩
      apply DQ.step (E' := [(25, _), (23, _)])
      case ho => rfl
      case hs => exact ⟨rfl, rfl, trivial⟩
      case hk => rfl
      case h1 =>
        intro wq_13 kq_13
        have zs_kq_13 := kq_13.size
        replace hw := hw.pure kq_13
        replace hR := hR.pure kq_13
        refine WL.indexArrO b.toNat Try.underlying63 Try.sizeOf3 rfl rfl ⟨rfl, b.toNat_lt⟩ rfl ?_
        refine WL.nil ?_
        exact WX.one ⟨rfl, by first | exact Chg.refl _ _ | assumption⟩
      apply DQ.step (E' := [(26, _)])
      case ho => rfl
      case hs => exact ⟨rfl, trivial⟩
      case hk => rfl
      case h1 =>
        intro wq_14 kq_14
        have zs_kq_14 := kq_14.size
        replace hw := hw.pure kq_14
        replace hR := hR.pure kq_14
        refine WL.loadB Try.isAgg3 hR rfl (FR_l b) rfl ?_
        refine WL.nil ?_
        exact WX.one ⟨rfl, by first | exact Chg.refl _ _ | assumption⟩
      apply DQ.step (E' := [(21, _), (27, _)])
      case ho => rfl
      case hs => exact ⟨rfl, rfl, trivial⟩
      case hk => rfl
      case h1 =>
        intro wq_15 kq_15
        refine WL.add64 rfl rfl (by first | omega | (constructor <;> omega)) rfl (?_)
        refine WL.nil ?_
        exact WX.one ⟨rfl, by first | exact Chg.refl _ _ | assumption⟩
      apply DQ.step (E' := [(15, _)])
      case ho => rfl
      case hs => exact ⟨rfl, trivial⟩
      case hk => rfl
      case h1 =>
        intro wq_16 kq_16
        refine WL.nilCheck rfl rfl (?_)
        refine WL.nil ?_
        exact WX.one ⟨rfl, by first | exact Chg.refl _ _ | assumption⟩
      apply DQ.step (E' := [(29, _)])
      case ho => rfl
      case hs => exact ⟨rfl, trivial⟩
      case hk => rfl
      case h1 =>
        intro wq_17 kq_17
        refine WL.fieldAddr (fld_65_1) rfl rfl (?_)
        refine WL.nil ?_
        exact WX.one ⟨rfl, by first | exact Chg.refl _ _ | assumption⟩
      apply DQ.step (E' := [(30, _), (28, _)])
      case ho => rfl
      case hs => exact ⟨rfl, rfl, trivial⟩
      case hk => rfl
      case h1 =>
        intro wq_18 kq_18
        have zs_kq_18 := kq_18.size
        replace hw := hw.pure kq_18
        replace hR := hR.pure kq_18
        refine WL.indexArrO (L a + L b) Try.underlying62 Try.sizeOf5 rfl rfl ⟨by omega, by omega⟩ rfl ?_
        refine WL.nil ?_
        exact WX.one ⟨rfl, by first | exact Chg.refl _ _ | assumption⟩
      apply DQ.step (E' := [(31, _)])
      case ho => rfl
      case hs => exact ⟨rfl, trivial⟩
      case hk => rfl
      case h1 =>
        intro wq_19 kq_19
        have zs_kq_19 := kq_19.size
        replace hw := hw.pure kq_19
        replace hR := hR.pure kq_19
        refine WL.loadB Try.isAgg5 hR rfl (FR_e (by omega)) rfl ?_
        refine WL.nil ?_
        exact WX.one ⟨rfl, by first | exact Chg.refl _ _ | assumption⟩
      apply DQ.step (E' := [(32, _)])
      case ho => rfl
      case hs => exact ⟨rfl, trivial⟩
      case hk => rfl
      case h1 =>
        intro wq_20 kq_20
        refine WL.assign rfl rfl (?_)
        refine WL.nil ?_
        exact WX.one ⟨rfl, by first | exact Chg.refl _ _ | assumption⟩
      refine DQ.done (fun _ => ?_)
      refine DL.done (fun we_21 ke_21 => ?_)
      have zs_ke_21 := ke_21.size
      replace hw := hw.pure ke_21
      replace hR := hR.pure ke_21
      refine WX.then_normal (WC.ret (?_))
      refine WX.ret1 (.inl rfl) Try.results15 rfl ?_
      first
        | (exfalso; exact ha (u8_zero h8))
        | (exfalso; exact hb (u8_zero h11))
        | (refine ⟨_, rfl, ?_, hR, hw⟩
           rw [mul, if_neg (by rintro (h | h); exact u8_ne h8 h; exact u8_ne h11 h)])
set_option maxRecDepth 100000 in
theorem powR_two (m : Nat) : powR 2 (m : Int) = (G m, 0) := by
  have hL : L 2 = 1 := by decide +kernel
  rw [powR, if_neg (by omega)]
  by_cases hm : (m : Int) = 0
  · rw [if_pos hm, show m = 0 from by omega, G_zero]
  · rw [if_neg hm, if_neg (by decide), hL, Int.toNat_natCast, Nat.one_mul, Nat.mod_mod, G]
theorem weights_calls {w : World} {g : Nat} (hF : Fld w g) (i : Nat) : Calls Try.prog 50 [.pointer (some ⟨g, 0, none⟩), vi i].toArray w (Ret fun v w' => v = .agg ([wtq 0 i, wtq 1 i, wtq 2 i].map v8).toArray ∧ Blk w' g 65 FR ∧ Chg (fun x => x = g) w w') := by
  have hw := Chg.refl (fun x => x = g) w
  have lg := hF.lt
  refine Calls.of_WC Try.func50 rfl Try.ntmps50 (by simp) ?_
  refine WC.seq (WC.region (?_))
  refine WL.alloc Try.zeroValue84 rfl ?_
  intro g_1 w_1 hge_1 hlt_1 hb_1 k_1
  have zs_k_1 := k_1.size
  replace hF := hF.pure k_1
  replace hw := hw.pure k_1
  refine WL.nil (WX.then_normal (WC.seq (WC.region (WL.move rfl rfl (WL.move rfl rfl (?_))))))
  refine WL.call eg_54 rfl rfl (pow_calls hF 2 i) ?_
  rintro v w1 ⟨rfl, hF2, k⟩
  rw [powR_two]
  have zs_k := k.size
  replace hw := hw.chg k (by first | (intro x h1 h2; exact h2) | (intro x h0 h1 h2; exact hS x h1 h2) | (intro x h0 h1 h2; have h3 : _ = _ := h2; subst h3; exact hSR h1.1) | (intro x h1 h2; have h3 : _ = _ := h2; subst h3; assumption) | (intro x h1 h2; have h3 : _ = _ := h2; exfalso; omega) | (intro b h1 h2 h3; have h4 : _ = _ := h3; (try dsimp only at h2); exfalso; omega) | (intro h1; have h2 : _ = _ := h1; exfalso; omega) | (intro h1; have h2 : _ ≤ _ := h1; exfalso; omega) | (intros; exfalso; (try dsimp only at *); omega) | (intro b h1 h2 h3; exfalso; have h4 := h3.2; (try dsimp only at *); omega) | (intro h1; exfalso; have h4 := h1.2; (try dsimp only at *); omega) | (intro x h1 h2; exfalso; have h4 := h2.2; (try dsimp only at *); omega) | (intro x h1 h2; exact ⟨_, rfl, h2⟩) | (intro x h1 h2; have h4 := h2.1; have h5 := h2.2; exfalso; omega) | (intro x h1 h2; exact h2.1) | (intro x h1 h2; rcases h2.1 with h3 | h3; exact h3; exfalso; omega) | (intro x h1 h2; rcases h2 with h3 | h3; exact h3; exfalso; omega))
  replace hb_1 := hb_1.chg k (by first | (intro x h1 h2; exact h2) | (intro x h0 h1 h2; exact hS x h1 h2) | (intro x h0 h1 h2; have h3 : _ = _ := h2; subst h3; exact hSR h1.1) | (intro x h1 h2; have h3 : _ = _ := h2; subst h3; assumption) | (intro x h1 h2; have h3 : _ = _ := h2; exfalso; omega) | (intro b h1 h2 h3; have h4 : _ = _ := h3; (try dsimp only at h2); exfalso; omega) | (intro h1; have h2 : _ = _ := h1; exfalso; omega) | (intro h1; have h2 : _ ≤ _ := h1; exfalso; omega) | (intros; exfalso; (try dsimp only at *); omega) | (intro b h1 h2 h3; exfalso; have h4 := h3.2; (try dsimp only at *); omega) | (intro h1; exfalso; have h4 := h1.2; (try dsimp only at *); omega) | (intro x h1 h2; exfalso; have h4 := h2.2; (try dsimp only at *); omega) | (intro x h1 h2; exact ⟨_, rfl, h2⟩) | (intro x h1 h2; have h4 := h2.1; have h5 := h2.2; exfalso; omega) | (intro x h1 h2; exact h2.1) | (intro x h1 h2; rcases h2.1 with h3 | h3; exact h3; exfalso; omega) | (intro x h1 h2; rcases h2 with h3 | h3; exact h3; exfalso; omega))
  replace hF := hF2
  refine WL.move rfl rfl (WL.extract rfl rfl rfl (WL.extract rfl rfl rfl (WL.assign rfl rfl (WL.assign rfl rfl (WL.nil (WX.then_normal (WC.seq (?_))))))))
  refine WC.region (WL.move rfl rfl (WL.move rfl rfl (WL.move rfl rfl (WL.move rfl rfl (?_)))))
  refine WL.call eg_15 rfl rfl (mulT_calls hF (G i) (G i) (G_ne i) (G_ne i)) ?_
  rintro v w1 ⟨rfl, hR, k⟩
  have zs_k := k.size
  replace hw := hw.chg k (by first | (intro x h1 h2; exact h2) | (intro x h0 h1 h2; exact hS x h1 h2) | (intro x h0 h1 h2; have h3 : _ = _ := h2; subst h3; exact hSR h1.1) | (intro x h1 h2; have h3 : _ = _ := h2; subst h3; assumption) | (intro x h1 h2; have h3 : _ = _ := h2; exfalso; omega) | (intro b h1 h2 h3; have h4 : _ = _ := h3; (try dsimp only at h2); exfalso; omega) | (intro h1; have h2 : _ = _ := h1; exfalso; omega) | (intro h1; have h2 : _ ≤ _ := h1; exfalso; omega) | (intros; exfalso; (try dsimp only at *); omega) | (intro b h1 h2 h3; exfalso; have h4 := h3.2; (try dsimp only at *); omega) | (intro h1; exfalso; have h4 := h1.2; (try dsimp only at *); omega) | (intro x h1 h2; exfalso; have h4 := h2.2; (try dsimp only at *); omega) | (intro x h1 h2; exact ⟨_, rfl, h2⟩) | (intro x h1 h2; have h4 := h2.1; have h5 := h2.2; exfalso; omega) | (intro x h1 h2; exact h2.1) | (intro x h1 h2; rcases h2.1 with h3 | h3; exact h3; exfalso; omega) | (intro x h1 h2; rcases h2 with h3 | h3; exact h3; exfalso; omega))
  replace hb_1 := hb_1.chg k (by first | (intro x h1 h2; exact h2) | (intro x h0 h1 h2; exact hS x h1 h2) | (intro x h0 h1 h2; have h3 : _ = _ := h2; subst h3; exact hSR h1.1) | (intro x h1 h2; have h3 : _ = _ := h2; subst h3; assumption) | (intro x h1 h2; have h3 : _ = _ := h2; exfalso; omega) | (intro b h1 h2 h3; have h4 : _ = _ := h3; (try dsimp only at h2); exfalso; omega) | (intro h1; have h2 : _ = _ := h1; exfalso; omega) | (intro h1; have h2 : _ ≤ _ := h1; exfalso; omega) | (intros; exfalso; (try dsimp only at *); omega) | (intro b h1 h2 h3; exfalso; have h4 := h3.2; (try dsimp only at *); omega) | (intro h1; exfalso; have h4 := h1.2; (try dsimp only at *); omega) | (intro x h1 h2; exfalso; have h4 := h2.2; (try dsimp only at *); omega) | (intro x h1 h2; exact ⟨_, rfl, h2⟩) | (intro x h1 h2; have h4 := h2.1; have h5 := h2.2; exfalso; omega) | (intro x h1 h2; exact h2.1) | (intro x h1 h2; rcases h2.1 with h3 | h3; exact h3; exfalso; omega) | (intro x h1 h2; rcases h2 with h3 | h3; exact h3; exfalso; omega))
  refine WL.bld rfl (bld_84_0_1_2 _ _ _) rfl (?_)
  refine WL.stores Try.sizeOf84 hb_1 rfl rfl (by first | (simp; done) | (simp; omega) | rfl) (by first | exact Enc.one _ _ | (intro u hu; obtain ⟨x, _, rfl⟩ := List.mem_map.1 hu; rfl) | (simp [Value.oneCell']; done) | (simp [Value.oneCell', Value.cells]; done)) (by first | (simp; done) | (simp; omega) | (simp [Value.cells]; done) | (simp [Value.cells]; omega) | exact Nat.le_of_ble_eq_true rfl) rfl ?_
  intro w_2 hs_2 hn_2 k_2
  have zs_k_2 := k_2.size
  replace hw := hw.chg k_2 (by first | (intro x h1 h2; exact h2) | (intro x h0 h1 h2; exact hS x h1 h2) | (intro x h0 h1 h2; have h3 : _ = _ := h2; subst h3; exact hSR h1.1) | (intro x h1 h2; have h3 : _ = _ := h2; subst h3; assumption) | (intro x h1 h2; have h3 : _ = _ := h2; exfalso; omega) | (intro b h1 h2 h3; have h4 : _ = _ := h3; (try dsimp only at h2); exfalso; omega) | (intro h1; have h2 : _ = _ := h1; exfalso; omega) | (intro h1; have h2 : _ ≤ _ := h1; exfalso; omega) | (intros; exfalso; (try dsimp only at *); omega) | (intro b h1 h2 h3; exfalso; have h4 := h3.2; (try dsimp only at *); omega) | (intro h1; exfalso; have h4 := h1.2; (try dsimp only at *); omega) | (intro x h1 h2; exfalso; have h4 := h2.2; (try dsimp only at *); omega) | (intro x h1 h2; exact ⟨_, rfl, h2⟩) | (intro x h1 h2; have h4 := h2.1; have h5 := h2.2; exfalso; omega) | (intro x h1 h2; exact h2.1) | (intro x h1 h2; rcases h2.1 with h3 | h3; exact h3; exfalso; omega) | (intro x h1 h2; rcases h2 with h3 | h3; exact h3; exfalso; omega))
  replace hR := hR.chg k_2 (by first | (intro x h1 h2; exact h2) | (intro x h0 h1 h2; exact hS x h1 h2) | (intro x h0 h1 h2; have h3 : _ = _ := h2; subst h3; exact hSR h1.1) | (intro x h1 h2; have h3 : _ = _ := h2; subst h3; assumption) | (intro x h1 h2; have h3 : _ = _ := h2; exfalso; omega) | (intro b h1 h2 h3; have h4 : _ = _ := h3; (try dsimp only at h2); exfalso; omega) | (intro h1; have h2 : _ = _ := h1; exfalso; omega) | (intro h1; have h2 : _ ≤ _ := h1; exfalso; omega) | (intros; exfalso; (try dsimp only at *); omega) | (intro b h1 h2 h3; exfalso; have h4 := h3.2; (try dsimp only at *); omega) | (intro h1; exfalso; have h4 := h1.2; (try dsimp only at *); omega) | (intro x h1 h2; exfalso; have h4 := h2.2; (try dsimp only at *); omega) | (intro x h1 h2; exact ⟨_, rfl, h2⟩) | (intro x h1 h2; have h4 := h2.1; have h5 := h2.2; exfalso; omega) | (intro x h1 h2; exact h2.1) | (intro x h1 h2; rcases h2.1 with h3 | h3; exact h3; exfalso; omega) | (intro x h1 h2; rcases h2 with h3 | h3; exact h3; exfalso; omega))
  replace hb_1 := hn_2
  refine WL.nil (WX.then_normal (WC.ret (?_)))
  refine WX.ret1c (.inl rfl) Try.results50 Try.isAgg84 Try.sizeOf84 hb_1 rfl (by first | (simp; done) | (simp; omega) | rfl) ?_
  exact ⟨_, rfl, rfl, hR, hw⟩
end Go.Proofs.Ytjdbjdgobhjbkaa
namespace Go.Proofs.Ytjdbjdgobhjbkaa
open Go.RowKit Go.HL

theorem wt_at {i r : Nat} (h : r < 3) : [wtq 0 i, wtq 1 i, wtq 2 i][r]? = some (wtq r i) := by
  have h3 : r = 0 ∨ r = 1 ∨ r = 2 := by omega
  rcases h3 with rfl | rfl | rfl <;> rfl
set_option maxHeartbeats 4000000 in
theorem add_calls {w : World} {gf go n : Nat} {gs : List Nat} {ys : List (List UInt8)} {ac : Option Addr} {cc : Nat} {col : List UInt8} (hF : Fld w gf) (hO : OR w 23 5 go 3 gs n ys []) (hg3 : gs.length = 3) (hys : ∀ y ∈ ys, y.length = n) (hr : RSl (fun b => b < gf) w eb ac cc col) (hcl : col.length = n) (hgg : gf < go) (i : Nat) (hn : n ≤ 4096) :
    Calls Try.prog 51 [.pointer (some ⟨gf, 0, none⟩), .slice (some ⟨go, 0, none⟩) 3 3, vi i, .slice ac col.length cc].toArray w (Ret fun v w' => v = .tuple #[] ∧ Blk w' gf 65 FR ∧ OR w' 23 5 go 3 gs n (updR ys col i 3) [] ∧ Chg (fun x => gf ≤ x) w w') := by
  have hw := Chg.refl (fun x => gf ≤ x) w
  have hy3 : ys.length = 3 := by rw [← hO.len, hg3]
  have lgf := hF.lt
  have lgo := hO.lto
  have lgs : ∀ (j g : Nat), gs[j]? = some g → g < w.heap.size := fun j g h => hO.lt h
  refine Calls.of_WC Try.func51 rfl Try.ntmps51 (by simp) ?_
  refine WC.seq (WC.region (WL.move rfl rfl (WL.move rfl rfl (?_))))
  refine WL.call eg_50 rfl rfl (weights_calls hF i) ?_
  rintro v w1 ⟨rfl, hR, k⟩
  have zs_k := k.size
  replace hr := hr.chg k (by first | (intro x h1 h2; exact h2) | (intro x h0 h1 h2; exact hS x h1 h2) | (intro x h0 h1 h2; have h3 : _ = _ := h2; subst h3; exact hSR h1.1) | (intro x h1 h2; have h3 : _ = _ := h2; subst h3; assumption) | (intro x h1 h2; have h3 : _ = _ := h2; exfalso; omega) | (intro b h1 h2 h3; have h4 : _ = _ := h3; (try dsimp only at h2); exfalso; omega) | (intro h1; have h2 : _ = _ := h1; exfalso; omega) | (intro h1; have h2 : _ ≤ _ := h1; exfalso; omega) | (intros; exfalso; (try dsimp only at *); omega) | (intro b h1 h2 h3; exfalso; have h4 := h3.2; (try dsimp only at *); omega) | (intro h1; exfalso; have h4 := h1.2; (try dsimp only at *); omega) | (intro x h1 h2; exfalso; have h4 := h2.2; (try dsimp only at *); omega) | (intro x h1 h2; exact ⟨_, rfl, h2⟩) | (intro x h1 h2; have h4 := h2.1; have h5 := h2.2; exfalso; omega) | (intro x h1 h2; exact h2.1) | (intro x h1 h2; rcases h2.1 with h3 | h3; exact h3; exfalso; omega) | (intro x h1 h2; rcases h2 with h3 | h3; exact h3; exfalso; omega))
  replace hO := hO.chg k ⟨by omega, fun j g hg => by have := hO.above j g hg; omega⟩
  replace hw := hw.chg k (fun x _ h => by omega)
  refine WL.alloc Try.zeroValue84 rfl ?_
  intro g_1 w_1 hge_1 hlt_1 hb_1 k_1
  have zs_k_1 := k_1.size
  replace hr := hr.pure k_1
  replace hR := hR.pure k_1
  replace hw := hw.pure k_1
  refine WL.stores Try.sizeOf84 hb_1 rfl rfl (by first | (simp; done) | (simp; omega) | rfl) (by first | exact Enc.one _ _ | (intro u hu; obtain ⟨x, _, rfl⟩ := List.mem_map.1 hu; rfl) | (simp [Value.oneCell']; done) | (simp [Value.oneCell', Value.cells]; done)) (by first | (simp; done) | (simp; omega) | (simp [Value.cells]; done) | (simp [Value.cells]; omega) | exact Nat.le_of_ble_eq_true rfl) rfl ?_
  intro w_2 hs_2 hn_2 k_2
  have zs_k_2 := k_2.size
  replace hr := hr.chg k_2 (by first | (intro x h1 h2; exact h2) | (intro x h0 h1 h2; exact hS x h1 h2) | (intro x h0 h1 h2; have h3 : _ = _ := h2; subst h3; exact hSR h1.1) | (intro x h1 h2; have h3 : _ = _ := h2; subst h3; assumption) | (intro x h1 h2; have h3 : _ = _ := h2; exfalso; omega) | (intro b h1 h2 h3; have h4 : _ = _ := h3; (try dsimp only at h2); exfalso; omega) | (intro h1; have h2 : _ = _ := h1; exfalso; omega) | (intro h1; have h2 : _ ≤ _ := h1; exfalso; omega) | (intros; exfalso; (try dsimp only at *); omega) | (intro b h1 h2 h3; exfalso; have h4 := h3.2; (try dsimp only at *); omega) | (intro h1; exfalso; have h4 := h1.2; (try dsimp only at *); omega) | (intro x h1 h2; exfalso; have h4 := h2.2; (try dsimp only at *); omega) | (intro x h1 h2; exact ⟨_, rfl, h2⟩) | (intro x h1 h2; have h4 := h2.1; have h5 := h2.2; exfalso; omega) | (intro x h1 h2; exact h2.1) | (intro x h1 h2; rcases h2.1 with h3 | h3; exact h3; exfalso; omega) | (intro x h1 h2; rcases h2 with h3 | h3; exact h3; exfalso; omega))
  replace hR := hR.chg k_2 (by first | (intro x h1 h2; exact h2) | (intro x h0 h1 h2; exact hS x h1 h2) | (intro x h0 h1 h2; have h3 : _ = _ := h2; subst h3; exact hSR h1.1) | (intro x h1 h2; have h3 : _ = _ := h2; subst h3; assumption) | (intro x h1 h2; have h3 : _ = _ := h2; exfalso; omega) | (intro b h1 h2 h3; have h4 : _ = _ := h3; (try dsimp only at h2); exfalso; omega) | (intro h1; have h2 : _ = _ := h1; exfalso; omega) | (intro h1; have h2 : _ ≤ _ := h1; exfalso; omega) | (intros; exfalso; (try dsimp only at *); omega) | (intro b h1 h2 h3; exfalso; have h4 := h3.2; (try dsimp only at *); omega) | (intro h1; exfalso; have h4 := h1.2; (try dsimp only at *); omega) | (intro x h1 h2; exfalso; have h4 := h2.2; (try dsimp only at *); omega) | (intro x h1 h2; exact ⟨_, rfl, h2⟩) | (intro x h1 h2; have h4 := h2.1; have h5 := h2.2; exfalso; omega) | (intro x h1 h2; exact h2.1) | (intro x h1 h2; rcases h2.1 with h3 | h3; exact h3; exfalso; omega) | (intro x h1 h2; rcases h2 with h3 | h3; exact h3; exfalso; omega))
  replace hw := hw.chg k_2 (by first | (intro x h1 h2; exact h2) | (intro x h0 h1 h2; exact hS x h1 h2) | (intro x h0 h1 h2; have h3 : _ = _ := h2; subst h3; exact hSR h1.1) | (intro x h1 h2; have h3 : _ = _ := h2; subst h3; assumption) | (intro x h1 h2; have h3 : _ = _ := h2; exfalso; omega) | (intro b h1 h2 h3; have h4 : _ = _ := h3; (try dsimp only at h2); exfalso; omega) | (intro h1; have h2 : _ = _ := h1; exfalso; omega) | (intro h1; have h2 : _ ≤ _ := h1; exfalso; omega) | (intros; exfalso; (try dsimp only at *); omega) | (intro b h1 h2 h3; exfalso; have h4 := h3.2; (try dsimp only at *); omega) | (intro h1; exfalso; have h4 := h1.2; (try dsimp only at *); omega) | (intro x h1 h2; exfalso; have h4 := h2.2; (try dsimp only at *); omega) | (intro x h1 h2; exact ⟨_, rfl, h2⟩) | (intro x h1 h2; have h4 := h2.1; have h5 := h2.2; exfalso; omega) | (intro x h1 h2; exact h2.1) | (intro x h1 h2; rcases h2.1 with h3 | h3; exact h3; exfalso; omega) | (intro x h1 h2; rcases h2 with h3 | h3; exact h3; exfalso; omega))
  replace hb_1 := hn_2
  refine WL.nil (WX.then_normal (WC.seq (WC.region (WL.move rfl rfl (WL.len Try.underlying22 rfl rfl (WL.move rfl rfl (WL.nil (?_))))))))
  refine WX.then_normal (WC.block (?_))
  replace hO := (hO.pure k_1).chg k_2 ⟨by omega, fun j g hg => by have := lgs j g hg; omega⟩
  have hst : Chg (fun x => gf ≤ x) w _ := hw
  replace hb_1 : Blk _ g_1 84 ([wtq 0 i, wtq 1 i, wtq 2 i].map v8) := hb_1
  refine WC.loop (σ := Nat) (fun r => [(0, .pointer (some ⟨gf, 0, none⟩)), (3, .slice ac col.length cc), (8, .pointer (some ⟨g_1, 0, none⟩)), (16, .slice (some ⟨go, 0, none⟩) 3 3), (17, vi 3), (18, vi r)])
    (fun r w' => r ≤ 3 ∧ Blk w' gf 65 FR ∧ Blk w' g_1 84 ([wtq 0 i, wtq 1 i, wtq 2 i].map v8) ∧ OR w' 23 5 go 3 gs n (updR ys col i r) [] ∧ (∀ (j g : Nat), gs[j]? = some g → g < g_1) ∧ RSl (fun b => b < gf) w' eb ac cc col ∧ Chg (fun x => gf ≤ x) w w') (fun r => 3 - r) 0 ⟨rfl, rfl, rfl, rfl, rfl, rfl, trivial⟩ ⟨Nat.zero_le _, hR, hb_1, hO, ?_, hr, hw⟩ ?_
  ·
    clear hR hb_1 hr hw hst
    intro j g hg
    have := lgs j g hg
    omega
  clear hR hb_1 hO hr hw hst
  rintro r w8 ⟨hr3, hR, hb1, hO, hlt, hr, hw⟩
  refine WC.seq (WC.region (?_))
  refine WL.lss? rfl rfl rfl (fun h19 => ?_) (fun h19 => ?_)
  ·
    refine WL.nil (WX.then_normal (WC.seq (WC.cond_true rfl (WC.skip (WX.then_normal (WC.seq (WC.block (?_))))))))
    refine WC.seq (WC.region (WL.move rfl rfl (?_)))
    obtain ⟨g, hgr⟩ : ∃ g, gs[r]? = some g := ⟨_, List.getElem?_eq_getElem (by omega)⟩
    obtain ⟨x, hx0⟩ : ∃ x, ys[r]? = some x := ⟨_, List.getElem?_eq_getElem (by omega)⟩
    have hxr : (updR ys col i r)[r]? = some x := by rw [updR_at ys col i r r (Nat.le_refl _)]; exact hx0
    have hxl : x.length = n := hys x (List.mem_of_getElem? hx0)
    have hgo := hO.above r g hgr
    have hg1 := hlt r g hgr
    refine WL.index (sz := 1) Try.underlying22 Try.sizeOf23 rfl rfl rfl (by omega) rfl ?_
    refine WL.load Try.isAgg23 rfl ((hO.outer.rsl.cellsAt (orows_at hgr hxr)) 0 _ rfl) rfl ?_
    refine WL.assign rfl rfl (WL.assign rfl rfl (WL.nil (WX.then_normal (WC.seq (WC.region (WL.move rfl rfl (WL.len Try.underlying23 rfl rfl (?_))))))))
    refine WL.move rfl rfl (WL.nil (WX.then_normal (WC.block (?_))))
    have hp : Row (fun b => b = g) w8 5 eb (some ⟨g, 0, none⟩) n x := hO.inner r g x hgr hxr
    have hk := Chg.refl (fun b => b = g) w8
    refine WC.loop (σ := Nat) (fun k => [(0, .pointer (some ⟨gf, 0, none⟩)), (3, .slice ac col.length cc), (8, .pointer (some ⟨g_1, 0, none⟩)), (9, vi r), (10, .slice (some ⟨g, 0, none⟩) x.length n), (16, .slice (some ⟨go, 0, none⟩) 3 3), (17, vi 3), (18, vi r), (23, .slice ac col.length cc), (24, vi col.length), (25, vi k)])
      (fun k w' => k ≤ n ∧ Row (fun b => b = g) w' 5 eb (some ⟨g, 0, none⟩) n (addTo' x col (wtq r i) k) ∧ Blk w' gf 65 FR ∧ Blk w' g_1 84 ([wtq 0 i, wtq 1 i, wtq 2 i].map v8) ∧ RSl (fun b => b < gf) w' eb ac cc col ∧ Chg (fun b => b = g) w8 w') (fun k => n - k) 0 ⟨rfl, rfl, rfl, rfl, rfl, rfl, rfl, rfl, rfl, rfl, rfl, trivial⟩ ⟨Nat.zero_le _, by simpa [addTo'] using hp, hR, hb1, hr, hk⟩ ?_
    clear hR hb1 hr hk hp
    rintro k w9 ⟨hkn, hp, hR, hb1, hr, hk⟩
    have hal : (addTo' x col (wtq r i) k).length = n := by rw [addTo'_len (by omega) (by omega)]; exact hxl
    refine WC.seq (WC.region (?_))
    refine WL.lss? rfl rfl rfl (fun h26 => ?_) (fun h26 => ?_)
    ·
      refine WL.nil (WX.then_normal (WC.seq (WC.cond_true rfl (WC.skip (WX.then_normal (WC.seq (WC.block (?_))))))))
      refine WC.seq (WC.region (WL.move rfl rfl (?_)))
      obtain ⟨p, c0, hp0, hc0, fp, fset⟩ := addTo'_at (acc := x) (col := col) (m := wtq r i) (k := k) (by omega) (by omega)
      refine WL.indexT Try.underlying23 Try.sizeOf5 hr rfl rfl ⟨hc0, rfl⟩ rfl ?_
      intro b_3 o_3 hc_3
      refine WL.load Try.isAgg5 rfl (hc_3 0 _ rfl) rfl (WL.assign rfl rfl (WL.assign rfl rfl (WL.nil (WX.then_normal (?_)))))
      have fw := wt_at (i := i) (r := r) (by omega)
      refine WC.draw (fun b => b = g) [0, 1, 2, 4, 5, 6, 7, 8, 9, 11] [3, 10, 12] mixed rfl rfl (fun wd_4 kd_4 zd_4 => ?_)
      have zs_kd_4 := kd_4.size
      replace hp := hp.pure kd_4
      replace hR := hR.pure kd_4
      replace hb1 := hb1.pure kd_4
      replace hr := hr.pure kd_4
      replace hk := hk.pure kd_4
      apply DQ.step (E' := [(10, _)])
      case ho => rfl
      case hs => exact ⟨rfl, trivial⟩
      case hk => rfl
      case h1 =>
        intro wq_6 kq_6
        refine WL.move rfl rfl (?_)
        refine WL.nil ?_
        exact WX.one ⟨rfl, by first | exact Chg.refl _ _ | assumption⟩
      apply DQ.step (E' := [(11, _)])
      case ho => rfl
      case hs => exact ⟨rfl, trivial⟩
      case hk => rfl
      case h1 =>
        intro wq_7 kq_7
        refine WL.move rfl rfl (?_)
        refine WL.nil ?_
        exact WX.one ⟨rfl, by first | exact Chg.refl _ _ | assumption⟩
      apply DQ.step (E' := [(30, _), (31, _)])
      case ho => rfl
      case hs => exact ⟨rfl, rfl, trivial⟩
      case hk => rfl
      case h1 =>
        intro wq_8 kq_8
        have zs_kq_8 := kq_8.size
        replace hR := hR.chg kq_8 (by first | (intro x h1 h2; exact h2) | (intro x h0 h1 h2; exact hS x h1 h2) | (intro x h0 h1 h2; have h3 : _ = _ := h2; subst h3; exact hSR h1.1) | (intro x h1 h2; have h3 : _ = _ := h2; subst h3; assumption) | (intro x h1 h2; have h3 : _ = _ := h2; exfalso; omega) | (intro b h1 h2 h3; have h4 : _ = _ := h3; (try dsimp only at h2); exfalso; omega) | (intro h1; have h2 : _ = _ := h1; exfalso; omega) | (intro h1; have h2 : _ ≤ _ := h1; exfalso; omega) | (intros; exfalso; (try dsimp only at *); omega) | (intro b h1 h2 h3; exfalso; have h4 := h3.2; (try dsimp only at *); omega) | (intro h1; exfalso; have h4 := h1.2; (try dsimp only at *); omega) | (intro x h1 h2; exfalso; have h4 := h2.2; (try dsimp only at *); omega) | (intro x h1 h2; exact ⟨_, rfl, h2⟩) | (intro x h1 h2; have h4 := h2.1; have h5 := h2.2; exfalso; omega) | (intro x h1 h2; exact h2.1) | (intro x h1 h2; rcases h2.1 with h3 | h3; exact h3; exfalso; omega) | (intro x h1 h2; rcases h2 with h3 | h3; exact h3; exfalso; omega))
        replace hb1 := hb1.chg kq_8 (by first | (intro x h1 h2; exact h2) | (intro x h0 h1 h2; exact hS x h1 h2) | (intro x h0 h1 h2; have h3 : _ = _ := h2; subst h3; exact hSR h1.1) | (intro x h1 h2; have h3 : _ = _ := h2; subst h3; assumption) | (intro x h1 h2; have h3 : _ = _ := h2; exfalso; omega) | (intro b h1 h2 h3; have h4 : _ = _ := h3; (try dsimp only at h2); exfalso; omega) | (intro h1; have h2 : _ = _ := h1; exfalso; omega) | (intro h1; have h2 : _ ≤ _ := h1; exfalso; omega) | (intros; exfalso; (try dsimp only at *); omega) | (intro b h1 h2 h3; exfalso; have h4 := h3.2; (try dsimp only at *); omega) | (intro h1; exfalso; have h4 := h1.2; (try dsimp only at *); omega) | (intro x h1 h2; exfalso; have h4 := h2.2; (try dsimp only at *); omega) | (intro x h1 h2; exact ⟨_, rfl, h2⟩) | (intro x h1 h2; have h4 := h2.1; have h5 := h2.2; exfalso; omega) | (intro x h1 h2; exact h2.1) | (intro x h1 h2; rcases h2.1 with h3 | h3; exact h3; exfalso; omega) | (intro x h1 h2; rcases h2 with h3 | h3; exact h3; exfalso; omega))
        replace hr := hr.chg kq_8 (by first | (intro x h1 h2; exact h2) | (intro x h0 h1 h2; exact hS x h1 h2) | (intro x h0 h1 h2; have h3 : _ = _ := h2; subst h3; exact hSR h1.1) | (intro x h1 h2; have h3 : _ = _ := h2; subst h3; assumption) | (intro x h1 h2; have h3 : _ = _ := h2; exfalso; omega) | (intro b h1 h2 h3; have h4 : _ = _ := h3; (try dsimp only at h2); exfalso; omega) | (intro h1; have h2 : _ = _ := h1; exfalso; omega) | (intro h1; have h2 : _ ≤ _ := h1; exfalso; omega) | (intros; exfalso; (try dsimp only at *); omega) | (intro b h1 h2 h3; exfalso; have h4 := h3.2; (try dsimp only at *); omega) | (intro h1; exfalso; have h4 := h1.2; (try dsimp only at *); omega) | (intro x h1 h2; exfalso; have h4 := h2.2; (try dsimp only at *); omega) | (intro x h1 h2; exact ⟨_, rfl, h2⟩) | (intro x h1 h2; have h4 := h2.1; have h5 := h2.2; exfalso; omega) | (intro x h1 h2; exact h2.1) | (intro x h1 h2; rcases h2.1 with h3 | h3; exact h3; exfalso; omega) | (intro x h1 h2; rcases h2 with h3 | h3; exact h3; exfalso; omega))
        refine WL.index (sz := 1) Try.underlying23 Try.sizeOf5 rfl rfl rfl (by omega) rfl ?_
        refine WL.nil ?_
        exact WX.one ⟨rfl, by first | exact Chg.refl _ _ | assumption⟩
      apply DQ.step (E' := [(0, _)])
      case ho => rfl
      case hs => exact ⟨rfl, trivial⟩
      case hk => rfl
      case h1 =>
        intro wq_9 kq_9
        refine WL.move rfl rfl (?_)
        refine WL.nil ?_
        exact WX.one ⟨rfl, by first | exact Chg.refl _ _ | assumption⟩
      apply DQ.step (E' := [(9, _)])
      case ho => rfl
      case hs => exact ⟨rfl, trivial⟩
      case hk => rfl
      case h1 =>
        intro wq_10 kq_10
        refine WL.move rfl rfl (?_)
        refine WL.nil ?_
        exact WX.one ⟨rfl, by first | exact Chg.refl _ _ | assumption⟩
      apply DQ.step (E' := [(8, _), (35, _)])
      case ho => rfl
      case hs => exact ⟨rfl, rfl, trivial⟩
      case hk => rfl
      case h1 =>
        intro wq_11 kq_11
        have zs_kq_11 := kq_11.size
        replace hR := hR.chg kq_11 (by first | (intro x h1 h2; exact h2) | (intro x h0 h1 h2; exact hS x h1 h2) | (intro x h0 h1 h2; have h3 : _ = _ := h2; subst h3; exact hSR h1.1) | (intro x h1 h2; have h3 : _ = _ := h2; subst h3; assumption) | (intro x h1 h2; have h3 : _ = _ := h2; exfalso; omega) | (intro b h1 h2 h3; have h4 : _ = _ := h3; (try dsimp only at h2); exfalso; omega) | (intro h1; have h2 : _ = _ := h1; exfalso; omega) | (intro h1; have h2 : _ ≤ _ := h1; exfalso; omega) | (intros; exfalso; (try dsimp only at *); omega) | (intro b h1 h2 h3; exfalso; have h4 := h3.2; (try dsimp only at *); omega) | (intro h1; exfalso; have h4 := h1.2; (try dsimp only at *); omega) | (intro x h1 h2; exfalso; have h4 := h2.2; (try dsimp only at *); omega) | (intro x h1 h2; exact ⟨_, rfl, h2⟩) | (intro x h1 h2; have h4 := h2.1; have h5 := h2.2; exfalso; omega) | (intro x h1 h2; exact h2.1) | (intro x h1 h2; rcases h2.1 with h3 | h3; exact h3; exfalso; omega) | (intro x h1 h2; rcases h2 with h3 | h3; exact h3; exfalso; omega))
        replace hb1 := hb1.chg kq_11 (by first | (intro x h1 h2; exact h2) | (intro x h0 h1 h2; exact hS x h1 h2) | (intro x h0 h1 h2; have h3 : _ = _ := h2; subst h3; exact hSR h1.1) | (intro x h1 h2; have h3 : _ = _ := h2; subst h3; assumption) | (intro x h1 h2; have h3 : _ = _ := h2; exfalso; omega) | (intro b h1 h2 h3; have h4 : _ = _ := h3; (try dsimp only at h2); exfalso; omega) | (intro h1; have h2 : _ = _ := h1; exfalso; omega) | (intro h1; have h2 : _ ≤ _ := h1; exfalso; omega) | (intros; exfalso; (try dsimp only at *); omega) | (intro b h1 h2 h3; exfalso; have h4 := h3.2; (try dsimp only at *); omega) | (intro h1; exfalso; have h4 := h1.2; (try dsimp only at *); omega) | (intro x h1 h2; exfalso; have h4 := h2.2; (try dsimp only at *); omega) | (intro x h1 h2; exact ⟨_, rfl, h2⟩) | (intro x h1 h2; have h4 := h2.1; have h5 := h2.2; exfalso; omega) | (intro x h1 h2; exact h2.1) | (intro x h1 h2; rcases h2.1 with h3 | h3; exact h3; exfalso; omega) | (intro x h1 h2; rcases h2 with h3 | h3; exact h3; exfalso; omega))
        replace hr := hr.chg kq_11 (by first | (intro x h1 h2; exact h2) | (intro x h0 h1 h2; exact hS x h1 h2) | (intro x h0 h1 h2; have h3 : _ = _ := h2; subst h3; exact hSR h1.1) | (intro x h1 h2; have h3 : _ = _ := h2; subst h3; assumption) | (intro x h1 h2; have h3 : _ = _ := h2; exfalso; omega) | (intro b h1 h2 h3; have h4 : _ = _ := h3; (try dsimp only at h2); exfalso; omega) | (intro h1; have h2 : _ = _ := h1; exfalso; omega) | (intro h1; have h2 : _ ≤ _ := h1; exfalso; omega) | (intros; exfalso; (try dsimp only at *); omega) | (intro b h1 h2 h3; exfalso; have h4 := h3.2; (try dsimp only at *); omega) | (intro h1; exfalso; have h4 := h1.2; (try dsimp only at *); omega) | (intro x h1 h2; exfalso; have h4 := h2.2; (try dsimp only at *); omega) | (intro x h1 h2; exact ⟨_, rfl, h2⟩) | (intro x h1 h2; have h4 := h2.1; have h5 := h2.2; exfalso; omega) | (intro x h1 h2; exact h2.1) | (intro x h1 h2; rcases h2.1 with h3 | h3; exact h3; exfalso; omega) | (intro x h1 h2; rcases h2 with h3 | h3; exact h3; exfalso; omega))
        refine WL.indexArr (r) Try.underlying84 Try.sizeOf5 rfl rfl ⟨by omega, by omega⟩ rfl ?_
        refine WL.nil ?_
        exact WX.one ⟨rfl, by first | exact Chg.refl _ _ | assumption⟩
      apply DQ.step (E' := [(36, _)])
      case ho => rfl
      case hs => exact ⟨rfl, trivial⟩
      case hk => rfl
      case h1 =>
        intro wq_12 kq_12
        have zs_kq_12 := kq_12.size
        replace hR := hR.chg kq_12 (by first | (intro x h1 h2; exact h2) | (intro x h0 h1 h2; exact hS x h1 h2) | (intro x h0 h1 h2; have h3 : _ = _ := h2; subst h3; exact hSR h1.1) | (intro x h1 h2; have h3 : _ = _ := h2; subst h3; assumption) | (intro x h1 h2; have h3 : _ = _ := h2; exfalso; omega) | (intro b h1 h2 h3; have h4 : _ = _ := h3; (try dsimp only at h2); exfalso; omega) | (intro h1; have h2 : _ = _ := h1; exfalso; omega) | (intro h1; have h2 : _ ≤ _ := h1; exfalso; omega) | (intros; exfalso; (try dsimp only at *); omega) | (intro b h1 h2 h3; exfalso; have h4 := h3.2; (try dsimp only at *); omega) | (intro h1; exfalso; have h4 := h1.2; (try dsimp only at *); omega) | (intro x h1 h2; exfalso; have h4 := h2.2; (try dsimp only at *); omega) | (intro x h1 h2; exact ⟨_, rfl, h2⟩) | (intro x h1 h2; have h4 := h2.1; have h5 := h2.2; exfalso; omega) | (intro x h1 h2; exact h2.1) | (intro x h1 h2; rcases h2.1 with h3 | h3; exact h3; exfalso; omega) | (intro x h1 h2; rcases h2 with h3 | h3; exact h3; exfalso; omega))
        replace hb1 := hb1.chg kq_12 (by first | (intro x h1 h2; exact h2) | (intro x h0 h1 h2; exact hS x h1 h2) | (intro x h0 h1 h2; have h3 : _ = _ := h2; subst h3; exact hSR h1.1) | (intro x h1 h2; have h3 : _ = _ := h2; subst h3; assumption) | (intro x h1 h2; have h3 : _ = _ := h2; exfalso; omega) | (intro b h1 h2 h3; have h4 : _ = _ := h3; (try dsimp only at h2); exfalso; omega) | (intro h1; have h2 : _ = _ := h1; exfalso; omega) | (intro h1; have h2 : _ ≤ _ := h1; exfalso; omega) | (intros; exfalso; (try dsimp only at *); omega) | (intro b h1 h2 h3; exfalso; have h4 := h3.2; (try dsimp only at *); omega) | (intro h1; exfalso; have h4 := h1.2; (try dsimp only at *); omega) | (intro x h1 h2; exfalso; have h4 := h2.2; (try dsimp only at *); omega) | (intro x h1 h2; exact ⟨_, rfl, h2⟩) | (intro x h1 h2; have h4 := h2.1; have h5 := h2.2; exfalso; omega) | (intro x h1 h2; exact h2.1) | (intro x h1 h2; rcases h2.1 with h3 | h3; exact h3; exfalso; omega) | (intro x h1 h2; rcases h2 with h3 | h3; exact h3; exfalso; omega))
        replace hr := hr.chg kq_12 (by first | (intro x h1 h2; exact h2) | (intro x h0 h1 h2; exact hS x h1 h2) | (intro x h0 h1 h2; have h3 : _ = _ := h2; subst h3; exact hSR h1.1) | (intro x h1 h2; have h3 : _ = _ := h2; subst h3; assumption) | (intro x h1 h2; have h3 : _ = _ := h2; exfalso; omega) | (intro b h1 h2 h3; have h4 : _ = _ := h3; (try dsimp only at h2); exfalso; omega) | (intro h1; have h2 : _ = _ := h1; exfalso; omega) | (intro h1; have h2 : _ ≤ _ := h1; exfalso; omega) | (intros; exfalso; (try dsimp only at *); omega) | (intro b h1 h2 h3; exfalso; have h4 := h3.2; (try dsimp only at *); omega) | (intro h1; exfalso; have h4 := h1.2; (try dsimp only at *); omega) | (intro x h1 h2; exfalso; have h4 := h2.2; (try dsimp only at *); omega) | (intro x h1 h2; exact ⟨_, rfl, h2⟩) | (intro x h1 h2; have h4 := h2.1; have h5 := h2.2; exfalso; omega) | (intro x h1 h2; exact h2.1) | (intro x h1 h2; rcases h2.1 with h3 | h3; exact h3; exfalso; omega) | (intro x h1 h2; rcases h2 with h3 | h3; exact h3; exfalso; omega))
        refine WL.loadB Try.isAgg5 hb1 rfl (map_at _ fw) rfl (?_)
        refine WL.nil ?_
        exact WX.one ⟨rfl, by first | exact Chg.refl _ _ | assumption⟩
      apply DQ.step (E' := [(12, _)])
      case ho => rfl
      case hs => exact ⟨rfl, trivial⟩
      case hk => rfl
      case h1 =>
        intro wq_13 kq_13
        refine WL.move rfl rfl (?_)
        refine WL.nil ?_
        exact WX.one ⟨rfl, by first | exact Chg.refl _ _ | assumption⟩
      apply DQ.step (E' := [(34, _), (37, _), (38, _)])
      case ho => rfl
      case hs => exact ⟨rfl, rfl, rfl, trivial⟩
      case hk => rfl
      case h1 =>
        intro wq_14 kq_14
        have zs_kq_14 := kq_14.size
        replace hR := hR.chg kq_14 (by first | (intro x h1 h2; exact h2) | (intro x h0 h1 h2; exact hS x h1 h2) | (intro x h0 h1 h2; have h3 : _ = _ := h2; subst h3; exact hSR h1.1) | (intro x h1 h2; have h3 : _ = _ := h2; subst h3; assumption) | (intro x h1 h2; have h3 : _ = _ := h2; exfalso; omega) | (intro b h1 h2 h3; have h4 : _ = _ := h3; (try dsimp only at h2); exfalso; omega) | (intro h1; have h2 : _ = _ := h1; exfalso; omega) | (intro h1; have h2 : _ ≤ _ := h1; exfalso; omega) | (intros; exfalso; (try dsimp only at *); omega) | (intro b h1 h2 h3; exfalso; have h4 := h3.2; (try dsimp only at *); omega) | (intro h1; exfalso; have h4 := h1.2; (try dsimp only at *); omega) | (intro x h1 h2; exfalso; have h4 := h2.2; (try dsimp only at *); omega) | (intro x h1 h2; exact ⟨_, rfl, h2⟩) | (intro x h1 h2; have h4 := h2.1; have h5 := h2.2; exfalso; omega) | (intro x h1 h2; exact h2.1) | (intro x h1 h2; rcases h2.1 with h3 | h3; exact h3; exfalso; omega) | (intro x h1 h2; rcases h2 with h3 | h3; exact h3; exfalso; omega))
        replace hb1 := hb1.chg kq_14 (by first | (intro x h1 h2; exact h2) | (intro x h0 h1 h2; exact hS x h1 h2) | (intro x h0 h1 h2; have h3 : _ = _ := h2; subst h3; exact hSR h1.1) | (intro x h1 h2; have h3 : _ = _ := h2; subst h3; assumption) | (intro x h1 h2; have h3 : _ = _ := h2; exfalso; omega) | (intro b h1 h2 h3; have h4 : _ = _ := h3; (try dsimp only at h2); exfalso; omega) | (intro h1; have h2 : _ = _ := h1; exfalso; omega) | (intro h1; have h2 : _ ≤ _ := h1; exfalso; omega) | (intros; exfalso; (try dsimp only at *); omega) | (intro b h1 h2 h3; exfalso; have h4 := h3.2; (try dsimp only at *); omega) | (intro h1; exfalso; have h4 := h1.2; (try dsimp only at *); omega) | (intro x h1 h2; exfalso; have h4 := h2.2; (try dsimp only at *); omega) | (intro x h1 h2; exact ⟨_, rfl, h2⟩) | (intro x h1 h2; have h4 := h2.1; have h5 := h2.2; exfalso; omega) | (intro x h1 h2; exact h2.1) | (intro x h1 h2; rcases h2.1 with h3 | h3; exact h3; exfalso; omega) | (intro x h1 h2; rcases h2 with h3 | h3; exact h3; exfalso; omega))
        replace hr := hr.chg kq_14 (by first | (intro x h1 h2; exact h2) | (intro x h0 h1 h2; exact hS x h1 h2) | (intro x h0 h1 h2; have h3 : _ = _ := h2; subst h3; exact hSR h1.1) | (intro x h1 h2; have h3 : _ = _ := h2; subst h3; assumption) | (intro x h1 h2; have h3 : _ = _ := h2; exfalso; omega) | (intro b h1 h2 h3; have h4 : _ = _ := h3; (try dsimp only at h2); exfalso; omega) | (intro h1; have h2 : _ = _ := h1; exfalso; omega) | (intro h1; have h2 : _ ≤ _ := h1; exfalso; omega) | (intros; exfalso; (try dsimp only at *); omega) | (intro b h1 h2 h3; exfalso; have h4 := h3.2; (try dsimp only at *); omega) | (intro h1; exfalso; have h4 := h1.2; (try dsimp only at *); omega) | (intro x h1 h2; exfalso; have h4 := h2.2; (try dsimp only at *); omega) | (intro x h1 h2; exact ⟨_, rfl, h2⟩) | (intro x h1 h2; have h4 := h2.1; have h5 := h2.2; exfalso; omega) | (intro x h1 h2; exact h2.1) | (intro x h1 h2; rcases h2.1 with h3 | h3; exact h3; exfalso; omega) | (intro x h1 h2; rcases h2 with h3 | h3; exact h3; exfalso; omega))
        refine WL.call eg_15 rfl rfl (mulR_calls hR _ _) ?_
        rintro v w4 ⟨rfl, k4⟩
        have zs_k4 := k4.size
        replace hR := hR.pure k4
        replace hb1 := hb1.pure k4
        replace hr := hr.pure k4
        refine WL.nil ?_
        exact WX.one ⟨rfl, by first | exact Chg.refl _ _ | assumption⟩
      apply DQ.step (E' := [(30, _), (31, _)])
      case ho => rfl
      case hs => exact ⟨rfl, rfl, trivial⟩
      case hk => rfl
      case h1 =>
        intro wq_15 kq_15
        have zs_kq_15 := kq_15.size
        replace hR := hR.chg kq_15 (by first | (intro x h1 h2; exact h2) | (intro x h0 h1 h2; exact hS x h1 h2) | (intro x h0 h1 h2; have h3 : _ = _ := h2; subst h3; exact hSR h1.1) | (intro x h1 h2; have h3 : _ = _ := h2; subst h3; assumption) | (intro x h1 h2; have h3 : _ = _ := h2; exfalso; omega) | (intro b h1 h2 h3; have h4 : _ = _ := h3; (try dsimp only at h2); exfalso; omega) | (intro h1; have h2 : _ = _ := h1; exfalso; omega) | (intro h1; have h2 : _ ≤ _ := h1; exfalso; omega) | (intros; exfalso; (try dsimp only at *); omega) | (intro b h1 h2 h3; exfalso; have h4 := h3.2; (try dsimp only at *); omega) | (intro h1; exfalso; have h4 := h1.2; (try dsimp only at *); omega) | (intro x h1 h2; exfalso; have h4 := h2.2; (try dsimp only at *); omega) | (intro x h1 h2; exact ⟨_, rfl, h2⟩) | (intro x h1 h2; have h4 := h2.1; have h5 := h2.2; exfalso; omega) | (intro x h1 h2; exact h2.1) | (intro x h1 h2; rcases h2.1 with h3 | h3; exact h3; exfalso; omega) | (intro x h1 h2; rcases h2 with h3 | h3; exact h3; exfalso; omega))
        replace hb1 := hb1.chg kq_15 (by first | (intro x h1 h2; exact h2) | (intro x h0 h1 h2; exact hS x h1 h2) | (intro x h0 h1 h2; have h3 : _ = _ := h2; subst h3; exact hSR h1.1) | (intro x h1 h2; have h3 : _ = _ := h2; subst h3; assumption) | (intro x h1 h2; have h3 : _ = _ := h2; exfalso; omega) | (intro b h1 h2 h3; have h4 : _ = _ := h3; (try dsimp only at h2); exfalso; omega) | (intro h1; have h2 : _ = _ := h1; exfalso; omega) | (intro h1; have h2 : _ ≤ _ := h1; exfalso; omega) | (intros; exfalso; (try dsimp only at *); omega) | (intro b h1 h2 h3; exfalso; have h4 := h3.2; (try dsimp only at *); omega) | (intro h1; exfalso; have h4 := h1.2; (try dsimp only at *); omega) | (intro x h1 h2; exfalso; have h4 := h2.2; (try dsimp only at *); omega) | (intro x h1 h2; exact ⟨_, rfl, h2⟩) | (intro x h1 h2; have h4 := h2.1; have h5 := h2.2; exfalso; omega) | (intro x h1 h2; exact h2.1) | (intro x h1 h2; rcases h2.1 with h3 | h3; exact h3; exfalso; omega) | (intro x h1 h2; rcases h2 with h3 | h3; exact h3; exfalso; omega))
        replace hr := hr.chg kq_15 (by first | (intro x h1 h2; exact h2) | (intro x h0 h1 h2; exact hS x h1 h2) | (intro x h0 h1 h2; have h3 : _ = _ := h2; subst h3; exact hSR h1.1) | (intro x h1 h2; have h3 : _ = _ := h2; subst h3; assumption) | (intro x h1 h2; have h3 : _ = _ := h2; exfalso; omega) | (intro b h1 h2 h3; have h4 : _ = _ := h3; (try dsimp only at h2); exfalso; omega) | (intro h1; have h2 : _ = _ := h1; exfalso; omega) | (intro h1; have h2 : _ ≤ _ := h1; exfalso; omega) | (intros; exfalso; (try dsimp only at *); omega) | (intro b h1 h2 h3; exfalso; have h4 := h3.2; (try dsimp only at *); omega) | (intro h1; exfalso; have h4 := h1.2; (try dsimp only at *); omega) | (intro x h1 h2; exfalso; have h4 := h2.2; (try dsimp only at *); omega) | (intro x h1 h2; exact ⟨_, rfl, h2⟩) | (intro x h1 h2; have h4 := h2.1; have h5 := h2.2; exfalso; omega) | (intro x h1 h2; exact h2.1) | (intro x h1 h2; rcases h2.1 with h3 | h3; exact h3; exfalso; omega) | (intro x h1 h2; rcases h2 with h3 | h3; exact h3; exfalso; omega))
        refine WL.index (sz := 1) Try.underlying23 Try.sizeOf5 rfl rfl rfl (by omega) rfl ?_
        refine WL.nil ?_
        exact WX.one ⟨rfl, by first | exact Chg.refl _ _ | assumption⟩
      refine DQ.done (fun hd_5 => ?_)
      refine DL.step [(32, _)] rfl ⟨rfl, trivial⟩ rfl (fun wq_16 kq_16 => ?_)
      have zs_kq_16 := kq_16.size
      replace hp := hp.pure kq_16
      replace hR := hR.pure kq_16
      replace hb1 := hb1.pure kq_16
      replace hr := hr.pure kq_16
      replace hk := hk.pure kq_16
      replace hd_5 := hd_5.pure kq_16
      refine WL.load Try.isAgg5 rfl ((hp.rsl.cellsAt fp) 0 _ rfl) rfl ?_
      refine WL.nil ?_
      refine WX.one ⟨hd_5, ?_⟩
      refine DL.step [(33, _), (39, _)] rfl ⟨rfl, rfl, trivial⟩ rfl (fun wq_17 kq_17 => ?_)
      have zs_kq_17 := kq_17.size
      replace hp := hp.pure kq_17
      replace hR := hR.pure kq_17
      replace hb1 := hb1.pure kq_17
      replace hr := hr.pure kq_17
      replace hk := hk.pure kq_17
      replace hd_5 := hd_5.pure kq_17
      refine WL.num rfl rfl (n_xor8 _ _ _ _) rfl (?_)
      refine WL.nil ?_
      refine WX.one ⟨hd_5, ?_⟩
      refine DL.step [(41, _), (40, _)] rfl ⟨rfl, rfl, trivial⟩ rfl (fun wq_18 kq_18 => ?_)
      have zs_kq_18 := kq_18.size
      replace hp := hp.pure kq_18
      replace hR := hR.pure kq_18
      replace hb1 := hb1.pure kq_18
      replace hr := hr.pure kq_18
      replace hk := hk.pure kq_18
      replace hd_5 := hd_5.pure kq_18
      refine WL.storeRow (z := p ^^^ mul (wtq r i) c0) (k) Try.sizeOf5 hp rfl rfl rfl (by first | (simp; done) | (show 0 + _ * 1 = _; omega)) (by omega) rfl ?_
      intro w_19 zs_19 nr_19 k_19
      have zs_k_19 := k_19.size
      replace hR := hR.chg k_19 (by first | (intro x h1 h2; exact h2) | (intro x h0 h1 h2; exact hS x h1 h2) | (intro x h0 h1 h2; have h3 : _ = _ := h2; subst h3; exact hSR h1.1) | (intro x h1 h2; have h3 : _ = _ := h2; subst h3; assumption) | (intro x h1 h2; have h3 : _ = _ := h2; exfalso; omega) | (intro b h1 h2 h3; have h4 : _ = _ := h3; (try dsimp only at h2); exfalso; omega) | (intro h1; have h2 : _ = _ := h1; exfalso; omega) | (intro h1; have h2 : _ ≤ _ := h1; exfalso; omega) | (intros; exfalso; (try dsimp only at *); omega) | (intro b h1 h2 h3; exfalso; have h4 := h3.2; (try dsimp only at *); omega) | (intro h1; exfalso; have h4 := h1.2; (try dsimp only at *); omega) | (intro x h1 h2; exfalso; have h4 := h2.2; (try dsimp only at *); omega) | (intro x h1 h2; exact ⟨_, rfl, h2⟩) | (intro x h1 h2; have h4 := h2.1; have h5 := h2.2; exfalso; omega) | (intro x h1 h2; exact h2.1) | (intro x h1 h2; rcases h2.1 with h3 | h3; exact h3; exfalso; omega) | (intro x h1 h2; rcases h2 with h3 | h3; exact h3; exfalso; omega))
      replace hb1 := hb1.chg k_19 (by first | (intro x h1 h2; exact h2) | (intro x h0 h1 h2; exact hS x h1 h2) | (intro x h0 h1 h2; have h3 : _ = _ := h2; subst h3; exact hSR h1.1) | (intro x h1 h2; have h3 : _ = _ := h2; subst h3; assumption) | (intro x h1 h2; have h3 : _ = _ := h2; exfalso; omega) | (intro b h1 h2 h3; have h4 : _ = _ := h3; (try dsimp only at h2); exfalso; omega) | (intro h1; have h2 : _ = _ := h1; exfalso; omega) | (intro h1; have h2 : _ ≤ _ := h1; exfalso; omega) | (intros; exfalso; (try dsimp only at *); omega) | (intro b h1 h2 h3; exfalso; have h4 := h3.2; (try dsimp only at *); omega) | (intro h1; exfalso; have h4 := h1.2; (try dsimp only at *); omega) | (intro x h1 h2; exfalso; have h4 := h2.2; (try dsimp only at *); omega) | (intro x h1 h2; exact ⟨_, rfl, h2⟩) | (intro x h1 h2; have h4 := h2.1; have h5 := h2.2; exfalso; omega) | (intro x h1 h2; exact h2.1) | (intro x h1 h2; rcases h2.1 with h3 | h3; exact h3; exfalso; omega) | (intro x h1 h2; rcases h2 with h3 | h3; exact h3; exfalso; omega))
      replace hr := hr.chg k_19 (by first | (intro x h1 h2; exact h2) | (intro x h0 h1 h2; exact hS x h1 h2) | (intro x h0 h1 h2; have h3 : _ = _ := h2; subst h3; exact hSR h1.1) | (intro x h1 h2; have h3 : _ = _ := h2; subst h3; assumption) | (intro x h1 h2; have h3 : _ = _ := h2; exfalso; omega) | (intro b h1 h2 h3; have h4 : _ = _ := h3; (try dsimp only at h2); exfalso; omega) | (intro h1; have h2 : _ = _ := h1; exfalso; omega) | (intro h1; have h2 : _ ≤ _ := h1; exfalso; omega) | (intros; exfalso; (try dsimp only at *); omega) | (intro b h1 h2 h3; exfalso; have h4 := h3.2; (try dsimp only at *); omega) | (intro h1; exfalso; have h4 := h1.2; (try dsimp only at *); omega) | (intro x h1 h2; exfalso; have h4 := h2.2; (try dsimp only at *); omega) | (intro x h1 h2; exact ⟨_, rfl, h2⟩) | (intro x h1 h2; have h4 := h2.1; have h5 := h2.2; exfalso; omega) | (intro x h1 h2; exact h2.1) | (intro x h1 h2; rcases h2.1 with h3 | h3; exact h3; exfalso; omega) | (intro x h1 h2; rcases h2 with h3 | h3; exact h3; exfalso; omega))
      replace hk := hk.chg k_19 (by first | (intro x h1 h2; exact h2) | (intro x h0 h1 h2; exact hS x h1 h2) | (intro x h0 h1 h2; have h3 : _ = _ := h2; subst h3; exact hSR h1.1) | (intro x h1 h2; have h3 : _ = _ := h2; subst h3; assumption) | (intro x h1 h2; have h3 : _ = _ := h2; exfalso; omega) | (intro b h1 h2 h3; have h4 : _ = _ := h3; (try dsimp only at h2); exfalso; omega) | (intro h1; have h2 : _ = _ := h1; exfalso; omega) | (intro h1; have h2 : _ ≤ _ := h1; exfalso; omega) | (intros; exfalso; (try dsimp only at *); omega) | (intro b h1 h2 h3; exfalso; have h4 := h3.2; (try dsimp only at *); omega) | (intro h1; exfalso; have h4 := h1.2; (try dsimp only at *); omega) | (intro x h1 h2; exfalso; have h4 := h2.2; (try dsimp only at *); omega) | (intro x h1 h2; exact ⟨_, rfl, h2⟩) | (intro x h1 h2; have h4 := h2.1; have h5 := h2.2; exfalso; omega) | (intro x h1 h2; exact h2.1) | (intro x h1 h2; rcases h2.1 with h3 | h3; exact h3; exfalso; omega) | (intro x h1 h2; rcases h2 with h3 | h3; exact h3; exfalso; omega))
      replace hd_5 := hd_5.chg k_19 (by first | (intro x h1 h2; exact h2) | (intro x h0 h1 h2; exact hS x h1 h2) | (intro x h0 h1 h2; have h3 : _ = _ := h2; subst h3; exact hSR h1.1) | (intro x h1 h2; have h3 : _ = _ := h2; subst h3; assumption) | (intro x h1 h2; have h3 : _ = _ := h2; exfalso; omega) | (intro b h1 h2 h3; have h4 : _ = _ := h3; (try dsimp only at h2); exfalso; omega) | (intro h1; have h2 : _ = _ := h1; exfalso; omega) | (intro h1; have h2 : _ ≤ _ := h1; exfalso; omega) | (intros; exfalso; (try dsimp only at *); omega) | (intro b h1 h2 h3; exfalso; have h4 := h3.2; (try dsimp only at *); omega) | (intro h1; exfalso; have h4 := h1.2; (try dsimp only at *); omega) | (intro x h1 h2; exfalso; have h4 := h2.2; (try dsimp only at *); omega) | (intro x h1 h2; exact ⟨_, rfl, h2⟩) | (intro x h1 h2; have h4 := h2.1; have h5 := h2.2; exfalso; omega) | (intro x h1 h2; exact h2.1) | (intro x h1 h2; rcases h2.1 with h3 | h3; exact h3; exfalso; omega) | (intro x h1 h2; rcases h2 with h3 | h3; exact h3; exfalso; omega))
      replace hp := nr_19
      rw [fset] at hp
      refine WL.nil ?_
      refine WX.one0 (v := undef) ⟨hd_5, ?_⟩
      refine DL.done (fun we_20 ke_20 => ?_)
      have zs_ke_20 := ke_20.size
      replace hp := hp.pure ke_20
      replace hR := hR.pure ke_20
      replace hb1 := hb1.pure ke_20
      replace hr := hr.pure ke_20
      replace hk := hk.pure ke_20
      replace hd_5 := hd_5.pure ke_20
      refine WX.block_normal (WX.then_normal (WC.region (WL.add64 rfl rfl (by first | omega | (constructor <;> omega)) rfl (WL.move rfl rfl (WL.nil (?_))))))
      first
        | (refine WX.loop_next (k + 1) ⟨rfl, rfl, rfl, rfl, rfl, rfl, rfl, rfl, rfl, rfl, rfl, trivial⟩ ⟨by omega, hp, hR, hb1, hr, hk⟩ (by show _ - _ < _ - _; omega))
        | (have hkn2 : k = x.length := by omega
           subst hkn2
           rw [addTo'_end (by omega)] at hp
           have hO2 := hO.upd hgr hxr (addRow_len (by omega)) hk ⟨by omega, fun j g' hj hne e => hne (hO.apart j r g' hj (by rw [e]; exact hgr))⟩ hp
           have hw2 := hw.chg hk (fun x _ h => by have h3 : _ = _ := h; omega)
           refine WX.loop_next (r + 1) ⟨rfl, rfl, rfl, rfl, rfl, rfl, trivial⟩ ⟨by omega, hR, hb1, ?_, hlt, hr, hw2⟩ (by show _ - _ < _ - _; omega)
           rw [updR, show ys.getD r [] = x from by rw [List.getD_eq_getElem?_getD, hx0]; rfl]
           exact hO2)
    ·
      refine WL.nil (WX.then_normal (WC.seq (WC.cond_false rfl (WC.exit (WX.then_exit (WX.then_exit (WX.block_here (?_))))))))
      refine WX.block_normal (WX.then_normal (WC.region (WL.add64 rfl rfl (by first | omega | (constructor <;> omega)) rfl (WL.move rfl rfl (WL.nil (?_))))))
      first
        | (refine WX.loop_next (k + 1) ⟨rfl, rfl, rfl, rfl, rfl, rfl, rfl, rfl, rfl, rfl, rfl, trivial⟩ ⟨by omega, hp, hR, hb1, hr, hk⟩ (by show _ - _ < _ - _; omega))
        | (have hkn2 : k = x.length := by omega
           subst hkn2
           rw [addTo'_end (by omega)] at hp
           have hO2 := hO.upd hgr hxr (addRow_len (by omega)) hk ⟨by omega, fun j g' hj hne e => hne (hO.apart j r g' hj (by rw [e]; exact hgr))⟩ hp
           have hw2 := hw.chg hk (fun x _ h => by have h3 : _ = _ := h; omega)
           refine WX.loop_next (r + 1) ⟨rfl, rfl, rfl, rfl, rfl, rfl, trivial⟩ ⟨by omega, hR, hb1, ?_, hlt, hr, hw2⟩ (by show _ - _ < _ - _; omega)
           rw [updR, show ys.getD r [] = x from by rw [List.getD_eq_getElem?_getD, hx0]; rfl]
           exact hO2)
  ·
    refine WL.nil (WX.then_normal (WC.seq (WC.cond_false rfl (WC.exit (WX.then_exit (WX.then_exit (WX.block_here (?_))))))))
    refine WX.ret0 (.inr rfl) Try.results51 ?_
    have h3 : r = 3 := by omega
    subst h3
    exact ⟨_, rfl, rfl, hR, hO, hw⟩
end Go.Proofs.Ytjdbjdgobhjbkaa
