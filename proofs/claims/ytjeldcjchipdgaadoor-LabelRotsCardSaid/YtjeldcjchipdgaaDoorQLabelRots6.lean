import Derived.Test.YtjeldcjchipdgaaDoorQLabelRots5
namespace Go.Proofs.YtjeldcjchipdgaaDoor
open Go.RowKit Go.HL
set_option maxRecDepth 100000

/-! a count off the front -/
def ctd (k : Nat) : List UInt8 → Option (Nat × List UInt8)
  | [] => none
  | x :: r => if k = 10 ∨ (k = 9 ∧ 1 < x.toNat) ∨ (0 < k ∧ x.toNat = 0) then none else if x.toNat < 128 then some (x.toNat, r) else (ctd (k + 1) r).map fun p => (x.toNat % 128 + 128 * p.1, p.2)
theorem ctd_bound : ∀ (bs : List UInt8) (k : Nat) {c : Nat} {r : List UInt8}, k ≤ 10 → ctd k bs = some (c, r) → k ≤ 9 ∧ c < 2 ^ (64 - 7 * k) ∧ r.length < bs.length
  | [], k, c, r, _, h => by simp [ctd] at h
  | x :: bs, k, c, r, hk, h => by
    have hx := x.toNat_lt
    unfold ctd at h
    split at h
    · cases h
    · rename_i hn
      split at h
      · rename_i hl
        injection h with h
        injection h with h1 h2
        subst h1; subst h2
        refine ⟨by omega, ?_, by simp⟩
        have h9 : k = 9 ∨ k ≤ 8 := by omega
        rcases h9 with rfl | h9
        · have : x.toNat ≤ 1 := by omega
          omega
        · exact Nat.lt_of_lt_of_le hl (Nat.le_trans (by decide : 128 ≤ 2 ^ 8) (Nat.pow_le_pow_right (by decide) (by omega)))
      · rename_i hl
        obtain ⟨⟨c', r'⟩, h1, h2⟩ := Option.map_eq_some_iff.1 h
        injection h2 with h3 h4
        subst h3; subst h4
        obtain ⟨h5, h6, h7⟩ := ctd_bound bs (k + 1) (by omega) h1
        refine ⟨by omega, ?_, by simp; omega⟩
        have e : 2 ^ (64 - 7 * k) = 128 * 2 ^ (64 - 7 * (k + 1)) := by
          rw [show 64 - 7 * k = (64 - 7 * (k + 1)) + 7 from by omega, Nat.pow_add]
          omega
        rw [e]
        omega
theorem ctd_step {bs : List UInt8} {k : Nat} {x : UInt8} (hx : bs[k]? = some x) : ctd k (bs.drop k) = if k = 10 ∨ (k = 9 ∧ 1 < x.toNat) ∨ (0 < k ∧ x.toNat = 0) then none else if x.toNat < 128 then some (x.toNat, bs.drop (k + 1)) else (ctd (k + 1) (bs.drop (k + 1))).map fun p => (x.toNat % 128 + 128 * p.1, p.2) := by
  have hlt := (List.getElem?_eq_some_iff.1 hx).1
  have e : bs.drop k = x :: bs.drop (k + 1) := by
    rw [List.drop_eq_getElem_cons hlt]
    congr 1
    exact (List.getElem?_eq_some_iff.1 hx).2
  rw [e, ctd]
theorem and127 (x : UInt8) : (x &&& 127).toNat = x.toNat % 128 := by
  have h : ∀ y : Fin 256, (UInt8.ofNat y.1 &&& 127).toNat = (UInt8.ofNat y.1).toNat % 128 := by decide +kernel
  have := h ⟨x.toNat, x.toNat_lt⟩
  simpa using this
theorem or_part {c : UInt64} {x : UInt8} {k : Nat} (hk : k ≤ 9) (hc : c.toNat < 2 ^ (7 * k)) (h9 : k = 9 → x.toNat ≤ 1) : (c ||| ((x &&& 127).toUInt64 <<< UInt64.ofNat (7 * k))).toNat = c.toNat + x.toNat % 128 * 2 ^ (7 * k) ∧ c.toNat + x.toNat % 128 * 2 ^ (7 * k) < 2 ^ (7 * (k + 1)) := by
  have hx := x.toNat_lt
  have hb : x.toNat % 128 * 2 ^ (7 * k) < 2 ^ 64 := by
    have h : k = 9 ∨ k ≤ 8 := by omega
    rcases h with rfl | h
    · have := h9 rfl
      have h3 : x.toNat % 128 ≤ 1 := by omega
      exact Nat.lt_of_le_of_lt (Nat.mul_le_mul_right _ h3) (by decide)
    · have h1 : x.toNat % 128 ≤ 127 := by omega
      have h2 : 2 ^ (7 * k) ≤ 2 ^ 56 := Nat.pow_le_pow_right (by decide) (by omega)
      exact Nat.lt_of_le_of_lt (Nat.mul_le_mul h1 h2) (by decide)
  have h1 : ((x &&& 127).toUInt64 <<< UInt64.ofNat (7 * k)).toNat = x.toNat % 128 * 2 ^ (7 * k) := by
    rw [UInt64.toNat_shiftLeft]
    simp only [UInt64.toNat_ofNat', UInt8.toNat_toUInt64, and127]
    rw [show 7 * k % 2 ^ 64 % 64 = 7 * k from by omega, Nat.shiftLeft_eq, Nat.mod_eq_of_lt hb]
  constructor
  · rw [UInt64.toNat_or, h1, Nat.or_comm, ← Nat.shiftLeft_eq, ← Nat.shiftLeft_add_eq_or_of_lt hc]
    omega
  · rw [show 7 * (k + 1) = 7 * k + 7 from by omega, Nat.pow_add]
    have : x.toNat % 128 ≤ 127 := by omega
    have h5 := Nat.mul_le_mul_right (2 ^ (7 * k)) this
    omega
/-- what has been taken, with what is to come -/
def ctdI (bs : List UInt8) (k c : Nat) : Prop := ctd 0 bs = (ctd k (bs.drop k)).map fun p => (c + 2 ^ (7 * k) * p.1, p.2)
theorem ctdI_start (bs : List UInt8) : ctdI bs 0 0 := by unfold ctdI; cases h : ctd 0 bs <;> simp [h]
theorem ctdI_bad {bs : List UInt8} {k c : Nat} {x : UInt8} (hi : ctdI bs k c) (hx : bs[k]? = some x) (h : k = 10 ∨ (k = 9 ∧ 1 < x.toNat) ∨ (0 < k ∧ x.toNat = 0)) : ctd 0 bs = none := by
  unfold ctdI at hi
  rw [hi, ctd_step hx, if_pos h]
  rfl
theorem ctdI_end {bs : List UInt8} {k c : Nat} (hi : ctdI bs k c) (h : bs.length ≤ k ∨ k = 10) : ctd 0 bs = none := by
  unfold ctdI at hi
  rw [hi]
  have : ctd k (bs.drop k) = none := by
    rcases h with h | rfl
    · rw [List.drop_eq_nil_of_le h]; rfl
    · cases hd : bs.drop 10 with
      | nil => rfl
      | cons y r => simp [ctd]
  rw [this]
  rfl
theorem ctdI_done {bs : List UInt8} {k c : Nat} {x : UInt8} (hi : ctdI bs k c) (hx : bs[k]? = some x) (h : ¬ (k = 10 ∨ (k = 9 ∧ 1 < x.toNat) ∨ (0 < k ∧ x.toNat = 0))) (hl : x.toNat < 128) : ctd 0 bs = some (c + x.toNat % 128 * 2 ^ (7 * k), bs.drop (k + 1)) := by
  unfold ctdI at hi
  rw [hi, ctd_step hx, if_neg h, if_pos hl, Option.map_some, Nat.mod_eq_of_lt hl, Nat.mul_comm]
theorem ctdI_more {bs : List UInt8} {k c : Nat} {x : UInt8} (hi : ctdI bs k c) (hx : bs[k]? = some x) (h : ¬ (k = 10 ∨ (k = 9 ∧ 1 < x.toNat) ∨ (0 < k ∧ x.toNat = 0))) (hl : ¬ x.toNat < 128) : ctdI bs (k + 1) (c + x.toNat % 128 * 2 ^ (7 * k)) := by
  unfold ctdI at hi ⊢
  rw [hi, ctd_step hx, if_neg h, if_neg hl, Option.map_map]
  congr 1
  funext p
  simp only [Function.comp, Prod.mk.injEq, and_true]
  rw [show 7 * (k + 1) = 7 * k + 7 from by omega, Nat.pow_add, Nat.mul_add, Nat.mul_comm (x.toNat % 128), ← Nat.mul_assoc, Nat.add_assoc]

theorem counted_calls {S : Nat → Prop} {w : World} {ao : Option Addr} {c : Nat} {bs : List UInt8} (hr : RSl S w eb ao c bs) (hl : bs.length ≤ 9223372036854775807) :
    Calls Tryd.prog 95 [.slice ao bs.length c].toArray w (Ret fun v w' => ((∃ (c : UInt64) (r : List UInt8) (ao' : Option Addr) (c' : Nat), v = .tuple #[v64 c, .slice ao' r.length c', .bool true] ∧ ctd 0 bs = some (c.toNat, r) ∧ RSl S w' eb ao' c' r) ∨ (v = .tuple #[v64 0, .slice none 0 0, .bool false] ∧ ctd 0 bs = none)) ∧ Chg Nob w w') := by
  refine Calls.of_WC Tryd.func95 rfl Tryd.ntmps95 (by simp) ?_
  refine WC.seq (WC.region (WL.assign rfl rfl (WL.assign rfl rfl (WL.assign rfl rfl (WL.nil (WX.then_normal (WC.seq (?_))))))))
  refine WC.region (WL.assign rfl rfl (WL.nil (WX.then_normal (WC.seq (WC.seq (WC.region (WL.move rfl rfl (?_))))))))
  refine WL.len Tryd.underlying26 rfl rfl (WL.move rfl rfl (WL.nil (WX.then_normal (WC.block (?_)))))
  refine WC.loop (σ := Nat × UInt64) (fun s => [(0, .slice ao bs.length c), (8, .slice ao bs.length c), (9, vi bs.length), (5, v64 s.2), (10, vi s.1)])
    (fun s w' => s.1 ≤ 10 ∧ s.1 ≤ bs.length ∧ s.2.toNat < 2 ^ (7 * s.1) ∧ ctdI bs s.1 s.2.toNat ∧ Chg Nob w w') (fun s => 10 - s.1) (0, 0) ⟨rfl, rfl, rfl, rfl, rfl, trivial⟩ ⟨by omega, by simp, by simp, ctdI_start _, Chg.refl _ _⟩ ?_
  rintro ⟨k, u⟩ w1 ⟨hk, hkl, hu, hi, kk⟩
  dsimp only at hk hkl hu hi kk ⊢
  replace hr := hr.pure kk
  refine WC.seq (WC.region (?_))
  refine WL.lss? rfl rfl rfl (fun h11 => ?_) (fun h11 => ?_)
  ·
    refine WL.nil (WX.then_normal (WC.seq (WC.cond_true rfl (WC.skip (WX.then_normal (WC.seq (WC.block (?_))))))))
    refine WC.seq (WC.region (WL.move rfl rfl (?_)))
    obtain ⟨x, hx⟩ : ∃ x, bs[k]? = some x := ⟨_, List.getElem?_eq_getElem (by omega)⟩
    refine WL.indexT Tryd.underlying26 Tryd.sizeOf5 hr rfl rfl ⟨hx, rfl⟩ rfl ?_
    intro b_1 o_1 hc_1
    refine WL.load Tryd.isAgg5 rfl (hc_1 0 _ rfl) rfl (WL.assign rfl rfl (WL.assign rfl rfl (WL.nil (WX.then_normal (WC.seq (WC.seq (WC.region (?_))))))))
    refine WL.move rfl rfl (?_)
    refine WL.eql? rfl rfl rfl (fun h16 => ?_) (fun h16 => ?_)
    ·
      refine WL.move rfl rfl (WL.pass rfl rfl rfl rfl (WL.pass rfl rfl rfl rfl (WL.pass rfl rfl rfl rfl (WL.passU rfl rfl rfl (WL.passU rfl rfl rfl (WL.pass rfl rfl rfl rfl (WL.pickT rfl rfl rfl (?_))))))))
      refine WL.move rfl rfl (WL.pass rfl rfl rfl rfl (WL.pass rfl rfl rfl rfl (WL.pass rfl rfl rfl rfl (WL.passU rfl rfl rfl (WL.passU rfl rfl rfl (WL.pass rfl rfl rfl rfl (WL.pickT rfl rfl rfl (?_))))))))
      refine WL.nil (WX.then_normal (WC.cond_true rfl (WC.seq (WC.region (WL.assign rfl rfl (WL.assign rfl rfl (WL.assign rfl rfl (?_))))))))
      refine WL.nil (WX.then_normal (WC.ret (WX.then_ret (WX.block_ret (WX.then_ret (WX.then_ret (WX.block_ret (?_))))))))
      refine WX.then_ret (?_)
      refine WX.ret3 (.inl rfl) Tryd.results95 rfl rfl rfl ?_
      first
        | (refine ⟨_, rfl, .inr ⟨rfl, ?_⟩, kk⟩
           first
             | exact ctdI_bad hi hx (by omega)
             | exact ctdI_end hi (by omega))
        | (refine ⟨_, rfl, .inl ⟨_, _, _, _, rfl, ?_, hc⟩, kk⟩
           rw [hor.1]
           rw [List.take_of_length_le (Nat.le_refl _)]
           exact ctdI_done hi hx hbad (by omega))
    ·
      refine WL.move rfl rfl (WL.want rfl rfl rfl (WL.move rfl rfl (WL.want rfl rfl rfl (?_))))
      refine WL.eql? rfl rfl rfl (fun h19 => ?_) (fun h19 => ?_)
      ·
        refine WL.want rfl rfl rfl (WL.move rfl rfl (WL.want rfl rfl rfl (WL.move rfl rfl (WL.want rfl rfl rfl (?_)))))
        refine WL.gtr? rfl rfl rfl (fun h22 => ?_) (fun h22 => ?_)
        ·
          refine WL.want rfl rfl rfl (WL.pickT rfl rfl rfl (WL.pickF rfl rfl rfl (WL.move rfl rfl (WL.pass rfl rfl rfl rfl (WL.pass rfl rfl rfl rfl (WL.pass rfl rfl rfl rfl (WL.passU rfl rfl rfl (?_))))))))
          refine WL.passU rfl rfl rfl (WL.pass rfl rfl rfl rfl (WL.pickT rfl rfl rfl (WL.nil (WX.then_normal (WC.cond_true rfl (WC.seq (WC.region (?_))))))))
          refine WL.assign rfl rfl (WL.assign rfl rfl (WL.assign rfl rfl (WL.nil (WX.then_normal (WC.ret (WX.then_ret (WX.block_ret (?_))))))))
          refine WX.then_ret (WX.then_ret (WX.block_ret (WX.then_ret (?_))))
          refine WX.ret3 (.inl rfl) Tryd.results95 rfl rfl rfl ?_
          first
            | (refine ⟨_, rfl, .inr ⟨rfl, ?_⟩, kk⟩
               first
                 | exact ctdI_bad hi hx (by omega)
                 | exact ctdI_end hi (by omega))
            | (refine ⟨_, rfl, .inl ⟨_, _, _, _, rfl, ?_, hc⟩, kk⟩
               rw [hor.1]
               rw [List.take_of_length_le (Nat.le_refl _)]
               exact ctdI_done hi hx hbad (by omega))
        ·
          refine WL.want rfl rfl rfl (WL.pickT rfl rfl rfl (WL.pickF rfl rfl rfl (WL.move rfl rfl (WL.want rfl rfl rfl (WL.move rfl rfl (WL.want rfl rfl rfl (?_)))))))
          refine WL.gtr? rfl rfl rfl (fun h27 => ?_) (fun h27 => ?_)
          ·
            refine WL.want rfl rfl rfl (WL.move rfl rfl (WL.want rfl rfl rfl (WL.move rfl rfl (WL.want rfl rfl rfl (?_)))))
            refine WL.eql? rfl rfl rfl (fun h30 => ?_) (fun h30 => ?_)
            ·
              refine WL.want rfl rfl rfl (WL.pickT rfl rfl rfl (WL.pickF rfl rfl rfl (WL.nil (WX.then_normal (WC.cond_true rfl (WC.seq (WC.region (?_))))))))
              refine WL.assign rfl rfl (WL.assign rfl rfl (WL.assign rfl rfl (WL.nil (WX.then_normal (WC.ret (WX.then_ret (WX.block_ret (?_))))))))
              refine WX.then_ret (WX.then_ret (WX.block_ret (WX.then_ret (?_))))
              refine WX.ret3 (.inl rfl) Tryd.results95 rfl rfl rfl ?_
              first
                | (refine ⟨_, rfl, .inr ⟨rfl, ?_⟩, kk⟩
                   first
                     | exact ctdI_bad hi hx (by omega)
                     | exact ctdI_end hi (by omega))
                | (refine ⟨_, rfl, .inl ⟨_, _, _, _, rfl, ?_, hc⟩, kk⟩
                   rw [hor.1]
                   rw [List.take_of_length_le (Nat.le_refl _)]
                   exact ctdI_done hi hx hbad (by omega))
            ·
              refine WL.want rfl rfl rfl (WL.pickT rfl rfl rfl (WL.pickF rfl rfl rfl (WL.nil (WX.then_normal (WC.cond_false rfl (WC.skip (WX.then_normal (?_))))))))
              refine WC.seq (WC.region (WL.move rfl rfl (WL.move rfl rfl (WL.num rfl rfl (n_and8 _ _ _ 127) rfl (WL.c_u8_u64 Tryd.underlying5 Tryd.underlying44 rfl rfl (WL.move rfl rfl (WL.mul64 rfl rfl (by first | omega | (constructor <;> omega)) rfl (?_))))))))
              have hbad : ¬ (k = 10 ∨ (k = 9 ∧ 1 < x.toNat) ∨ (0 < k ∧ x.toNat = 0)) := by omega
              have hor := or_part (c := u) (x := x) (k := k) (by omega) hu (by omega)
              refine WL.shlv (7 * k) rfl rfl ⟨by omega, by omega⟩ rfl ?_
              refine WL.num rfl rfl (n_or64 _ _ _ _) rfl (WL.assign rfl rfl (WL.nil (WX.then_normal (WC.seq (WC.region (WL.move rfl rfl (?_)))))))
              refine WL.lss? rfl rfl rfl (fun h42 => ?_) (fun h42 => ?_)
              ·
                refine WL.nil (WX.then_normal (WC.cond_true rfl (WC.seq (?_))))
                have hc := hr.cut (k + 1) bs.length (by constructor <;> omega)
                refine WC.draw (Nob) [0, 1, 2, 3, 4, 5, 6, 7] [] mixed rfl rfl (fun wd_2 kd_2 zd_2 => ?_)
                have zs_kd_2 := kd_2.size
                replace hr := hr.pure kd_2
                replace kk := kk.pure kd_2
                replace hc := hc.pure kd_2
                apply DQ.step (E' := [(5, _)])
                case ho => rfl
                case hs => exact ⟨rfl, trivial⟩
                case hk => rfl
                case h1 =>
                  intro wq_3 kq_3
                  refine WL.move rfl rfl (?_)
                  refine WL.nil ?_
                  exact WX.one ⟨rfl, by first | exact Chg.refl _ _ | assumption⟩
                apply DQ.step (E' := [(0, _)])
                case ho => rfl
                case hs => exact ⟨rfl, trivial⟩
                case hk => rfl
                case h1 =>
                  intro wq_4 kq_4
                  refine WL.move rfl rfl (?_)
                  refine WL.nil ?_
                  exact WX.one ⟨rfl, by first | exact Chg.refl _ _ | assumption⟩
                apply DQ.step (E' := [(6, _)])
                case ho => rfl
                case hs => exact ⟨rfl, trivial⟩
                case hk => rfl
                case h1 =>
                  intro wq_5 kq_5
                  refine WL.move rfl rfl (?_)
                  refine WL.nil ?_
                  exact WX.one ⟨rfl, by first | exact Chg.refl _ _ | assumption⟩
                apply DQ.step (E' := [(45, _)])
                case ho => rfl
                case hs => exact ⟨rfl, trivial⟩
                case hk => rfl
                case h1 =>
                  intro wq_6 kq_6
                  refine WL.add64 rfl rfl (by first | omega | (constructor <;> omega)) rfl (?_)
                  refine WL.nil ?_
                  exact WX.one ⟨rfl, by first | exact Chg.refl _ _ | assumption⟩
                apply DQ.step (E' := [(44, _), (46, _)])
                case ho => rfl
                case hs => exact ⟨rfl, rfl, trivial⟩
                case hk => rfl
                case h1 =>
                  intro wq_7 kq_7
                  have zs_kq_7 := kq_7.size
                  replace hr := hr.pure kq_7
                  replace kk := kk.pure kq_7
                  replace hc := hc.pure kq_7
                  refine WL.sliceC (l := k + 1) (h := bs.length) (j := .i64) Tryd.underlying26 Tryd.sizeOf5 hr rfl (.inl rfl) (.inr ⟨rfl, rfl⟩) (by constructor <;> omega) rfl ?_
                  refine WL.nil ?_
                  exact WX.one ⟨rfl, by first | exact Chg.refl _ _ | assumption⟩
                apply DQ.step (E' := [(43, _)])
                case ho => rfl
                case hs => exact ⟨rfl, trivial⟩
                case hk => rfl
                case h1 =>
                  intro wq_8 kq_8
                  refine WL.assign rfl rfl (?_)
                  refine WL.nil ?_
                  exact WX.one ⟨rfl, by first | exact Chg.refl _ _ | assumption⟩
                apply DQ.step (E' := [(47, _)])
                case ho => rfl
                case hs => exact ⟨rfl, trivial⟩
                case hk => rfl
                case h1 =>
                  intro wq_9 kq_9
                  refine WL.assign rfl rfl (?_)
                  refine WL.nil ?_
                  exact WX.one ⟨rfl, by first | exact Chg.refl _ _ | assumption⟩
                apply DQ.step (E' := [])
                case ho => rfl
                case hs => exact trivial
                case hk => rfl
                case h1 =>
                  intro wq_10 kq_10
                  refine WL.assign rfl rfl (?_)
                  refine WL.nil ?_
                  exact WX.one ⟨rfl, by first | exact Chg.refl _ _ | assumption⟩
                refine DQ.done (fun _ => ?_)
                refine DL.done (fun we_11 ke_11 => ?_)
                have zs_ke_11 := ke_11.size
                replace hr := hr.pure ke_11
                replace kk := kk.pure ke_11
                replace hc := hc.pure ke_11
                refine WX.then_normal (WC.ret (WX.block_ret (WX.then_ret (WX.then_ret (WX.block_ret (WX.then_ret (?_)))))))
                refine WX.ret3 (.inl rfl) Tryd.results95 rfl rfl rfl ?_
                first
                  | (refine ⟨_, rfl, .inr ⟨rfl, ?_⟩, kk⟩
                     first
                       | exact ctdI_bad hi hx (by omega)
                       | exact ctdI_end hi (by omega))
                  | (refine ⟨_, rfl, .inl ⟨_, _, _, _, rfl, ?_, hc⟩, kk⟩
                     rw [hor.1]
                     rw [List.take_of_length_le (Nat.le_refl _)]
                     exact ctdI_done hi hx hbad (by omega))
              ·
                refine WL.nil (WX.then_normal (WC.cond_false rfl (WC.skip (WX.block_normal (WX.then_normal (WC.region (WL.add64 rfl rfl (by first | omega | (constructor <;> omega)) rfl (?_))))))))
                refine WL.move rfl rfl (WL.nil (?_))
                refine WX.loop_next (k + 1, u ||| ((x &&& 127).toUInt64 <<< UInt64.ofNat (7 * k))) ⟨rfl, rfl, rfl, rfl, rfl, trivial⟩ ⟨by dsimp only; omega, by dsimp only; omega, ?_, ?_, kk⟩ (by show _ - _ < _ - _; omega)
                ·
                  dsimp only
                  rw [hor.1]; exact hor.2
                ·
                  dsimp only
                  rw [hor.1]; exact ctdI_more hi hx hbad (by omega)
          ·
            refine WL.want rfl rfl rfl (WL.move rfl rfl (WL.pass rfl rfl rfl rfl (WL.pass rfl rfl rfl rfl (WL.want rfl rfl rfl (WL.pickF rfl rfl rfl (WL.pickF rfl rfl rfl (WL.nil (?_))))))))
            refine WX.then_normal (WC.cond_false rfl (WC.skip (WX.then_normal (WC.seq (WC.region (WL.move rfl rfl (WL.move rfl rfl (?_))))))))
            refine WL.num rfl rfl (n_and8 _ _ _ 127) rfl (WL.c_u8_u64 Tryd.underlying5 Tryd.underlying44 rfl rfl (WL.move rfl rfl (WL.mul64 rfl rfl (by first | omega | (constructor <;> omega)) rfl (?_))))
            have hbad : ¬ (k = 10 ∨ (k = 9 ∧ 1 < x.toNat) ∨ (0 < k ∧ x.toNat = 0)) := by omega
            have hor := or_part (c := u) (x := x) (k := k) (by omega) hu (by omega)
            refine WL.shlv (7 * k) rfl rfl ⟨by omega, by omega⟩ rfl ?_
            refine WL.num rfl rfl (n_or64 _ _ _ _) rfl (WL.assign rfl rfl (WL.nil (WX.then_normal (WC.seq (WC.region (WL.move rfl rfl (?_)))))))
            refine WL.lss? rfl rfl rfl (fun h42 => ?_) (fun h42 => ?_)
            ·
              refine WL.nil (WX.then_normal (WC.cond_true rfl (WC.seq (?_))))
              have hc := hr.cut (k + 1) bs.length (by constructor <;> omega)
              refine WC.draw (Nob) [0, 1, 2, 3, 4, 5, 6, 7] [] mixed rfl rfl (fun wd_2 kd_2 zd_2 => ?_)
              have zs_kd_2 := kd_2.size
              replace hr := hr.pure kd_2
              replace kk := kk.pure kd_2
              replace hc := hc.pure kd_2
              apply DQ.step (E' := [(5, _)])
              case ho => rfl
              case hs => exact ⟨rfl, trivial⟩
              case hk => rfl
              case h1 =>
                intro wq_3 kq_3
                refine WL.move rfl rfl (?_)
                refine WL.nil ?_
                exact WX.one ⟨rfl, by first | exact Chg.refl _ _ | assumption⟩
              apply DQ.step (E' := [(0, _)])
              case ho => rfl
              case hs => exact ⟨rfl, trivial⟩
              case hk => rfl
              case h1 =>
                intro wq_4 kq_4
                refine WL.move rfl rfl (?_)
                refine WL.nil ?_
                exact WX.one ⟨rfl, by first | exact Chg.refl _ _ | assumption⟩
              apply DQ.step (E' := [(6, _)])
              case ho => rfl
              case hs => exact ⟨rfl, trivial⟩
              case hk => rfl
              case h1 =>
                intro wq_5 kq_5
                refine WL.move rfl rfl (?_)
                refine WL.nil ?_
                exact WX.one ⟨rfl, by first | exact Chg.refl _ _ | assumption⟩
              apply DQ.step (E' := [(45, _)])
              case ho => rfl
              case hs => exact ⟨rfl, trivial⟩
              case hk => rfl
              case h1 =>
                intro wq_6 kq_6
                refine WL.add64 rfl rfl (by first | omega | (constructor <;> omega)) rfl (?_)
                refine WL.nil ?_
                exact WX.one ⟨rfl, by first | exact Chg.refl _ _ | assumption⟩
              apply DQ.step (E' := [(44, _), (46, _)])
              case ho => rfl
              case hs => exact ⟨rfl, rfl, trivial⟩
              case hk => rfl
              case h1 =>
                intro wq_7 kq_7
                have zs_kq_7 := kq_7.size
                replace hr := hr.pure kq_7
                replace kk := kk.pure kq_7
                replace hc := hc.pure kq_7
                refine WL.sliceC (l := k + 1) (h := bs.length) (j := .i64) Tryd.underlying26 Tryd.sizeOf5 hr rfl (.inl rfl) (.inr ⟨rfl, rfl⟩) (by constructor <;> omega) rfl ?_
                refine WL.nil ?_
                exact WX.one ⟨rfl, by first | exact Chg.refl _ _ | assumption⟩
              apply DQ.step (E' := [(43, _)])
              case ho => rfl
              case hs => exact ⟨rfl, trivial⟩
              case hk => rfl
              case h1 =>
                intro wq_8 kq_8
                refine WL.assign rfl rfl (?_)
                refine WL.nil ?_
                exact WX.one ⟨rfl, by first | exact Chg.refl _ _ | assumption⟩
              apply DQ.step (E' := [(47, _)])
              case ho => rfl
              case hs => exact ⟨rfl, trivial⟩
              case hk => rfl
              case h1 =>
                intro wq_9 kq_9
                refine WL.assign rfl rfl (?_)
                refine WL.nil ?_
                exact WX.one ⟨rfl, by first | exact Chg.refl _ _ | assumption⟩
              apply DQ.step (E' := [])
              case ho => rfl
              case hs => exact trivial
              case hk => rfl
              case h1 =>
                intro wq_10 kq_10
                refine WL.assign rfl rfl (?_)
                refine WL.nil ?_
                exact WX.one ⟨rfl, by first | exact Chg.refl _ _ | assumption⟩
              refine DQ.done (fun _ => ?_)
              refine DL.done (fun we_11 ke_11 => ?_)
              have zs_ke_11 := ke_11.size
              replace hr := hr.pure ke_11
              replace kk := kk.pure ke_11
              replace hc := hc.pure ke_11
              refine WX.then_normal (WC.ret (WX.block_ret (WX.then_ret (WX.then_ret (WX.block_ret (WX.then_ret (?_)))))))
              refine WX.ret3 (.inl rfl) Tryd.results95 rfl rfl rfl ?_
              first
                | (refine ⟨_, rfl, .inr ⟨rfl, ?_⟩, kk⟩
                   first
                     | exact ctdI_bad hi hx (by omega)
                     | exact ctdI_end hi (by omega))
                | (refine ⟨_, rfl, .inl ⟨_, _, _, _, rfl, ?_, hc⟩, kk⟩
                   rw [hor.1]
                   rw [List.take_of_length_le (Nat.le_refl _)]
                   exact ctdI_done hi hx hbad (by omega))
            ·
              refine WL.nil (WX.then_normal (WC.cond_false rfl (WC.skip (WX.block_normal (WX.then_normal (WC.region (WL.add64 rfl rfl (by first | omega | (constructor <;> omega)) rfl (?_))))))))
              refine WL.move rfl rfl (WL.nil (?_))
              refine WX.loop_next (k + 1, u ||| ((x &&& 127).toUInt64 <<< UInt64.ofNat (7 * k))) ⟨rfl, rfl, rfl, rfl, rfl, trivial⟩ ⟨by dsimp only; omega, by dsimp only; omega, ?_, ?_, kk⟩ (by show _ - _ < _ - _; omega)
              ·
                dsimp only
                rw [hor.1]; exact hor.2
              ·
                dsimp only
                rw [hor.1]; exact ctdI_more hi hx hbad (by omega)
      ·
        refine WL.want rfl rfl rfl (WL.move rfl rfl (WL.pass rfl rfl rfl rfl (WL.pass rfl rfl rfl rfl (WL.want rfl rfl rfl (WL.pickF rfl rfl rfl (WL.pickF rfl rfl rfl (WL.move rfl rfl (?_))))))))
        refine WL.want rfl rfl rfl (WL.move rfl rfl (WL.want rfl rfl rfl (?_)))
        refine WL.gtr? rfl rfl rfl (fun h27 => ?_) (fun h27 => ?_)
        ·
          refine WL.want rfl rfl rfl (WL.move rfl rfl (WL.want rfl rfl rfl (WL.move rfl rfl (WL.want rfl rfl rfl (?_)))))
          refine WL.eql? rfl rfl rfl (fun h30 => ?_) (fun h30 => ?_)
          ·
            refine WL.want rfl rfl rfl (WL.pickT rfl rfl rfl (WL.pickF rfl rfl rfl (WL.nil (WX.then_normal (WC.cond_true rfl (WC.seq (WC.region (?_))))))))
            refine WL.assign rfl rfl (WL.assign rfl rfl (WL.assign rfl rfl (WL.nil (WX.then_normal (WC.ret (WX.then_ret (WX.block_ret (?_))))))))
            refine WX.then_ret (WX.then_ret (WX.block_ret (WX.then_ret (?_))))
            refine WX.ret3 (.inl rfl) Tryd.results95 rfl rfl rfl ?_
            first
              | (refine ⟨_, rfl, .inr ⟨rfl, ?_⟩, kk⟩
                 first
                   | exact ctdI_bad hi hx (by omega)
                   | exact ctdI_end hi (by omega))
              | (refine ⟨_, rfl, .inl ⟨_, _, _, _, rfl, ?_, hc⟩, kk⟩
                 rw [hor.1]
                 rw [List.take_of_length_le (Nat.le_refl _)]
                 exact ctdI_done hi hx hbad (by omega))
          ·
            refine WL.want rfl rfl rfl (WL.pickT rfl rfl rfl (WL.pickF rfl rfl rfl (WL.nil (WX.then_normal (WC.cond_false rfl (WC.skip (WX.then_normal (?_))))))))
            refine WC.seq (WC.region (WL.move rfl rfl (WL.move rfl rfl (WL.num rfl rfl (n_and8 _ _ _ 127) rfl (WL.c_u8_u64 Tryd.underlying5 Tryd.underlying44 rfl rfl (WL.move rfl rfl (WL.mul64 rfl rfl (by first | omega | (constructor <;> omega)) rfl (?_))))))))
            have hbad : ¬ (k = 10 ∨ (k = 9 ∧ 1 < x.toNat) ∨ (0 < k ∧ x.toNat = 0)) := by omega
            have hor := or_part (c := u) (x := x) (k := k) (by omega) hu (by omega)
            refine WL.shlv (7 * k) rfl rfl ⟨by omega, by omega⟩ rfl ?_
            refine WL.num rfl rfl (n_or64 _ _ _ _) rfl (WL.assign rfl rfl (WL.nil (WX.then_normal (WC.seq (WC.region (WL.move rfl rfl (?_)))))))
            refine WL.lss? rfl rfl rfl (fun h42 => ?_) (fun h42 => ?_)
            ·
              refine WL.nil (WX.then_normal (WC.cond_true rfl (WC.seq (?_))))
              have hc := hr.cut (k + 1) bs.length (by constructor <;> omega)
              refine WC.draw (Nob) [0, 1, 2, 3, 4, 5, 6, 7] [] mixed rfl rfl (fun wd_2 kd_2 zd_2 => ?_)
              have zs_kd_2 := kd_2.size
              replace hr := hr.pure kd_2
              replace kk := kk.pure kd_2
              replace hc := hc.pure kd_2
              apply DQ.step (E' := [(5, _)])
              case ho => rfl
              case hs => exact ⟨rfl, trivial⟩
              case hk => rfl
              case h1 =>
                intro wq_3 kq_3
                refine WL.move rfl rfl (?_)
                refine WL.nil ?_
                exact WX.one ⟨rfl, by first | exact Chg.refl _ _ | assumption⟩
              apply DQ.step (E' := [(0, _)])
              case ho => rfl
              case hs => exact ⟨rfl, trivial⟩
              case hk => rfl
              case h1 =>
                intro wq_4 kq_4
                refine WL.move rfl rfl (?_)
                refine WL.nil ?_
                exact WX.one ⟨rfl, by first | exact Chg.refl _ _ | assumption⟩
              apply DQ.step (E' := [(6, _)])
              case ho => rfl
              case hs => exact ⟨rfl, trivial⟩
              case hk => rfl
              case h1 =>
                intro wq_5 kq_5
                refine WL.move rfl rfl (?_)
                refine WL.nil ?_
                exact WX.one ⟨rfl, by first | exact Chg.refl _ _ | assumption⟩
              apply DQ.step (E' := [(45, _)])
              case ho => rfl
              case hs => exact ⟨rfl, trivial⟩
              case hk => rfl
              case h1 =>
                intro wq_6 kq_6
                refine WL.add64 rfl rfl (by first | omega | (constructor <;> omega)) rfl (?_)
                refine WL.nil ?_
                exact WX.one ⟨rfl, by first | exact Chg.refl _ _ | assumption⟩
              apply DQ.step (E' := [(44, _), (46, _)])
              case ho => rfl
              case hs => exact ⟨rfl, rfl, trivial⟩
              case hk => rfl
              case h1 =>
                intro wq_7 kq_7
                have zs_kq_7 := kq_7.size
                replace hr := hr.pure kq_7
                replace kk := kk.pure kq_7
                replace hc := hc.pure kq_7
                refine WL.sliceC (l := k + 1) (h := bs.length) (j := .i64) Tryd.underlying26 Tryd.sizeOf5 hr rfl (.inl rfl) (.inr ⟨rfl, rfl⟩) (by constructor <;> omega) rfl ?_
                refine WL.nil ?_
                exact WX.one ⟨rfl, by first | exact Chg.refl _ _ | assumption⟩
              apply DQ.step (E' := [(43, _)])
              case ho => rfl
              case hs => exact ⟨rfl, trivial⟩
              case hk => rfl
              case h1 =>
                intro wq_8 kq_8
                refine WL.assign rfl rfl (?_)
                refine WL.nil ?_
                exact WX.one ⟨rfl, by first | exact Chg.refl _ _ | assumption⟩
              apply DQ.step (E' := [(47, _)])
              case ho => rfl
              case hs => exact ⟨rfl, trivial⟩
              case hk => rfl
              case h1 =>
                intro wq_9 kq_9
                refine WL.assign rfl rfl (?_)
                refine WL.nil ?_
                exact WX.one ⟨rfl, by first | exact Chg.refl _ _ | assumption⟩
              apply DQ.step (E' := [])
              case ho => rfl
              case hs => exact trivial
              case hk => rfl
              case h1 =>
                intro wq_10 kq_10
                refine WL.assign rfl rfl (?_)
                refine WL.nil ?_
                exact WX.one ⟨rfl, by first | exact Chg.refl _ _ | assumption⟩
              refine DQ.done (fun _ => ?_)
              refine DL.done (fun we_11 ke_11 => ?_)
              have zs_ke_11 := ke_11.size
              replace hr := hr.pure ke_11
              replace kk := kk.pure ke_11
              replace hc := hc.pure ke_11
              refine WX.then_normal (WC.ret (WX.block_ret (WX.then_ret (WX.then_ret (WX.block_ret (WX.then_ret (?_)))))))
              refine WX.ret3 (.inl rfl) Tryd.results95 rfl rfl rfl ?_
              first
                | (refine ⟨_, rfl, .inr ⟨rfl, ?_⟩, kk⟩
                   first
                     | exact ctdI_bad hi hx (by omega)
                     | exact ctdI_end hi (by omega))
                | (refine ⟨_, rfl, .inl ⟨_, _, _, _, rfl, ?_, hc⟩, kk⟩
                   rw [hor.1]
                   rw [List.take_of_length_le (Nat.le_refl _)]
                   exact ctdI_done hi hx hbad (by omega))
            ·
              refine WL.nil (WX.then_normal (WC.cond_false rfl (WC.skip (WX.block_normal (WX.then_normal (WC.region (WL.add64 rfl rfl (by first | omega | (constructor <;> omega)) rfl (?_))))))))
              refine WL.move rfl rfl (WL.nil (?_))
              refine WX.loop_next (k + 1, u ||| ((x &&& 127).toUInt64 <<< UInt64.ofNat (7 * k))) ⟨rfl, rfl, rfl, rfl, rfl, trivial⟩ ⟨by dsimp only; omega, by dsimp only; omega, ?_, ?_, kk⟩ (by show _ - _ < _ - _; omega)
              ·
                dsimp only
                rw [hor.1]; exact hor.2
              ·
                dsimp only
                rw [hor.1]; exact ctdI_more hi hx hbad (by omega)
        ·
          refine WL.want rfl rfl rfl (WL.move rfl rfl (WL.pass rfl rfl rfl rfl (WL.pass rfl rfl rfl rfl (WL.want rfl rfl rfl (WL.pickF rfl rfl rfl (WL.pickF rfl rfl rfl (WL.nil (?_))))))))
          refine WX.then_normal (WC.cond_false rfl (WC.skip (WX.then_normal (WC.seq (WC.region (WL.move rfl rfl (WL.move rfl rfl (?_))))))))
          refine WL.num rfl rfl (n_and8 _ _ _ 127) rfl (WL.c_u8_u64 Tryd.underlying5 Tryd.underlying44 rfl rfl (WL.move rfl rfl (WL.mul64 rfl rfl (by first | omega | (constructor <;> omega)) rfl (?_))))
          have hbad : ¬ (k = 10 ∨ (k = 9 ∧ 1 < x.toNat) ∨ (0 < k ∧ x.toNat = 0)) := by omega
          have hor := or_part (c := u) (x := x) (k := k) (by omega) hu (by omega)
          refine WL.shlv (7 * k) rfl rfl ⟨by omega, by omega⟩ rfl ?_
          refine WL.num rfl rfl (n_or64 _ _ _ _) rfl (WL.assign rfl rfl (WL.nil (WX.then_normal (WC.seq (WC.region (WL.move rfl rfl (?_)))))))
          refine WL.lss? rfl rfl rfl (fun h42 => ?_) (fun h42 => ?_)
          ·
            refine WL.nil (WX.then_normal (WC.cond_true rfl (WC.seq (?_))))
            have hc := hr.cut (k + 1) bs.length (by constructor <;> omega)
            refine WC.draw (Nob) [0, 1, 2, 3, 4, 5, 6, 7] [] mixed rfl rfl (fun wd_2 kd_2 zd_2 => ?_)
            have zs_kd_2 := kd_2.size
            replace hr := hr.pure kd_2
            replace kk := kk.pure kd_2
            replace hc := hc.pure kd_2
            apply DQ.step (E' := [(5, _)])
            case ho => rfl
            case hs => exact ⟨rfl, trivial⟩
            case hk => rfl
            case h1 =>
              intro wq_3 kq_3
              refine WL.move rfl rfl (?_)
              refine WL.nil ?_
              exact WX.one ⟨rfl, by first | exact Chg.refl _ _ | assumption⟩
            apply DQ.step (E' := [(0, _)])
            case ho => rfl
            case hs => exact ⟨rfl, trivial⟩
            case hk => rfl
            case h1 =>
              intro wq_4 kq_4
              refine WL.move rfl rfl (?_)
              refine WL.nil ?_
              exact WX.one ⟨rfl, by first | exact Chg.refl _ _ | assumption⟩
            apply DQ.step (E' := [(6, _)])
            case ho => rfl
            case hs => exact ⟨rfl, trivial⟩
            case hk => rfl
            case h1 =>
              intro wq_5 kq_5
              refine WL.move rfl rfl (?_)
              refine WL.nil ?_
              exact WX.one ⟨rfl, by first | exact Chg.refl _ _ | assumption⟩
            apply DQ.step (E' := [(45, _)])
            case ho => rfl
            case hs => exact ⟨rfl, trivial⟩
            case hk => rfl
            case h1 =>
              intro wq_6 kq_6
              refine WL.add64 rfl rfl (by first | omega | (constructor <;> omega)) rfl (?_)
              refine WL.nil ?_
              exact WX.one ⟨rfl, by first | exact Chg.refl _ _ | assumption⟩
            apply DQ.step (E' := [(44, _), (46, _)])
            case ho => rfl
            case hs => exact ⟨rfl, rfl, trivial⟩
            case hk => rfl
            case h1 =>
              intro wq_7 kq_7
              have zs_kq_7 := kq_7.size
              replace hr := hr.pure kq_7
              replace kk := kk.pure kq_7
              replace hc := hc.pure kq_7
              refine WL.sliceC (l := k + 1) (h := bs.length) (j := .i64) Tryd.underlying26 Tryd.sizeOf5 hr rfl (.inl rfl) (.inr ⟨rfl, rfl⟩) (by constructor <;> omega) rfl ?_
              refine WL.nil ?_
              exact WX.one ⟨rfl, by first | exact Chg.refl _ _ | assumption⟩
            apply DQ.step (E' := [(43, _)])
            case ho => rfl
            case hs => exact ⟨rfl, trivial⟩
            case hk => rfl
            case h1 =>
              intro wq_8 kq_8
              refine WL.assign rfl rfl (?_)
              refine WL.nil ?_
              exact WX.one ⟨rfl, by first | exact Chg.refl _ _ | assumption⟩
            apply DQ.step (E' := [(47, _)])
            case ho => rfl
            case hs => exact ⟨rfl, trivial⟩
            case hk => rfl
            case h1 =>
              intro wq_9 kq_9
              refine WL.assign rfl rfl (?_)
              refine WL.nil ?_
              exact WX.one ⟨rfl, by first | exact Chg.refl _ _ | assumption⟩
            apply DQ.step (E' := [])
            case ho => rfl
            case hs => exact trivial
            case hk => rfl
            case h1 =>
              intro wq_10 kq_10
              refine WL.assign rfl rfl (?_)
              refine WL.nil ?_
              exact WX.one ⟨rfl, by first | exact Chg.refl _ _ | assumption⟩
            refine DQ.done (fun _ => ?_)
            refine DL.done (fun we_11 ke_11 => ?_)
            have zs_ke_11 := ke_11.size
            replace hr := hr.pure ke_11
            replace kk := kk.pure ke_11
            replace hc := hc.pure ke_11
            refine WX.then_normal (WC.ret (WX.block_ret (WX.then_ret (WX.then_ret (WX.block_ret (WX.then_ret (?_)))))))
            refine WX.ret3 (.inl rfl) Tryd.results95 rfl rfl rfl ?_
            first
              | (refine ⟨_, rfl, .inr ⟨rfl, ?_⟩, kk⟩
                 first
                   | exact ctdI_bad hi hx (by omega)
                   | exact ctdI_end hi (by omega))
              | (refine ⟨_, rfl, .inl ⟨_, _, _, _, rfl, ?_, hc⟩, kk⟩
                 rw [hor.1]
                 rw [List.take_of_length_le (Nat.le_refl _)]
                 exact ctdI_done hi hx hbad (by omega))
          ·
            refine WL.nil (WX.then_normal (WC.cond_false rfl (WC.skip (WX.block_normal (WX.then_normal (WC.region (WL.add64 rfl rfl (by first | omega | (constructor <;> omega)) rfl (?_))))))))
            refine WL.move rfl rfl (WL.nil (?_))
            refine WX.loop_next (k + 1, u ||| ((x &&& 127).toUInt64 <<< UInt64.ofNat (7 * k))) ⟨rfl, rfl, rfl, rfl, rfl, trivial⟩ ⟨by dsimp only; omega, by dsimp only; omega, ?_, ?_, kk⟩ (by show _ - _ < _ - _; omega)
            ·
              dsimp only
              rw [hor.1]; exact hor.2
            ·
              dsimp only
              rw [hor.1]; exact ctdI_more hi hx hbad (by omega)
  ·
    refine WL.nil (WX.then_normal (WC.seq (WC.cond_false rfl (WC.exit (WX.then_exit (WX.then_exit (WX.block_here (?_))))))))
    refine WX.then_normal (WC.seq (WC.region (WL.assign rfl rfl (WL.assign rfl rfl (WL.assign rfl rfl (WL.nil (WX.then_normal (?_))))))))
    refine WC.ret (?_)
    refine WX.ret3 (.inl rfl) Tryd.results95 rfl rfl rfl ?_
    first
      | (refine ⟨_, rfl, .inr ⟨rfl, ?_⟩, kk⟩
         first
           | exact ctdI_bad hi hx (by omega)
           | exact ctdI_end hi (by omega))
      | (refine ⟨_, rfl, .inl ⟨_, _, _, _, rfl, ?_, hc⟩, kk⟩
         rw [hor.1]
         rw [List.take_of_length_le (Nat.le_refl _)]
         exact ctdI_done hi hx hbad (by omega))
end Go.Proofs.YtjeldcjchipdgaaDoor
namespace Go.Proofs.YtjeldcjchipdgaaDoor
open Go.RowKit Go.HL
set_option maxRecDepth 100000

/-! items out of bytes -/
def unz (c : Nat) : Int := if c % 2 = 1 then -((c / 2 : Nat) : Int) - 1 else ((c / 2 : Nat) : Int)
def dec (n : Nat) (bs : List UInt8) : Option (List Item) :=
  match bs with
  | [] => some []
  | k :: r =>
    match h : ctd 0 r with
    | none => none
    | some (c, r') =>
      if n = 2000 then none
      else if k.toNat = 1 then (dec (n + 1) r').map (⟨1, unz c, ⟨#[]⟩⟩ :: ·)
      else if k.toNat = 2 ∧ c ≤ 4000 ∧ c ≤ r'.length then (dec (n + 1) (r'.drop c)).map (⟨2, 0, ⟨(r'.take c).toArray⟩⟩ :: ·)
      else none
termination_by bs.length
decreasing_by
  all_goals
    have := (ctd_bound r 0 (by omega) h).2.2
    simp
    omega
theorem dec_nil (n : Nat) : dec n [] = some [] := by rw [dec]
theorem dec_none {n : Nat} {k : UInt8} {r : List UInt8} (h : ctd 0 r = none) : dec n (k :: r) = none := by
  rw [dec]
  split
  · rfl
  · rename_i h2; rw [h] at h2; cases h2
theorem dec_some {n : Nat} {k : UInt8} {r r' : List UInt8} {c : Nat} (h : ctd 0 r = some (c, r')) : dec n (k :: r) = if n = 2000 then none
      else if k.toNat = 1 then (dec (n + 1) r').map (⟨1, unz c, ⟨#[]⟩⟩ :: ·)
      else if k.toNat = 2 ∧ c ≤ 4000 ∧ c ≤ r'.length then (dec (n + 1) (r'.drop c)).map (⟨2, 0, ⟨(r'.take c).toArray⟩⟩ :: ·)
      else none := by
  rw [dec]
  split
  · rename_i h2; rw [h] at h2; cases h2
  · rename_i h2
    rw [h] at h2
    injection h2 with h2
    injection h2 with h3 h4
    subst h3; subst h4
    rfl
/-- what has been taken, with what is to come -/
def decI (b0 : List UInt8) (out : List Item) (bs : List UInt8) : Prop := dec 0 b0 = (dec out.length bs).map (out ++ ·)
theorem decI_start (b : List UInt8) : decI b [] b := by unfold decI; cases h : dec 0 b <;> simp [h]
theorem decI_end {b : List UInt8} {out : List Item} (h : decI b out []) : dec 0 b = some out := by unfold decI at h; rw [h, dec_nil]; simp
theorem decI_step {b : List UInt8} {out : List Item} {k : UInt8} {r r' : List UInt8} {i : Item} (h : decI b out (k :: r)) (hs : dec out.length (k :: r) = (dec (out.length + 1) r').map (i :: ·)) : decI b (out ++ [i]) r' := by
  unfold decI at *
  rw [h, hs, Option.map_map, List.length_append, List.length_singleton]
  congr 1
  funext l
  simp
theorem decI_bad {b : List UInt8} {out : List Item} {k : UInt8} {r : List UInt8} (h : decI b out (k :: r)) (hs : dec out.length (k :: r) = none) : dec 0 b = none := by
  unfold decI at h
  rw [h, hs]
  rfl
theorem shr1 (c : UInt64) : (c >>> UInt64.ofNat 1).toNat = c.toNat / 2 := by simp [Nat.shiftRight_eq_div_pow]
theorem and1 (c : UInt64) : (c &&& 1).toNat = c.toNat % 2 := by
  rw [UInt64.toNat_and]
  exact Nat.and_one_is_mod _

set_option maxHeartbeats 1000000 in
theorem decode_calls {w : World} {ao : Option Addr} {c : Nat} {b : List UInt8} (hr : RSl (· < w.heap.size) w eb ao c b) (hl : b.length ≤ 140737488351232) :
    Calls Tryd.prog 70 [.slice ao b.length c].toArray w (Ret fun v w' => ((∃ (l : List Item) (ao' : Option Addr) (c' : Nat), v = .tuple #[.slice ao' l.length c', vi 0] ∧ dec 0 b = some l ∧ Row (w.heap.size ≤ ·) w' 75 eit ao' c' l) ∨ (v = .tuple #[.slice none 0 0, vi 2] ∧ dec 0 b = none)) ∧ Chg Nob w w') := by
  refine Calls.of_WC Tryd.func70 rfl Tryd.ntmps70 (by simp) ?_
  refine WC.seq (WC.region (WL.assign rfl rfl (WL.assign rfl rfl (WL.nil (WX.then_normal (WC.seq (WC.region (?_))))))))
  refine WL.assign rfl rfl (WL.nil (WX.then_normal (WC.seq (WC.block (?_)))))
  refine WC.loop (σ := (List Item × Option Addr × Nat) × (List UInt8 × Option Addr × Nat)) (fun s => [(4, .slice s.1.2.1 s.1.1.length s.1.2.2), (0, .slice s.2.2.1 s.2.1.length s.2.2.2)])
    (fun s w' => s.1.1.length ≤ 2000 ∧ s.2.1.length ≤ b.length ∧ decI b s.1.1 s.2.1 ∧ Row (w.heap.size ≤ ·) w' 75 eit s.1.2.1 s.1.2.2 s.1.1 ∧ RSl (· < w.heap.size) w' eb s.2.2.1 s.2.2.2 s.2.1 ∧ Chg Nob w w') (fun s => s.2.1.length) (([], none, 0), (b, ao, c)) ⟨rfl, rfl, trivial⟩ ⟨by simp, Nat.le_refl _, decI_start _, Row.nil _ _ _ _, hr, Chg.refl _ _⟩ ?_
  clear hr
  rintro ⟨⟨out, a1, c1⟩, ⟨bs, ab, cb⟩⟩ w1 ⟨ho, hbl, hi, hq, hr, kk⟩
  dsimp only at ho hbl hi hq hr kk ⊢
  have zk := kk.size
  refine WC.seq (WC.seq (WC.region (WL.move rfl rfl (WL.len Tryd.underlying26 rfl rfl (?_)))))
  refine WL.gtr? rfl rfl rfl (fun h11 => ?_) (fun h11 => ?_)
  ·
    refine WL.nil (WX.then_normal (WC.cond_true rfl (WC.skip (WX.then_normal (WC.block (WC.seq (WC.region (?_))))))))
    refine WL.move rfl rfl (?_)
    obtain ⟨x, bs', rfl⟩ : ∃ x bs', bs = x :: bs' := by cases bs with | nil => simp at h11 | cons x r => exact ⟨x, r, rfl⟩
    have hx : (x :: bs')[0]? = some x := rfl
    have hxl := x.toNat_lt
    refine WL.indexT Tryd.underlying26 Tryd.sizeOf5 hr rfl rfl ⟨hx, rfl⟩ rfl ?_
    intro b_1 o_1 hc_1
    refine WL.load Tryd.isAgg5 rfl (hc_1 0 _ rfl) rfl (WL.assign rfl rfl (WL.nil (WX.then_normal (WC.seq (WC.region (WL.move rfl rfl (?_)))))))
    refine WL.slice (l := 1) (h := (x :: bs').length) (j := .i64) Tryd.underlying26 Tryd.sizeOf5 hr rfl (.inl rfl) (.inr ⟨rfl, rfl⟩) (by simp) rfl ?_
    intro a_hb c_hb hb n_hb
    have e1 : (List.drop 1 (List.take (x :: bs').length (x :: bs'))) = bs' := by simp
    rw [e1] at hb ⊢
    have hxb : bs'.length + 1 ≤ b.length := by simpa using hbl
    have hlb : bs'.length ≤ 140737488351232 := by omega
    refine WL.call eg_95 rfl rfl (counted_calls hb (by omega)) ?_
    rintro v w2 ⟨(⟨u, r, ar, cr, rfl, hc, hr2⟩ | ⟨rfl, hc⟩), k2⟩
    ·
      have zs_k2 := k2.size
      replace hr := hr.pure k2
      replace kk := kk.pure k2
      replace hq := hq.pure k2
      replace hb := hb.pure k2
      have hrb := (ctd_bound bs' 0 (by omega) hc).2.2
      have e64 : ((B64 (r.length : Int)).toNat : Int) = r.length := by rw [B64_nat (by omega)]
      refine WL.move rfl rfl (WL.extract rfl rfl rfl (WL.extract rfl rfl rfl (WL.extract rfl rfl rfl (WL.assign rfl rfl (WL.assign rfl rfl (WL.assign rfl rfl (WL.nil (?_))))))))
      refine WX.then_normal (WC.block (WC.seq (WC.region (WL.move rfl rfl (WL.not rfl rfl (WL.move rfl rfl (WL.want rfl rfl rfl (?_))))))))
      refine WL.move rfl rfl (WL.want rfl rfl rfl (WL.len Tryd.underlying76 rfl rfl (WL.want rfl rfl rfl (?_))))
      refine WL.eql? rfl rfl rfl (fun h28 => ?_) (fun h28 => ?_)
      ·
        refine WL.pickF rfl rfl rfl (WL.assign rfl rfl (WL.nil (WX.then_normal (WC.cond_true rfl (WC.seq (WC.region (WL.assign rfl rfl (?_))))))))
        refine WL.assign rfl rfl (WL.nil (WX.then_normal (WC.ret (WX.block_ret (WX.block_ret (WX.then_ret (WX.block_ret (?_))))))))
        refine WX.then_ret (?_)
        refine WX.ret2 (.inl rfl) Tryd.results70 rfl rfl ?_
        first
          | (refine ⟨_, rfl, .inl ⟨out, a1, c1, rfl, ?_, hq⟩, kk⟩
             have : bs = [] := List.eq_nil_of_length_eq_zero (by omega)
             subst this
             exact decI_end hi)
          | (refine ⟨_, rfl, .inr ⟨rfl, decI_bad hi ?_⟩, kk⟩
             first
               | exact dec_none hc
               | (rw [dec_some hc]
                  first
                    | (rw [if_pos (by omega)]; done)
                    | (rw [if_neg (by omega), if_neg (by omega), if_neg (by omega)])))
      ·
        refine WL.pickF rfl rfl rfl (WL.assign rfl rfl (WL.nil (WX.then_normal (WC.cond_false rfl (WC.seq (WC.region (WL.move rfl rfl (?_))))))))
        refine WL.eql? rfl rfl rfl (fun h32 => ?_) (fun h32 => ?_)
        ·
          refine WL.assign rfl rfl (WL.nil (WX.then_normal (WC.cond_true rfl (WC.seq (WC.region (WL.move rfl rfl (WL.move rfl rfl (?_))))))))
          refine WL.num rfl rfl (n_shr64 _ _ _ _ 1 (by decide)) rfl (?_)
          refine WL.c_u64_i64s (n := u.toNat / 2) Tryd.underlying44 Tryd.underlying3 rfl ⟨shr1 u, by have := u.toNat_lt; omega⟩ rfl ?_
          refine WL.move rfl rfl (WL.num rfl rfl (n_and64 _ _ _ 1) rfl (?_))
          refine WL.c_u64_i64s (n := u.toNat % 2) Tryd.underlying44 Tryd.underlying3 rfl ⟨and1 u, by omega⟩ rfl ?_
          refine WL.neg64 rfl (by first | omega | (constructor <;> omega)) rfl (?_)
          refine WL.num rfl rfl (n_xornegb _ _ (u.toNat / 2) (u.toNat % 2) (by omega) (by have := u.toNat_lt; omega)) rfl ?_
          refine WL.bld rfl (bld_75_0_1 _ _) rfl (?_)
          refine WL.build (e := eit) [⟨1, unz u.toNat, ⟨#[]⟩⟩] Tryd.underlying76 Tryd.sizeOf75 Tryd.zeroValue75 rfl rfl rfl (by first | (simp [Value.cells]; done) | (simp [Value.cells] <;> rfl) | (simp [Value.cells, eb, ei, es, ebool, e32, e64]; done) | (simp [Value.cells] <;> (repeat' apply And.intro) <;> rfl)) (by decide) rfl ?_
          intro a_hn w_hn hn l_hn z_hn k_hn
          have zs_k_hn := k_hn.size
          replace hr := hr.pure k_hn
          replace kk := kk.pure k_hn
          replace hq := hq.pure k_hn
          replace hb := hb.pure k_hn
          replace hr2 := hr2.pure k_hn
          refine WL.append (e := eit) info_75 rfl Tryd.underlying76 rfl rfl hq (hn.rsl.src Tryd.underlying76) (by (try simp only [List.length_append, List.length_cons, List.length_nil] at *); omega) (by intro b hb; first | (apply hS; omega) | ((try dsimp only); omega)) rfl ?_
          intro a_hq2 c_hq2 w_hq2 hq2 g_hq2 n_hq2
          have z_hq2 := g_hq2.chg.size
          have zs_g_hq2_chg := g_hq2.chg.size
          replace hr := hr.chg g_hq2.chg (by first | (intro x h1 h2; exact h2) | (intro x h0 h1 h2; exact hS x h1 h2) | (intro x h0 h1 h2; have h3 : _ = _ := h2; subst h3; exact hSR h1.1) | (intro x h1 h2; have h3 : _ = _ := h2; subst h3; assumption) | (intro x h1 h2; have h3 : _ = _ := h2; exfalso; omega) | (intro b h1 h2 h3; have h4 : _ = _ := h3; (try dsimp only at h2); exfalso; omega) | (intro h1; have h2 : _ = _ := h1; exfalso; omega) | (intro h1; have h2 : _ ≤ _ := h1; exfalso; omega) | (intros; exfalso; (try dsimp only at *); omega) | (intro b h1 h2 h3; exfalso; have h4 := h3.2; (try dsimp only at *); omega) | (intro h1; exfalso; have h4 := h1.2; (try dsimp only at *); omega) | (intro x h1 h2; exfalso; have h4 := h2.2; (try dsimp only at *); omega) | (intro x h1 h2; exact ⟨_, rfl, h2⟩) | (intro x h1 h2; have h4 := h2.1; have h5 := h2.2; exfalso; omega) | (intro x h1 h2; exact h2.1) | (intro x h1 h2; rcases h2.1 with h3 | h3; exact h3; exfalso; omega) | (intro x h1 h2; rcases h2 with h3 | h3; exact h3; exfalso; omega))
          replace kk := kk.chg g_hq2.chg (by first | (intro x h1 h2; exact h2) | (intro x h0 h1 h2; exact hS x h1 h2) | (intro x h0 h1 h2; have h3 : _ = _ := h2; subst h3; exact hSR h1.1) | (intro x h1 h2; have h3 : _ = _ := h2; subst h3; assumption) | (intro x h1 h2; have h3 : _ = _ := h2; exfalso; omega) | (intro b h1 h2 h3; have h4 : _ = _ := h3; (try dsimp only at h2); exfalso; omega) | (intro h1; have h2 : _ = _ := h1; exfalso; omega) | (intro h1; have h2 : _ ≤ _ := h1; exfalso; omega) | (intros; exfalso; (try dsimp only at *); omega) | (intro b h1 h2 h3; exfalso; have h4 := h3.2; (try dsimp only at *); omega) | (intro h1; exfalso; have h4 := h1.2; (try dsimp only at *); omega) | (intro x h1 h2; exfalso; have h4 := h2.2; (try dsimp only at *); omega) | (intro x h1 h2; exact ⟨_, rfl, h2⟩) | (intro x h1 h2; have h4 := h2.1; have h5 := h2.2; exfalso; omega) | (intro x h1 h2; exact h2.1) | (intro x h1 h2; rcases h2.1 with h3 | h3; exact h3; exfalso; omega) | (intro x h1 h2; rcases h2 with h3 | h3; exact h3; exfalso; omega))
          replace hb := hb.chg g_hq2.chg (by first | (intro x h1 h2; exact h2) | (intro x h0 h1 h2; exact hS x h1 h2) | (intro x h0 h1 h2; have h3 : _ = _ := h2; subst h3; exact hSR h1.1) | (intro x h1 h2; have h3 : _ = _ := h2; subst h3; assumption) | (intro x h1 h2; have h3 : _ = _ := h2; exfalso; omega) | (intro b h1 h2 h3; have h4 : _ = _ := h3; (try dsimp only at h2); exfalso; omega) | (intro h1; have h2 : _ = _ := h1; exfalso; omega) | (intro h1; have h2 : _ ≤ _ := h1; exfalso; omega) | (intros; exfalso; (try dsimp only at *); omega) | (intro b h1 h2 h3; exfalso; have h4 := h3.2; (try dsimp only at *); omega) | (intro h1; exfalso; have h4 := h1.2; (try dsimp only at *); omega) | (intro x h1 h2; exfalso; have h4 := h2.2; (try dsimp only at *); omega) | (intro x h1 h2; exact ⟨_, rfl, h2⟩) | (intro x h1 h2; have h4 := h2.1; have h5 := h2.2; exfalso; omega) | (intro x h1 h2; exact h2.1) | (intro x h1 h2; rcases h2.1 with h3 | h3; exact h3; exfalso; omega) | (intro x h1 h2; rcases h2 with h3 | h3; exact h3; exfalso; omega))
          replace hr2 := hr2.chg g_hq2.chg (by first | (intro x h1 h2; exact h2) | (intro x h0 h1 h2; exact hS x h1 h2) | (intro x h0 h1 h2; have h3 : _ = _ := h2; subst h3; exact hSR h1.1) | (intro x h1 h2; have h3 : _ = _ := h2; subst h3; assumption) | (intro x h1 h2; have h3 : _ = _ := h2; exfalso; omega) | (intro b h1 h2 h3; have h4 : _ = _ := h3; (try dsimp only at h2); exfalso; omega) | (intro h1; have h2 : _ = _ := h1; exfalso; omega) | (intro h1; have h2 : _ ≤ _ := h1; exfalso; omega) | (intros; exfalso; (try dsimp only at *); omega) | (intro b h1 h2 h3; exfalso; have h4 := h3.2; (try dsimp only at *); omega) | (intro h1; exfalso; have h4 := h1.2; (try dsimp only at *); omega) | (intro x h1 h2; exfalso; have h4 := h2.2; (try dsimp only at *); omega) | (intro x h1 h2; exact ⟨_, rfl, h2⟩) | (intro x h1 h2; have h4 := h2.1; have h5 := h2.2; exfalso; omega) | (intro x h1 h2; exact h2.1) | (intro x h1 h2; rcases h2.1 with h3 | h3; exact h3; exfalso; omega) | (intro x h1 h2; rcases h2 with h3 | h3; exact h3; exfalso; omega))
          refine WL.assign rfl rfl (WL.nil (WX.then_normal (WC.region (WL.move rfl rfl (WL.assign rfl rfl (WL.nil (WX.block_normal (?_))))))))
          refine WX.block_normal (?_)
          first
            | (refine WX.loop_next ((out ++ [⟨2, 0, ⟨(List.drop 0 (List.take u.toNat r)).toArray⟩⟩], a_hq2, c_hq2), (List.drop u.toNat (List.take r.length r), a_ht, c_ht)) ⟨rfl, rfl, trivial⟩ ⟨by dsimp only; simp; omega, by dsimp only; simp; omega, ?_, hq2, ht, kk⟩ (by show (List.drop u.toNat (List.take r.length r)).length < (x :: bs').length; simp; omega)
               have e1 : List.drop u.toNat (List.take r.length r) = r.drop u.toNat := by simp
               rw [e1]
               refine decI_step hi ?_
               rw [dec_some hc, if_neg (by omega), if_neg (by omega), if_pos (by omega)]
               rfl)
            | (refine WX.loop_next ((out ++ [⟨1, unz u.toNat, ⟨#[]⟩⟩], a_hq2, c_hq2), (r, ar, cr)) ⟨rfl, rfl, trivial⟩ ⟨by dsimp only; simp; omega, by dsimp only; omega, ?_, hq2, hr2, kk⟩ (by show r.length < (x :: bs').length; simp; omega)
               refine decI_step hi ?_
               rw [dec_some hc, if_neg (by omega), if_pos (by omega)])
        ·
          refine WL.assign rfl rfl (WL.nil (WX.then_normal (WC.cond_false rfl (WC.seq (WC.region (WL.move rfl rfl (?_)))))))
          refine WL.eql? rfl rfl rfl (fun h48 => ?_) (fun h48 => ?_)
          ·
            refine WL.move rfl rfl (WL.want rfl rfl rfl (WL.move rfl rfl (WL.want rfl rfl rfl (?_))))
            refine WL.leq? rfl rfl rfl (fun h51 => ?_) (fun h51 => ?_)
            ·
              refine WL.pickT rfl rfl rfl (WL.move rfl rfl (WL.want rfl rfl rfl (WL.move rfl rfl (WL.want rfl rfl rfl (WL.move rfl rfl (WL.want rfl rfl rfl (WL.len Tryd.underlying26 rfl rfl (?_))))))))
              refine WL.want rfl rfl rfl (WL.c_i64_u64 Tryd.underlying3 Tryd.underlying44 rfl rfl (WL.want rfl rfl rfl (?_)))
              refine WL.leq? rfl rfl rfl (fun h58 => ?_) (fun h58 => ?_)
              ·
                refine WL.pickT rfl rfl rfl (WL.assign rfl rfl (WL.nil (WX.then_normal (WC.cond_true rfl (WC.seq (WC.region (WL.move rfl rfl (?_))))))))
                refine WL.move rfl rfl (WL.move rfl rfl (?_))
                refine WL.slice (l := 0) (h := u.toNat) (k := .i64) Tryd.underlying26 Tryd.sizeOf5 hr2 rfl (.inr ⟨rfl, rfl⟩) (.inl rfl) (by constructor <;> omega) rfl ?_
                intro a_hs c_hs hs n_hs
                refine WL.toStr Tryd.underlying26 Tryd.underlying5 Tryd.underlying9 hs rfl rfl ?_
                refine WL.bld rfl (bld_75_0_2 _ _) rfl (?_)
                refine WL.build (e := eit) [⟨2, 0, ⟨(List.drop 0 (List.take u.toNat r)).toArray⟩⟩] Tryd.underlying76 Tryd.sizeOf75 Tryd.zeroValue75 rfl rfl rfl (by first | (simp [Value.cells]; done) | (simp [Value.cells] <;> rfl) | (simp [Value.cells, eb, ei, es, ebool, e32, e64]; done) | (simp [Value.cells] <;> (repeat' apply And.intro) <;> rfl)) (by decide) rfl ?_
                intro a_hn w_hn hn l_hn z_hn k_hn
                have zs_k_hn := k_hn.size
                replace hr := hr.pure k_hn
                replace kk := kk.pure k_hn
                replace hq := hq.pure k_hn
                replace hb := hb.pure k_hn
                replace hr2 := hr2.pure k_hn
                replace hs := hs.pure k_hn
                refine WL.append (e := eit) info_75 rfl Tryd.underlying76 rfl rfl hq (hn.rsl.src Tryd.underlying76) (by (try simp only [List.length_append, List.length_cons, List.length_nil] at *); omega) (by intro b hb; first | (apply hS; omega) | ((try dsimp only); omega)) rfl ?_
                intro a_hq2 c_hq2 w_hq2 hq2 g_hq2 n_hq2
                have z_hq2 := g_hq2.chg.size
                have zs_g_hq2_chg := g_hq2.chg.size
                replace hr := hr.chg g_hq2.chg (by first | (intro x h1 h2; exact h2) | (intro x h0 h1 h2; exact hS x h1 h2) | (intro x h0 h1 h2; have h3 : _ = _ := h2; subst h3; exact hSR h1.1) | (intro x h1 h2; have h3 : _ = _ := h2; subst h3; assumption) | (intro x h1 h2; have h3 : _ = _ := h2; exfalso; omega) | (intro b h1 h2 h3; have h4 : _ = _ := h3; (try dsimp only at h2); exfalso; omega) | (intro h1; have h2 : _ = _ := h1; exfalso; omega) | (intro h1; have h2 : _ ≤ _ := h1; exfalso; omega) | (intros; exfalso; (try dsimp only at *); omega) | (intro b h1 h2 h3; exfalso; have h4 := h3.2; (try dsimp only at *); omega) | (intro h1; exfalso; have h4 := h1.2; (try dsimp only at *); omega) | (intro x h1 h2; exfalso; have h4 := h2.2; (try dsimp only at *); omega) | (intro x h1 h2; exact ⟨_, rfl, h2⟩) | (intro x h1 h2; have h4 := h2.1; have h5 := h2.2; exfalso; omega) | (intro x h1 h2; exact h2.1) | (intro x h1 h2; rcases h2.1 with h3 | h3; exact h3; exfalso; omega) | (intro x h1 h2; rcases h2 with h3 | h3; exact h3; exfalso; omega))
                replace kk := kk.chg g_hq2.chg (by first | (intro x h1 h2; exact h2) | (intro x h0 h1 h2; exact hS x h1 h2) | (intro x h0 h1 h2; have h3 : _ = _ := h2; subst h3; exact hSR h1.1) | (intro x h1 h2; have h3 : _ = _ := h2; subst h3; assumption) | (intro x h1 h2; have h3 : _ = _ := h2; exfalso; omega) | (intro b h1 h2 h3; have h4 : _ = _ := h3; (try dsimp only at h2); exfalso; omega) | (intro h1; have h2 : _ = _ := h1; exfalso; omega) | (intro h1; have h2 : _ ≤ _ := h1; exfalso; omega) | (intros; exfalso; (try dsimp only at *); omega) | (intro b h1 h2 h3; exfalso; have h4 := h3.2; (try dsimp only at *); omega) | (intro h1; exfalso; have h4 := h1.2; (try dsimp only at *); omega) | (intro x h1 h2; exfalso; have h4 := h2.2; (try dsimp only at *); omega) | (intro x h1 h2; exact ⟨_, rfl, h2⟩) | (intro x h1 h2; have h4 := h2.1; have h5 := h2.2; exfalso; omega) | (intro x h1 h2; exact h2.1) | (intro x h1 h2; rcases h2.1 with h3 | h3; exact h3; exfalso; omega) | (intro x h1 h2; rcases h2 with h3 | h3; exact h3; exfalso; omega))
                replace hb := hb.chg g_hq2.chg (by first | (intro x h1 h2; exact h2) | (intro x h0 h1 h2; exact hS x h1 h2) | (intro x h0 h1 h2; have h3 : _ = _ := h2; subst h3; exact hSR h1.1) | (intro x h1 h2; have h3 : _ = _ := h2; subst h3; assumption) | (intro x h1 h2; have h3 : _ = _ := h2; exfalso; omega) | (intro b h1 h2 h3; have h4 : _ = _ := h3; (try dsimp only at h2); exfalso; omega) | (intro h1; have h2 : _ = _ := h1; exfalso; omega) | (intro h1; have h2 : _ ≤ _ := h1; exfalso; omega) | (intros; exfalso; (try dsimp only at *); omega) | (intro b h1 h2 h3; exfalso; have h4 := h3.2; (try dsimp only at *); omega) | (intro h1; exfalso; have h4 := h1.2; (try dsimp only at *); omega) | (intro x h1 h2; exfalso; have h4 := h2.2; (try dsimp only at *); omega) | (intro x h1 h2; exact ⟨_, rfl, h2⟩) | (intro x h1 h2; have h4 := h2.1; have h5 := h2.2; exfalso; omega) | (intro x h1 h2; exact h2.1) | (intro x h1 h2; rcases h2.1 with h3 | h3; exact h3; exfalso; omega) | (intro x h1 h2; rcases h2 with h3 | h3; exact h3; exfalso; omega))
                replace hr2 := hr2.chg g_hq2.chg (by first | (intro x h1 h2; exact h2) | (intro x h0 h1 h2; exact hS x h1 h2) | (intro x h0 h1 h2; have h3 : _ = _ := h2; subst h3; exact hSR h1.1) | (intro x h1 h2; have h3 : _ = _ := h2; subst h3; assumption) | (intro x h1 h2; have h3 : _ = _ := h2; exfalso; omega) | (intro b h1 h2 h3; have h4 : _ = _ := h3; (try dsimp only at h2); exfalso; omega) | (intro h1; have h2 : _ = _ := h1; exfalso; omega) | (intro h1; have h2 : _ ≤ _ := h1; exfalso; omega) | (intros; exfalso; (try dsimp only at *); omega) | (intro b h1 h2 h3; exfalso; have h4 := h3.2; (try dsimp only at *); omega) | (intro h1; exfalso; have h4 := h1.2; (try dsimp only at *); omega) | (intro x h1 h2; exfalso; have h4 := h2.2; (try dsimp only at *); omega) | (intro x h1 h2; exact ⟨_, rfl, h2⟩) | (intro x h1 h2; have h4 := h2.1; have h5 := h2.2; exfalso; omega) | (intro x h1 h2; exact h2.1) | (intro x h1 h2; rcases h2.1 with h3 | h3; exact h3; exfalso; omega) | (intro x h1 h2; rcases h2 with h3 | h3; exact h3; exfalso; omega))
                replace hs := hs.chg g_hq2.chg (by first | (intro x h1 h2; exact h2) | (intro x h0 h1 h2; exact hS x h1 h2) | (intro x h0 h1 h2; have h3 : _ = _ := h2; subst h3; exact hSR h1.1) | (intro x h1 h2; have h3 : _ = _ := h2; subst h3; assumption) | (intro x h1 h2; have h3 : _ = _ := h2; exfalso; omega) | (intro b h1 h2 h3; have h4 : _ = _ := h3; (try dsimp only at h2); exfalso; omega) | (intro h1; have h2 : _ = _ := h1; exfalso; omega) | (intro h1; have h2 : _ ≤ _ := h1; exfalso; omega) | (intros; exfalso; (try dsimp only at *); omega) | (intro b h1 h2 h3; exfalso; have h4 := h3.2; (try dsimp only at *); omega) | (intro h1; exfalso; have h4 := h1.2; (try dsimp only at *); omega) | (intro x h1 h2; exfalso; have h4 := h2.2; (try dsimp only at *); omega) | (intro x h1 h2; exact ⟨_, rfl, h2⟩) | (intro x h1 h2; have h4 := h2.1; have h5 := h2.2; exfalso; omega) | (intro x h1 h2; exact h2.1) | (intro x h1 h2; rcases h2.1 with h3 | h3; exact h3; exfalso; omega) | (intro x h1 h2; rcases h2 with h3 | h3; exact h3; exfalso; omega))
                refine WL.assign rfl rfl (WL.nil (WX.then_normal (WC.region (WL.move rfl rfl (WL.move rfl rfl (?_))))))
                refine WL.slice (l := u.toNat) (h := r.length) (j := .i64) Tryd.underlying26 Tryd.sizeOf5 hr2 rfl (.inl rfl) (.inr ⟨rfl, rfl⟩) (by constructor <;> omega) rfl ?_
                intro a_ht c_ht ht n_ht
                refine WL.assign rfl rfl (WL.nil (WX.block_normal (WX.block_normal (?_))))
                first
                  | (refine WX.loop_next ((out ++ [⟨2, 0, ⟨(List.drop 0 (List.take u.toNat r)).toArray⟩⟩], a_hq2, c_hq2), (List.drop u.toNat (List.take r.length r), a_ht, c_ht)) ⟨rfl, rfl, trivial⟩ ⟨by dsimp only; simp; omega, by dsimp only; simp; omega, ?_, hq2, ht, kk⟩ (by show (List.drop u.toNat (List.take r.length r)).length < (x :: bs').length; simp; omega)
                     have e1 : List.drop u.toNat (List.take r.length r) = r.drop u.toNat := by simp
                     rw [e1]
                     refine decI_step hi ?_
                     rw [dec_some hc, if_neg (by omega), if_neg (by omega), if_pos (by omega)]
                     rfl)
                  | (refine WX.loop_next ((out ++ [⟨1, unz u.toNat, ⟨#[]⟩⟩], a_hq2, c_hq2), (r, ar, cr)) ⟨rfl, rfl, trivial⟩ ⟨by dsimp only; simp; omega, by dsimp only; omega, ?_, hq2, hr2, kk⟩ (by show r.length < (x :: bs').length; simp; omega)
                     refine decI_step hi ?_
                     rw [dec_some hc, if_neg (by omega), if_pos (by omega)])
              ·
                refine WL.pickT rfl rfl rfl (WL.assign rfl rfl (WL.nil (WX.then_normal (WC.cond_false rfl (WC.seq (WC.region (WL.assign rfl rfl (?_))))))))
                refine WL.assign rfl rfl (WL.nil (WX.then_normal (WC.ret (WX.block_ret (WX.block_ret (WX.then_ret (WX.block_ret (?_))))))))
                refine WX.then_ret (?_)
                refine WX.ret2 (.inl rfl) Tryd.results70 rfl rfl ?_
                first
                  | (refine ⟨_, rfl, .inl ⟨out, a1, c1, rfl, ?_, hq⟩, kk⟩
                     have : bs = [] := List.eq_nil_of_length_eq_zero (by omega)
                     subst this
                     exact decI_end hi)
                  | (refine ⟨_, rfl, .inr ⟨rfl, decI_bad hi ?_⟩, kk⟩
                     first
                       | exact dec_none hc
                       | (rw [dec_some hc]
                          first
                            | (rw [if_pos (by omega)]; done)
                            | (rw [if_neg (by omega), if_neg (by omega), if_neg (by omega)])))
            ·
              refine WL.pickT rfl rfl rfl (WL.move rfl rfl (WL.pass rfl rfl rfl rfl (WL.pass rfl rfl rfl rfl (WL.pass rfl rfl rfl rfl (WL.pass rfl rfl rfl rfl (WL.pass rfl rfl rfl rfl (WL.pickF rfl rfl rfl (?_))))))))
              refine WL.assign rfl rfl (WL.nil (WX.then_normal (WC.cond_false rfl (WC.seq (WC.region (WL.assign rfl rfl (WL.assign rfl rfl (?_))))))))
              refine WL.nil (WX.then_normal (WC.ret (WX.block_ret (WX.block_ret (WX.then_ret (WX.block_ret (WX.then_ret (?_))))))))
              refine WX.ret2 (.inl rfl) Tryd.results70 rfl rfl ?_
              first
                | (refine ⟨_, rfl, .inl ⟨out, a1, c1, rfl, ?_, hq⟩, kk⟩
                   have : bs = [] := List.eq_nil_of_length_eq_zero (by omega)
                   subst this
                   exact decI_end hi)
                | (refine ⟨_, rfl, .inr ⟨rfl, decI_bad hi ?_⟩, kk⟩
                   first
                     | exact dec_none hc
                     | (rw [dec_some hc]
                        first
                          | (rw [if_pos (by omega)]; done)
                          | (rw [if_neg (by omega), if_neg (by omega), if_neg (by omega)])))
          ·
            refine WL.move rfl rfl (WL.pass rfl rfl rfl rfl (WL.pass rfl rfl rfl rfl (WL.pickF rfl rfl rfl (WL.move rfl rfl (WL.pass rfl rfl rfl rfl (WL.pass rfl rfl rfl rfl (WL.pass rfl rfl rfl rfl (?_))))))))
            refine WL.pass rfl rfl rfl rfl (WL.pass rfl rfl rfl rfl (WL.pickF rfl rfl rfl (WL.assign rfl rfl (WL.nil (WX.then_normal (WC.cond_false rfl (WC.seq (?_))))))))
            refine WC.region (WL.assign rfl rfl (WL.assign rfl rfl (WL.nil (WX.then_normal (WC.ret (WX.block_ret (WX.block_ret (?_))))))))
            refine WX.then_ret (WX.block_ret (WX.then_ret (?_)))
            refine WX.ret2 (.inl rfl) Tryd.results70 rfl rfl ?_
            first
              | (refine ⟨_, rfl, .inl ⟨out, a1, c1, rfl, ?_, hq⟩, kk⟩
                 have : bs = [] := List.eq_nil_of_length_eq_zero (by omega)
                 subst this
                 exact decI_end hi)
              | (refine ⟨_, rfl, .inr ⟨rfl, decI_bad hi ?_⟩, kk⟩
                 first
                   | exact dec_none hc
                   | (rw [dec_some hc]
                      first
                        | (rw [if_pos (by omega)]; done)
                        | (rw [if_neg (by omega), if_neg (by omega), if_neg (by omega)])))
    ·
      have zs_k2 := k2.size
      replace hr := hr.pure k2
      replace kk := kk.pure k2
      replace hq := hq.pure k2
      replace hb := hb.pure k2
      refine WL.move rfl rfl (WL.extract rfl rfl rfl (WL.extract rfl rfl rfl (WL.extract rfl rfl rfl (WL.assign rfl rfl (WL.assign rfl rfl (WL.assign rfl rfl (WL.nil (?_))))))))
      refine WX.then_normal (WC.block (WC.seq (WC.region (WL.move rfl rfl (WL.not rfl rfl (WL.move rfl rfl (WL.pass rfl rfl rfl rfl (?_))))))))
      refine WL.pass rfl rfl rfl rfl (WL.pass rfl rfl rfl rfl (WL.pickT rfl rfl rfl (WL.assign rfl rfl (WL.nil (WX.then_normal (WC.cond_true rfl (WC.seq (?_))))))))
      refine WC.region (WL.assign rfl rfl (WL.assign rfl rfl (WL.nil (WX.then_normal (WC.ret (WX.block_ret (WX.block_ret (?_))))))))
      refine WX.then_ret (WX.block_ret (WX.then_ret (?_)))
      refine WX.ret2 (.inl rfl) Tryd.results70 rfl rfl ?_
      first
        | (refine ⟨_, rfl, .inl ⟨out, a1, c1, rfl, ?_, hq⟩, kk⟩
           have : bs = [] := List.eq_nil_of_length_eq_zero (by omega)
           subst this
           exact decI_end hi)
        | (refine ⟨_, rfl, .inr ⟨rfl, decI_bad hi ?_⟩, kk⟩
           first
             | exact dec_none hc
             | (rw [dec_some hc]
                first
                  | (rw [if_pos (by omega)]; done)
                  | (rw [if_neg (by omega), if_neg (by omega), if_neg (by omega)])))
  ·
    refine WL.nil (WX.then_normal (WC.cond_false rfl (WC.exit (WX.then_exit (WX.then_exit (WX.block_here (WX.then_normal (?_))))))))
    refine WC.seq (WC.region (WL.move rfl rfl (WL.assign rfl rfl (WL.assign rfl rfl (WL.nil (WX.then_normal (WC.ret (?_))))))))
    refine WX.ret2 (.inl rfl) Tryd.results70 rfl rfl ?_
    first
      | (refine ⟨_, rfl, .inl ⟨out, a1, c1, rfl, ?_, hq⟩, kk⟩
         have : bs = [] := List.eq_nil_of_length_eq_zero (by omega)
         subst this
         exact decI_end hi)
      | (refine ⟨_, rfl, .inr ⟨rfl, decI_bad hi ?_⟩, kk⟩
         first
           | exact dec_none hc
           | (rw [dec_some hc]
              first
                | (rw [if_pos (by omega)]; done)
                | (rw [if_neg (by omega), if_neg (by omega), if_neg (by omega)])))
end Go.Proofs.YtjeldcjchipdgaaDoor
namespace Go.Proofs.YtjeldcjchipdgaaDoor
open Go.RowKit Go.HL
set_option maxRecDepth 100000

theorem eqg_item : Tryd.prog.eqGuardType Tryd.prog.depth 75 = false := by kernel_rfl
theorem eq_item (a b : Item) (w : World) : (Op.equalIn 10000 75 (.agg (eit.f a).toArray) (.agg (eit.f b).toArray)).run Tryd.prog w = .ok (decide (a = b)) w := by
  refine eqA_of (d := 9999) Tryd.underlying75 (by kernel_rfl) ?_
  have h3 : (decide (a.kind = b.kind) && (decide (a.n = b.n) && (decide (a.s = b.s) && true))) = decide (a = b) := by
    have : decide (a = b) = decide (a.kind = b.kind ∧ a.n = b.n ∧ a.s = b.s) := decide_eq_decide.2 (Item.eq_iff a b).symm
    rw [this]
    simp [Bool.decide_and]
  rw [← h3]
  refine eqf_cons rfl (part1 Tryd.sizeOf3 Tryd.isAgg3 rfl) (part1 Tryd.sizeOf3 Tryd.isAgg3 rfl) (run_equalIn_int w 9998 _ _ _ _ _ Tryd.underlying3) ?_
  refine eqf_cons rfl (part1 Tryd.sizeOf3 Tryd.isAgg3 rfl) (part1 Tryd.sizeOf3 Tryd.isAgg3 rfl) (run_equalIn_int w 9998 _ _ _ _ _ Tryd.underlying3) ?_
  refine eqf_cons rfl (part1 Tryd.sizeOf9 Tryd.isAgg9 rfl) (part1 Tryd.sizeOf9 Tryd.isAgg9 rfl) (by rw [← beq_bytes]; exact run_equalIn_string w 9998 _ _ _ Tryd.underlying9) eqf_nil

end Go.Proofs.YtjeldcjchipdgaaDoor
namespace Go.Proofs.YtjeldcjchipdgaaDoor
open Go.RowKit Go.HL
set_option maxRecDepth 100000

/-! numbers: the document's count -/
def zig (n : Int) : Nat := if n < 0 then (-2 * n - 1).toNat else (2 * n).toNat
theorem zigU_zig {n : Int} (h : -9223372036854775808 ≤ n ∧ n ≤ 9223372036854775807) : (zigU n).toNat = zig n := by
  unfold zigU zig
  rw [UInt64.toNat_xor, UInt64.toNat_shiftLeft]
  have e1 : (UInt64.ofNat 1).toNat % 64 = 1 := by decide
  rw [e1, Nat.shiftLeft_eq]
  split
  · have e2 : n / 2 ^ 63 = -1 := by omega
    have e3 : (B64 (n / 2 ^ 63)).toNat = 18446744073709551615 := by rw [e2]; decide
    have e4 : (B64 n).toNat = (n + 18446744073709551616).toNat := by simp [B64]; omega
    rw [e3, e4]
    have e5 : (n + 18446744073709551616).toNat * 2 ^ 1 % 2 ^ 64 = (2 * n + 18446744073709551616).toNat := by omega
    rw [e5]
    have hlt : (2 * n + 18446744073709551616).toNat < 2 ^ 64 := by omega
    have e6 : (2 * n + 18446744073709551616).toNat ^^^ 18446744073709551615 = 18446744073709551615 - (2 * n + 18446744073709551616).toNat := by
      have := BitVec.toNat_not (x := BitVec.ofNat 64 (2 * n + 18446744073709551616).toNat)
      rw [BitVec.toNat_ofNat, Nat.mod_eq_of_lt hlt] at this
      rw [← BitVec.xor_allOnes, BitVec.toNat_xor, BitVec.toNat_ofNat, Nat.mod_eq_of_lt hlt, BitVec.toNat_allOnes] at this
      exact this
    rw [e6]
    omega
  · have e2 : n / 2 ^ 63 = 0 := by omega
    have e3 : (B64 (n / 2 ^ 63)).toNat = 0 := by rw [e2]; decide
    have e4 : (B64 n).toNat = n.toNat := by simp [B64]; omega
    rw [e3, e4, Nat.xor_zero]
    omega
def RIt (i : Item) : Prop := -9223372036854775808 ≤ i.n ∧ i.n ≤ 9223372036854775807
/-- the document's bytes of an item -/
def renc1 (i : Item) : List UInt8 := if i.kind = 1 then 1 :: cnt (zig i.n) else 2 :: (cnt i.s.size ++ i.s.data.toList)
theorem renc1_eq {i : Item} (h : okI i = true) (hr : RIt i) : renc1 i = enc1 i := by
  unfold renc1 enc1
  simp only [okI, decide_eq_true_eq] at h
  split
  · rename_i h1
    rw [zigU_zig hr, h1]
    rfl
  · have h1 : i.kind = 2 := by omega
    rw [h1]
    rfl
end Go.Proofs.YtjeldcjchipdgaaDoor
namespace Go.Proofs.YtjeldcjchipdgaaDoor
open Go.RowKit Go.HL
set_option maxRecDepth 100000

def decL (b : List UInt8) : List Item := (dec 0 b).getD []
def decE (b : List UInt8) : Int := if (dec 0 b).isSome then 0 else 2
theorem decode_calls' {w : World} {ao : Option Addr} {c : Nat} {b : List UInt8} (hr : RSl (· < w.heap.size) w eb ao c b) (hl : b.length ≤ 140737488351232) :
    Calls Tryd.prog 70 [.slice ao b.length c].toArray w (Ret fun v w' => (∃ (ao' : Option Addr) (c' : Nat), v = .tuple #[.slice ao' (decL b).length c', vi (decE b)] ∧ Row (w.heap.size ≤ ·) w' 75 eit ao' c' (decL b)) ∧ Chg Nob w w') := by
  refine (decode_calls hr hl).mono ?_
  rintro e w' ⟨v, rfl, (⟨l, ao', c', rfl, h, hq⟩ | ⟨rfl, h⟩), k⟩
  · refine ⟨_, rfl, ⟨ao', c', ?_, ?_⟩, k⟩
    · simp [decL, decE, h]
    · simpa [decL, h] using hq
  · refine ⟨_, rfl, ⟨none, 0, ?_, ?_⟩, k⟩
    · simp [decL, decE, h]
    · simpa [decL, h] using Row.nil _ _ _ _
end Go.Proofs.YtjeldcjchipdgaaDoor
namespace Go.Proofs.YtjeldcjchipdgaaDoor
open Go.RowKit Go.HL
set_option maxRecDepth 100000

/-! what is encoded is decoded, and the other way round -/
theorem ctd_cnt : ∀ (bs : List UInt8) (k : Nat) {c : Nat} {r : List UInt8}, ctd k bs = some (c, r) → bs = cnt c ++ r ∧ (0 < k → 0 < c)
  | [], k, c, r, h => by simp [ctd] at h
  | x :: bs, k, c, r, h => by
    have hx := x.toNat_lt
    unfold ctd at h
    split at h
    · cases h
    · rename_i hn
      split at h
      · rename_i hl
        injection h with h
        injection h with h1 h2
        subst h1; subst h2
        rw [cnt_small hl]
        refine ⟨by simp, by omega⟩
      · rename_i hl
        obtain ⟨⟨c', r'⟩, h1, h2⟩ := Option.map_eq_some_iff.1 h
        injection h2 with h3 h4
        subst h4
        obtain ⟨h5, h6⟩ := ctd_cnt bs (k + 1) h1
        have h7 := h6 (by omega)
        rw [cnt_big (by omega), show c / 128 = c' from by omega, show c % 128 + 128 = x.toNat from by omega]
        refine ⟨?_, by omega⟩
        rw [h5]
        simp
theorem cnt_ctd (c : Nat) : ∀ (k : Nat) (r : List UInt8), k ≤ 9 → c < 2 ^ (64 - 7 * k) → (0 < k → 0 < c) → ctd k (cnt c ++ r) = some (c, r) := by
  induction c using Nat.strongRecOn with
  | _ c ih =>
    intro k r hk hc h0
    by_cases hb : 128 ≤ c
    · have hk8 : k ≤ 8 := by
        have h : k = 9 ∨ k ≤ 8 := by omega
        rcases h with rfl | h
        · simp at hc; omega
        · exact h
      have hlt : c % 128 + 128 < 256 := by omega
      rw [cnt_big hb]
      simp only [List.cons_append, ctd]
      have e : (UInt8.ofNat (c % 128 + 128)).toNat = c % 128 + 128 := by simp; omega
      rw [e, if_neg (by omega), if_neg (by omega), ih (c / 128) (by omega) (k + 1) r (by omega) ?_ (by omega)]
      · simp only [Option.map_some, Option.some.injEq, Prod.mk.injEq, and_true]
        omega
      · rw [Nat.div_lt_iff_lt_mul (by decide)]
        have e2 : 2 ^ (64 - 7 * k) = 2 ^ (64 - 7 * (k + 1)) * 128 := by
          rw [show 64 - 7 * k = (64 - 7 * (k + 1)) + 7 from by omega, Nat.pow_add]
        rw [← e2]; exact hc
    · rw [cnt_small (by omega)]
      have e : (UInt8.ofNat c).toNat = c := by simp; omega
      have h9 : k = 9 → c ≤ 1 := by rintro rfl; simp at hc; omega
      simp only [List.cons_append, List.nil_append, ctd, e]
      rw [if_neg (by omega), if_pos (by omega)]
theorem zig_unz {c : Nat} : zig (unz c) = c := by
  unfold zig unz
  split <;> split <;> omega
theorem unz_zig (n : Int) : unz (zig n) = n := by
  unfold zig unz
  split <;> split <;> omega
theorem unz_range {c : Nat} (h : c < 18446744073709551616) : -9223372036854775808 ≤ unz c ∧ unz c ≤ 9223372036854775807 := by
  unfold unz
  split <;> omega
theorem zig_lt {n : Int} (h : -9223372036854775808 ≤ n ∧ n ≤ 9223372036854775807) : zig n < 18446744073709551616 := by
  unfold zig
  split <;> omega
def Good (i : Item) : Prop := longI i = false ∧ okI i = true ∧ RIt i
theorem encAll_cons (i : Item) (l : List Item) : encAll (i :: l) = enc1 i ++ encAll l := by simp [encAll]
theorem dec_spec (m : Nat) : ∀ (b : List UInt8), b.length ≤ m → ∀ (n : Nat) (l : List Item), n ≤ 2000 → dec n b = some l → n + l.length ≤ 2000 ∧ (∀ i ∈ l, Good i) ∧ encAll l = b := by
  induction m with
  | zero =>
    intro b hb n l hn h
    have : b = [] := List.eq_nil_of_length_eq_zero (by omega)
    subst this
    rw [dec_nil] at h
    injection h with h
    subst h
    exact ⟨by simpa using hn, by simp, rfl⟩
  | succ m ih =>
    intro b hb n l hn h
    cases b with
    | nil =>
      rw [dec_nil] at h
      injection h with h
      subst h
      exact ⟨by simpa using hn, by simp, rfl⟩
    | cons k r =>
      cases hc : ctd 0 r with
      | none => rw [dec_none hc] at h; cases h
      | some p =>
        obtain ⟨c, r'⟩ := p
        obtain ⟨h1, _⟩ := ctd_cnt r 0 hc
        obtain ⟨_, h2, h3⟩ := ctd_bound r 0 (by omega) hc
        simp at hb
        rw [dec_some hc] at h
        split at h
        · cases h
        · rename_i hn2
          split at h
          · rename_i hk
            obtain ⟨l', h4, rfl⟩ := Option.map_eq_some_iff.1 h
            obtain ⟨h5, h6, h7⟩ := ih r' (by omega) (n + 1) l' (by omega) h4
            have hg : Good ⟨1, unz c, ⟨#[]⟩⟩ := ⟨by simp [longI], by simp [okI], unz_range (by simpa using h2)⟩
            refine ⟨by simp; omega, ?_, ?_⟩
            · intro i hi
              rcases List.mem_cons.1 hi with rfl | hi
              · exact hg
              · exact h6 i hi
            · rw [encAll_cons, h7, ← renc1_eq hg.2.1 hg.2.2, renc1, if_pos rfl, zig_unz, h1]
              have : k = 1 := UInt8.toNat_inj.1 hk
              rw [this]
              rfl
          · rename_i hk
            split at h
            · rename_i hk2
              obtain ⟨l', h4, rfl⟩ := Option.map_eq_some_iff.1 h
              obtain ⟨h5, h6, h7⟩ := ih (r'.drop c) (by simp; omega) (n + 1) l' (by omega) h4
              have hsz : (ByteArray.mk (r'.take c).toArray).size = c := by
                show (r'.take c).toArray.size = c
                simp; omega
              have hg : Good ⟨2, 0, ⟨(r'.take c).toArray⟩⟩ := ⟨by simp only [longI, hsz, decide_eq_false_iff_not]; omega, by simp [okI], ⟨show (-9223372036854775808 : Int) ≤ 0 by decide, show (0 : Int) ≤ 9223372036854775807 by decide⟩⟩
              refine ⟨by simp; omega, ?_, ?_⟩
              · intro i hi
                rcases List.mem_cons.1 hi with rfl | hi
                · exact hg
                · exact h6 i hi
              · rw [encAll_cons, h7, ← renc1_eq hg.2.1 hg.2.2, renc1, if_neg (show ¬ ((2 : Int) = 1) by decide)]
                have e0 : k = 2 := UInt8.toNat_inj.1 hk2.1
                have e1 : (ByteArray.mk (r'.take c).toArray).data.toList = r'.take c := rfl
                show 2 :: (cnt (ByteArray.mk (r'.take c).toArray).size ++ (ByteArray.mk (r'.take c).toArray).data.toList) ++ r'.drop c = k :: r
                rw [hsz, e1, e0, h1]
                simp
            · cases h
theorem enc_dec : ∀ (l : List Item) (n : Nat), n + l.length ≤ 2000 → (∀ i ∈ l, Good i) → dec n (encAll l) = some l
  | [], n, _, _ => dec_nil n
  | i :: l, n, hn, hg => by
    obtain ⟨h1, h2, h3⟩ := hg i (by simp)
    have ih := enc_dec l (n + 1) (by simp at hn; omega) (fun j hj => hg j (by simp [hj]))
    simp at hn
    rw [encAll_cons, ← renc1_eq h2 h3, renc1]
    simp only [okI, decide_eq_true_eq] at h2
    split
    · rename_i hk
      have hs : i.s = ⟨#[]⟩ := by
        rcases h2 with h2 | h2
        · exact h2.2
        · omega
      rw [List.cons_append, dec_some (cnt_ctd (zig i.n) 0 (encAll l) (by omega) (zig_lt h3) (by omega)), if_neg (by omega), if_pos (show UInt8.toNat 1 = 1 from rfl), ih, unz_zig]
      obtain ⟨k, m, s⟩ := i
      simp only at hk hs
      subst hk; subst hs
      rfl
    · rename_i hk
      have hk2 : i.kind = 2 ∧ i.n = 0 := by omega
      have hsz : i.s.data.toList.length = i.s.size := by simp
      have h4 : i.s.size ≤ 4000 := by simp only [longI, decide_eq_false_iff_not] at h1; omega
      rw [List.cons_append, List.append_assoc, dec_some (cnt_ctd i.s.size 0 (i.s.data.toList ++ encAll l) (by omega) (by simp; omega) (by omega)), if_neg (by omega), if_neg (by decide), if_pos ⟨rfl, h4, by simp⟩]
      rw [List.drop_append_of_le_length (by omega), List.drop_eq_nil_of_le (by omega), List.nil_append, ih, List.take_append_of_le_length (by omega), List.take_of_length_le (by omega)]
      obtain ⟨k, m, s⟩ := i
      simp only at hk2
      obtain ⟨e1, e2⟩ := hk2
      subst e1; subst e2
      simp
end Go.Proofs.YtjeldcjchipdgaaDoor
namespace Go.Proofs.YtjeldcjchipdgaaDoor
open Go.RowKit Go.HL
set_option maxRecDepth 100000

def JW (n2 bw cw : Nat) (B : List UInt8) (t : Nat) (w' : World) : Prop := RSl (fun x => n2 ≤ x) w' e64 (some ⟨bw, 0, none⟩) cw (WU B t)
theorem JW.pure {n2 bw cw : Nat} {B : List UInt8} {t : Nat} (a b : World) (h : JW n2 bw cw B t a) (k : Chg Nob a b) : JW n2 bw cw B t b := RSl.pure h k
theorem JW.rsl {n2 bw cw : Nat} {B : List UInt8} {t : Nat} {a : World} (h : JW n2 bw cw B t a) : RSl (fun x => n2 ≤ x) a e64 (some ⟨bw, 0, none⟩) cw (WU B t) := h
end Go.Proofs.YtjeldcjchipdgaaDoor
namespace Go.Proofs.YtjeldcjchipdgaaDoor
open Go.RowKit Go.HL
set_option maxRecDepth 100000

/-! a sector -/
/-- c, sealed, in a sector -/
def sec (c : List UInt8) : List UInt8 := B8 ((c.length : Int) + 32) :: (c ++ sumB c) ++ List.replicate (95 - c.length) 0
def secE (l : List Item) : Int := if checkE l = 0 then (if 95 < (encAll l).length then 14 else 0) else checkE l
def secB (l : List Item) : List UInt8 := if secE l = 0 then sec (encAll l) else []
theorem sec_len {c : List UInt8} (h : c.length ≤ 95) : (sec c).length = 128 := by
  simp [sec, sumB_len]
  omega
theorem sec_made {B Z Y : List UInt8} (eZ : Z = List.replicate 128 (0 : UInt8)) (eY : Y = Z.set 0 (B8 ((B ++ sumB B).length : Int))) (hl : (B ++ sumB B).length = B.length + 32) (hb : B.length ≤ 95) : Y.take 1 ++ (B ++ sumB B) ++ Y.drop (1 + (B ++ sumB B).length) = sec B := by
  have e1 : List.replicate 128 (0 : UInt8) = 0 :: List.replicate 127 0 := rfl
  rw [eY, eZ, e1, List.set_cons_zero, hl, show 1 + (B.length + 32) = (B.length + 32) + 1 from by omega, List.drop_succ_cons, List.drop_replicate, sec]
  rw [show (((B.length + 32 : Nat)) : Int) = (B.length : Int) + 32 from by omega, show 127 - (B.length + 32) = 95 - B.length from by omega]
  rfl
theorem sector_calls {w : World} {ao : Option Addr} {c : Nat} {l : List Item} (hr : RSl (· < w.heap.size) w eit ao c l) (hl : l.length ≤ 9223372036854775807) :
    Calls Tryd.prog 37 [.slice ao l.length c].toArray w (Ret fun v w' => (∃ (ao' : Option Addr) (c' : Nat), v = .tuple #[.slice ao' (secB l).length c', vi (secE l)] ∧ Row (w.heap.size ≤ ·) w' 5 eb ao' c' (secB l)) ∧ Chg Nob w w') := by
  have kk := Chg.refl Nob w
  refine Calls.of_WC Tryd.func37 rfl Tryd.ntmps37 (by simp) ?_
  refine WC.seq (WC.region (WL.assign rfl rfl (WL.assign rfl rfl (WL.nil (WX.then_normal (WC.seq (WC.region (?_))))))))
  refine WL.move rfl rfl (?_)
  refine WL.call eg_64 rfl rfl (encode_calls hr hl) ?_
  rintro v w1 ⟨a1, c1, rfl, hq, k1⟩
  obtain ⟨B, eB⟩ : ∃ B, B = (if checkE l = 0 then encAll l else []) := ⟨_, rfl⟩
  rw [← eB] at hq ⊢
  have hBl : B.length ≤ 140737488351232 := by
    rw [eB]
    split
    ·
      rename_i h0
      obtain ⟨h1, h2⟩ := checkE_ok h0
      have := encAll_len h2
      omega
    ·
      simp
  have zs_k1 := k1.size
  replace hr := hr.pure k1
  replace kk := kk.pure k1
  replace hq := hq.lt
  refine WL.move rfl rfl (WL.extract rfl rfl rfl (WL.extract rfl rfl rfl (WL.assign rfl rfl (WL.assign rfl rfl (WL.nil (WX.then_normal (WC.seq (?_))))))))
  refine WC.seq (WC.region (WL.move rfl rfl (?_)))
  refine WL.neq? rfl rfl rfl (fun h13 => ?_) (fun h13 => ?_)
  ·
    refine WL.nil (WX.then_normal (WC.cond_true rfl (WC.seq (WC.region (WL.move rfl rfl (WL.assign rfl rfl (WL.assign rfl rfl (?_))))))))
    refine WL.nil (WX.then_normal (WC.ret (WX.then_ret (?_))))
    refine WX.ret2 (.inl rfl) Tryd.results37 rfl rfl ?_
    first
      | (have h1 : secE l = checkE l := by rw [secE, if_neg h13]
         refine ⟨_, rfl, ⟨none, 0, ?_, ?_⟩, kk⟩
         ·
           rw [secB, h1, if_neg h13]
           rfl
         ·
           rw [secB, h1, if_neg h13]
           exact Row.nil _ _ _ _)
      | (have hB : B = encAll l := by rw [eB, if_pos h13]
         have hB2 : 95 < (encAll l).length := by rw [← hB]; omega
         have h1 : secE l = 14 := by rw [secE, if_pos h13, if_pos hB2]
         refine ⟨_, rfl, ⟨none, 0, ?_, ?_⟩, kk⟩
         ·
           rw [secB, h1, if_neg (by decide)]
           rfl
         ·
           rw [secB, h1, if_neg (by decide)]
           exact Row.nil _ _ _ _)
      | (have hB : B = encAll l := by rw [eB, if_pos h13]
         have hB2 : ¬ 95 < (encAll l).length := by rw [← hB]; omega
         have h1 : secE l = 0 := by rw [secE, if_pos h13, if_neg hB2]
         have h2 : Y.take 1 ++ (B ++ sumB B) ++ Y.drop (1 + (B ++ sumB B).length) = secB l := by
           rw [secB, h1, if_pos rfl, ← hB]
           exact sec_made eZ eY hbl2 (by omega)
         rw [h2] at hO7
         refine ⟨_, rfl, ⟨some ⟨g5, 0, none⟩, 128, ?_, hO7.mono (fun x hx => by omega)⟩, kk⟩
         rw [h1, secB, h1, if_pos rfl, sec_len (by omega)])
  ·
    refine WL.nil (WX.then_normal (WC.cond_false rfl (WC.skip (WX.then_normal (WC.seq (WC.seq (WC.region (?_))))))))
    refine WL.move rfl rfl (WL.len Tryd.underlying26 rfl rfl (WL.add64 rfl rfl (by first | omega | (constructor <;> omega)) rfl (WL.add64 rfl rfl (by first | omega | (constructor <;> omega)) rfl (?_))))
    refine WL.gtr? rfl rfl rfl (fun h19 => ?_) (fun h19 => ?_)
    ·
      refine WL.nil (WX.then_normal (WC.cond_true rfl (WC.seq (WC.region (WL.assign rfl rfl (WL.assign rfl rfl (WL.nil (?_))))))))
      refine WX.then_normal (WC.ret (WX.then_ret (?_)))
      refine WX.ret2 (.inl rfl) Tryd.results37 rfl rfl ?_
      first
        | (have h1 : secE l = checkE l := by rw [secE, if_neg h13]
           refine ⟨_, rfl, ⟨none, 0, ?_, ?_⟩, kk⟩
           ·
             rw [secB, h1, if_neg h13]
             rfl
           ·
             rw [secB, h1, if_neg h13]
             exact Row.nil _ _ _ _)
        | (have hB : B = encAll l := by rw [eB, if_pos h13]
           have hB2 : 95 < (encAll l).length := by rw [← hB]; omega
           have h1 : secE l = 14 := by rw [secE, if_pos h13, if_pos hB2]
           refine ⟨_, rfl, ⟨none, 0, ?_, ?_⟩, kk⟩
           ·
             rw [secB, h1, if_neg (by decide)]
             rfl
           ·
             rw [secB, h1, if_neg (by decide)]
             exact Row.nil _ _ _ _)
        | (have hB : B = encAll l := by rw [eB, if_pos h13]
           have hB2 : ¬ 95 < (encAll l).length := by rw [← hB]; omega
           have h1 : secE l = 0 := by rw [secE, if_pos h13, if_neg hB2]
           have h2 : Y.take 1 ++ (B ++ sumB B) ++ Y.drop (1 + (B ++ sumB B).length) = secB l := by
             rw [secB, h1, if_pos rfl, ← hB]
             exact sec_made eZ eY hbl2 (by omega)
           rw [h2] at hO7
           refine ⟨_, rfl, ⟨some ⟨g5, 0, none⟩, 128, ?_, hO7.mono (fun x hx => by omega)⟩, kk⟩
           rw [h1, secB, h1, if_pos rfl, sec_len (by omega)])
    ·
      refine WL.nil (WX.then_normal (WC.cond_false rfl (WC.skip (WX.then_normal (WC.seq (WC.region (WL.move rfl rfl (?_))))))))
      have hq1 := hq.rsl
      refine WL.call eg_65 rfl rfl (seal_calls hq1 (by omega)) ?_
      rintro v w2 ⟨⟨a2, c2, rfl, hs⟩, k2⟩
      have zs_k2 := k2.size
      replace hr := hr.pure k2
      replace kk := kk.pure k2
      replace hq := hq.pure k2
      replace hs := hs.lt
      refine WL.assign rfl rfl (WL.nil (WX.then_normal (WC.seq (WC.region (?_)))))
      obtain ⟨Z, eZ⟩ : ∃ Z, Z = List.replicate 128 (0 : UInt8) := ⟨_, rfl⟩
      have hZl : Z.length = 128 := by rw [eZ, List.length_replicate]
      refine WL.make (e := eb) (0 : UInt8) 128 128 Tryd.underlying26 info_5 rfl rfl rfl ⟨rfl, rfl, Nat.le_refl _⟩ (by constructor <;> omega) rfl ?_
      intro g5 w5 hO k5 z5 e5
      rw [← eZ] at hO ⊢
      rw [hZl]
      have zs_k5 := k5.size
      replace hr := hr.pure k5
      replace kk := kk.pure k5
      replace hq := hq.pure k5
      replace hs := hs.pure k5
      refine WL.assign rfl rfl (WL.nil (WX.then_normal (WC.seq (WC.region (WL.move rfl rfl (WL.move rfl rfl (WL.len Tryd.underlying26 rfl rfl (?_))))))))
      refine WL.c_i64_u8 Tryd.underlying3 Tryd.underlying5 rfl rfl (?_)
      refine WL.index (j := 0) Tryd.underlying26 Tryd.sizeOf5 rfl rfl (by decide) (by omega) rfl ?_
      refine WL.storeRow (z := B8 ((B ++ sumB B).length : Int)) (0) Tryd.sizeOf5 hO rfl rfl rfl (by first | (simp; done) | (show 0 + _ * 1 = _; omega)) (by omega) rfl ?_
      intro w_1 zs_1 nr_1 k_1
      have zs_k_1 := k_1.size
      replace hr := hr.chg k_1 (by first | (intro x h1 h2; exact h2) | (intro x h0 h1 h2; exact hS x h1 h2) | (intro x h0 h1 h2; have h3 : _ = _ := h2; subst h3; exact hSR h1.1) | (intro x h1 h2; have h3 : _ = _ := h2; subst h3; assumption) | (intro x h1 h2; have h3 : _ = _ := h2; exfalso; omega) | (intro b h1 h2 h3; have h4 : _ = _ := h3; (try dsimp only at h2); exfalso; omega) | (intro h1; have h2 : _ = _ := h1; exfalso; omega) | (intro h1; have h2 : _ ≤ _ := h1; exfalso; omega) | (intros; exfalso; (try dsimp only at *); omega) | (intro b h1 h2 h3; exfalso; have h4 := h3.2; (try dsimp only at *); omega) | (intro h1; exfalso; have h4 := h1.2; (try dsimp only at *); omega) | (intro x h1 h2; exfalso; have h4 := h2.2; (try dsimp only at *); omega) | (intro x h1 h2; exact ⟨_, rfl, h2⟩) | (intro x h1 h2; have h4 := h2.1; have h5 := h2.2; exfalso; omega) | (intro x h1 h2; exact h2.1) | (intro x h1 h2; rcases h2.1 with h3 | h3; exact h3; exfalso; omega) | (intro x h1 h2; rcases h2 with h3 | h3; exact h3; exfalso; omega))
      replace kk := kk.chg k_1 (by first | (intro x h1 h2; exact h2) | (intro x h0 h1 h2; exact hS x h1 h2) | (intro x h0 h1 h2; have h3 : _ = _ := h2; subst h3; exact hSR h1.1) | (intro x h1 h2; have h3 : _ = _ := h2; subst h3; assumption) | (intro x h1 h2; have h3 : _ = _ := h2; exfalso; omega) | (intro b h1 h2 h3; have h4 : _ = _ := h3; (try dsimp only at h2); exfalso; omega) | (intro h1; have h2 : _ = _ := h1; exfalso; omega) | (intro h1; have h2 : _ ≤ _ := h1; exfalso; omega) | (intros; exfalso; (try dsimp only at *); omega) | (intro b h1 h2 h3; exfalso; have h4 := h3.2; (try dsimp only at *); omega) | (intro h1; exfalso; have h4 := h1.2; (try dsimp only at *); omega) | (intro x h1 h2; exfalso; have h4 := h2.2; (try dsimp only at *); omega) | (intro x h1 h2; exact ⟨_, rfl, h2⟩) | (intro x h1 h2; have h4 := h2.1; have h5 := h2.2; exfalso; omega) | (intro x h1 h2; exact h2.1) | (intro x h1 h2; rcases h2.1 with h3 | h3; exact h3; exfalso; omega) | (intro x h1 h2; rcases h2 with h3 | h3; exact h3; exfalso; omega))
      replace hq := hq.chg k_1 (by first | (intro x h1 h2; exact h2) | (intro x h0 h1 h2; exact hS x h1 h2) | (intro x h0 h1 h2; have h3 : _ = _ := h2; subst h3; exact hSR h1.1) | (intro x h1 h2; have h3 : _ = _ := h2; subst h3; assumption) | (intro x h1 h2; have h3 : _ = _ := h2; exfalso; omega) | (intro b h1 h2 h3; have h4 : _ = _ := h3; (try dsimp only at h2); exfalso; omega) | (intro h1; have h2 : _ = _ := h1; exfalso; omega) | (intro h1; have h2 : _ ≤ _ := h1; exfalso; omega) | (intros; exfalso; (try dsimp only at *); omega) | (intro b h1 h2 h3; exfalso; have h4 := h3.2; (try dsimp only at *); omega) | (intro h1; exfalso; have h4 := h1.2; (try dsimp only at *); omega) | (intro x h1 h2; exfalso; have h4 := h2.2; (try dsimp only at *); omega) | (intro x h1 h2; exact ⟨_, rfl, h2⟩) | (intro x h1 h2; have h4 := h2.1; have h5 := h2.2; exfalso; omega) | (intro x h1 h2; exact h2.1) | (intro x h1 h2; rcases h2.1 with h3 | h3; exact h3; exfalso; omega) | (intro x h1 h2; rcases h2 with h3 | h3; exact h3; exfalso; omega))
      replace hs := hs.chg k_1 (by first | (intro x h1 h2; exact h2) | (intro x h0 h1 h2; exact hS x h1 h2) | (intro x h0 h1 h2; have h3 : _ = _ := h2; subst h3; exact hSR h1.1) | (intro x h1 h2; have h3 : _ = _ := h2; subst h3; assumption) | (intro x h1 h2; have h3 : _ = _ := h2; exfalso; omega) | (intro b h1 h2 h3; have h4 : _ = _ := h3; (try dsimp only at h2); exfalso; omega) | (intro h1; have h2 : _ = _ := h1; exfalso; omega) | (intro h1; have h2 : _ ≤ _ := h1; exfalso; omega) | (intros; exfalso; (try dsimp only at *); omega) | (intro b h1 h2 h3; exfalso; have h4 := h3.2; (try dsimp only at *); omega) | (intro h1; exfalso; have h4 := h1.2; (try dsimp only at *); omega) | (intro x h1 h2; exfalso; have h4 := h2.2; (try dsimp only at *); omega) | (intro x h1 h2; exact ⟨_, rfl, h2⟩) | (intro x h1 h2; have h4 := h2.1; have h5 := h2.2; exfalso; omega) | (intro x h1 h2; exact h2.1) | (intro x h1 h2; rcases h2.1 with h3 | h3; exact h3; exfalso; omega) | (intro x h1 h2; rcases h2 with h3 | h3; exact h3; exfalso; omega))
      replace hO := nr_1
      refine WL.nil (WX.then_normal (WC.seq (WC.region (WL.move rfl rfl (?_)))))
      obtain ⟨Y, eY⟩ : ∃ Y, Y = Z.set 0 (B8 ((B ++ sumB B).length : Int)) := ⟨_, rfl⟩
      rw [← eY] at hO
      have hYl : Y.length = 128 := by rw [eY, List.length_set, hZl]
      refine WL.sliceC (l := 1) (h := 128) (k := .i64) (j := .i64) Tryd.underlying26 Tryd.sizeOf5 hO.rsl (by rw [hYl]; rfl) (.inl rfl) (.inr ⟨rfl, hYl.symm⟩) ⟨by omega, by omega⟩ rfl ?_
      rw [show ((Y.take 128).drop 1).length = Y.length - 1 from by rw [List.length_drop, List.length_take]; omega]
      refine WL.move rfl rfl (?_)
      have hsl := sumB_len B
      have hbl2 : (B ++ sumB B).length = B.length + 32 := by rw [List.length_append, hsl]
      refine WL.copyRow (e := eb) (i := 1) Tryd.underlying26 (by kernel_rfl) rfl hO hs.rsl (by omega) (by omega) rfl rfl rfl ?_
      intro w7 z7 hO7 k7
      have zs_k7 := k7.size
      replace hr := hr.chg k7 (by first | (intro x h1 h2; exact h2) | (intro x h0 h1 h2; exact hS x h1 h2) | (intro x h0 h1 h2; have h3 : _ = _ := h2; subst h3; exact hSR h1.1) | (intro x h1 h2; have h3 : _ = _ := h2; subst h3; assumption) | (intro x h1 h2; have h3 : _ = _ := h2; exfalso; omega) | (intro b h1 h2 h3; have h4 : _ = _ := h3; (try dsimp only at h2); exfalso; omega) | (intro h1; have h2 : _ = _ := h1; exfalso; omega) | (intro h1; have h2 : _ ≤ _ := h1; exfalso; omega) | (intros; exfalso; (try dsimp only at *); omega) | (intro b h1 h2 h3; exfalso; have h4 := h3.2; (try dsimp only at *); omega) | (intro h1; exfalso; have h4 := h1.2; (try dsimp only at *); omega) | (intro x h1 h2; exfalso; have h4 := h2.2; (try dsimp only at *); omega) | (intro x h1 h2; exact ⟨_, rfl, h2⟩) | (intro x h1 h2; have h4 := h2.1; have h5 := h2.2; exfalso; omega) | (intro x h1 h2; exact h2.1) | (intro x h1 h2; rcases h2.1 with h3 | h3; exact h3; exfalso; omega) | (intro x h1 h2; rcases h2 with h3 | h3; exact h3; exfalso; omega))
      replace kk := kk.chg k7 (by first | (intro x h1 h2; exact h2) | (intro x h0 h1 h2; exact hS x h1 h2) | (intro x h0 h1 h2; have h3 : _ = _ := h2; subst h3; exact hSR h1.1) | (intro x h1 h2; have h3 : _ = _ := h2; subst h3; assumption) | (intro x h1 h2; have h3 : _ = _ := h2; exfalso; omega) | (intro b h1 h2 h3; have h4 : _ = _ := h3; (try dsimp only at h2); exfalso; omega) | (intro h1; have h2 : _ = _ := h1; exfalso; omega) | (intro h1; have h2 : _ ≤ _ := h1; exfalso; omega) | (intros; exfalso; (try dsimp only at *); omega) | (intro b h1 h2 h3; exfalso; have h4 := h3.2; (try dsimp only at *); omega) | (intro h1; exfalso; have h4 := h1.2; (try dsimp only at *); omega) | (intro x h1 h2; exfalso; have h4 := h2.2; (try dsimp only at *); omega) | (intro x h1 h2; exact ⟨_, rfl, h2⟩) | (intro x h1 h2; have h4 := h2.1; have h5 := h2.2; exfalso; omega) | (intro x h1 h2; exact h2.1) | (intro x h1 h2; rcases h2.1 with h3 | h3; exact h3; exfalso; omega) | (intro x h1 h2; rcases h2 with h3 | h3; exact h3; exfalso; omega))
      replace hq := hq.chg k7 (by first | (intro x h1 h2; exact h2) | (intro x h0 h1 h2; exact hS x h1 h2) | (intro x h0 h1 h2; have h3 : _ = _ := h2; subst h3; exact hSR h1.1) | (intro x h1 h2; have h3 : _ = _ := h2; subst h3; assumption) | (intro x h1 h2; have h3 : _ = _ := h2; exfalso; omega) | (intro b h1 h2 h3; have h4 : _ = _ := h3; (try dsimp only at h2); exfalso; omega) | (intro h1; have h2 : _ = _ := h1; exfalso; omega) | (intro h1; have h2 : _ ≤ _ := h1; exfalso; omega) | (intros; exfalso; (try dsimp only at *); omega) | (intro b h1 h2 h3; exfalso; have h4 := h3.2; (try dsimp only at *); omega) | (intro h1; exfalso; have h4 := h1.2; (try dsimp only at *); omega) | (intro x h1 h2; exfalso; have h4 := h2.2; (try dsimp only at *); omega) | (intro x h1 h2; exact ⟨_, rfl, h2⟩) | (intro x h1 h2; have h4 := h2.1; have h5 := h2.2; exfalso; omega) | (intro x h1 h2; exact h2.1) | (intro x h1 h2; rcases h2.1 with h3 | h3; exact h3; exfalso; omega) | (intro x h1 h2; rcases h2 with h3 | h3; exact h3; exfalso; omega))
      replace hs := hs.chg k7 (by first | (intro x h1 h2; exact h2) | (intro x h0 h1 h2; exact hS x h1 h2) | (intro x h0 h1 h2; have h3 : _ = _ := h2; subst h3; exact hSR h1.1) | (intro x h1 h2; have h3 : _ = _ := h2; subst h3; assumption) | (intro x h1 h2; have h3 : _ = _ := h2; exfalso; omega) | (intro b h1 h2 h3; have h4 : _ = _ := h3; (try dsimp only at h2); exfalso; omega) | (intro h1; have h2 : _ = _ := h1; exfalso; omega) | (intro h1; have h2 : _ ≤ _ := h1; exfalso; omega) | (intros; exfalso; (try dsimp only at *); omega) | (intro b h1 h2 h3; exfalso; have h4 := h3.2; (try dsimp only at *); omega) | (intro h1; exfalso; have h4 := h1.2; (try dsimp only at *); omega) | (intro x h1 h2; exfalso; have h4 := h2.2; (try dsimp only at *); omega) | (intro x h1 h2; exact ⟨_, rfl, h2⟩) | (intro x h1 h2; have h4 := h2.1; have h5 := h2.2; exfalso; omega) | (intro x h1 h2; exact h2.1) | (intro x h1 h2; rcases h2.1 with h3 | h3; exact h3; exfalso; omega) | (intro x h1 h2; rcases h2 with h3 | h3; exact h3; exfalso; omega))
      refine WL.nil (WX.then_normal (WC.seq (WC.region (WL.move rfl rfl (WL.assign rfl rfl (WL.assign rfl rfl (WL.nil (?_))))))))
      refine WX.then_normal (WC.ret (?_))
      refine WX.ret2 (.inl rfl) Tryd.results37 rfl rfl ?_
      first
        | (have h1 : secE l = checkE l := by rw [secE, if_neg h13]
           refine ⟨_, rfl, ⟨none, 0, ?_, ?_⟩, kk⟩
           ·
             rw [secB, h1, if_neg h13]
             rfl
           ·
             rw [secB, h1, if_neg h13]
             exact Row.nil _ _ _ _)
        | (have hB : B = encAll l := by rw [eB, if_pos h13]
           have hB2 : 95 < (encAll l).length := by rw [← hB]; omega
           have h1 : secE l = 14 := by rw [secE, if_pos h13, if_pos hB2]
           refine ⟨_, rfl, ⟨none, 0, ?_, ?_⟩, kk⟩
           ·
             rw [secB, h1, if_neg (by decide)]
             rfl
           ·
             rw [secB, h1, if_neg (by decide)]
             exact Row.nil _ _ _ _)
        | (have hB : B = encAll l := by rw [eB, if_pos h13]
           have hB2 : ¬ 95 < (encAll l).length := by rw [← hB]; omega
           have h1 : secE l = 0 := by rw [secE, if_pos h13, if_neg hB2]
           have h2 : Y.take 1 ++ (B ++ sumB B) ++ Y.drop (1 + (B ++ sumB B).length) = secB l := by
             rw [secB, h1, if_pos rfl, ← hB]
             exact sec_made eZ eY hbl2 (by omega)
           rw [h2] at hO7
           refine ⟨_, rfl, ⟨some ⟨g5, 0, none⟩, 128, ?_, hO7.mono (fun x hx => by omega)⟩, kk⟩
           rw [h1, secB, h1, if_pos rfl, sec_len (by omega)])
/-- what a sector holds -/
def unS (b : List UInt8) : Option (List Item) :=
  if b.length = 128 ∧ (b.getD 0 0).toNat < 128 ∧ (∀ x ∈ b.drop (1 + (b.getD 0 0).toNat), x = 0) ∧ (openR ((b.take (1 + (b.getD 0 0).toNat)).drop 1)).2 = 0 then dec 0 (openR ((b.take (1 + (b.getD 0 0).toNat)).drop 1)).1 else none
def unL (b : List UInt8) : List Item := (unS b).getD []
def unE (b : List UInt8) : Int := if (unS b).isSome then 0 else 2
theorem openR_len (b : List UInt8) : (openR b).1.length ≤ b.length := by
  unfold openR
  split
  · simp
  · simp
theorem openR_err (b : List UInt8) : (openR b).2 = 0 ∨ (openR b).2 = 2 := by
  unfold openR
  split
  · exact .inl rfl
  · exact .inr rfl
theorem un_none {b : List UInt8} (h : unS b = none) : unL b = [] ∧ unE b = 2 := by
  rw [unL, unE, h]
  exact ⟨rfl, rfl⟩
theorem un_no {b s r : List UInt8} {n : Nat} (hn : n = (b.getD 0 0).toNat) (hs : s = (b.take (1 + n)).drop 1) (hrs : r = b.drop (1 + n)) (h : ¬ (b.length = 128 ∧ n < 128 ∧ (∀ x ∈ r, x = 0) ∧ (openR s).2 = 0)) : unL b = [] ∧ unE b = 2 := by
  subst hn; subst hs; subst hrs
  exact un_none (by rw [unS, if_neg h])
theorem un_yes {b s r : List UInt8} {n : Nat} (hn : n = (b.getD 0 0).toNat) (hs : s = (b.take (1 + n)).drop 1) (hrs : r = b.drop (1 + n)) (h : b.length = 128 ∧ n < 128 ∧ (∀ x ∈ r, x = 0) ∧ (openR s).2 = 0) : unL b = decL (openR s).1 ∧ unE b = decE (openR s).1 := by
  subst hn; subst hs; subst hrs
  rw [unL, unE, unS, if_pos h]
  exact ⟨rfl, rfl⟩
theorem unsector_calls {w : World} {ao : Option Addr} {c : Nat} {b : List UInt8} (hr : RSl (· < w.heap.size) w eb ao c b) (hl : b.length ≤ 140737488351232) :
    Calls Tryd.prog 40 [.slice ao b.length c].toArray w (Ret fun v w' => (∃ (ao' : Option Addr) (c' : Nat), v = .tuple #[.slice ao' (unL b).length c', vi (unE b)] ∧ Row (w.heap.size ≤ ·) w' 75 eit ao' c' (unL b)) ∧ Chg Nob w w') := by
  have kk := Chg.refl Nob w
  obtain ⟨n, hn⟩ : ∃ n, n = (b.getD 0 0).toNat := ⟨_, rfl⟩
  obtain ⟨s, hs⟩ : ∃ s, s = (b.take (1 + n)).drop 1 := ⟨_, rfl⟩
  obtain ⟨r, hrs⟩ : ∃ r, r = b.drop (1 + n) := ⟨_, rfl⟩
  refine Calls.of_WC Tryd.func40 rfl Tryd.ntmps40 (by simp) ?_
  refine WC.seq (WC.region (WL.assign rfl rfl (WL.assign rfl rfl (WL.nil (WX.then_normal (WC.seq (WC.seq (?_))))))))
  refine WC.region (WL.move rfl rfl (WL.len Tryd.underlying26 rfl rfl (?_)))
  refine WL.neq? rfl rfl rfl (fun h10 => ?_) (fun h10 => ?_)
  ·
    refine WL.move rfl rfl (WL.pass rfl rfl rfl rfl (WL.pass rfl rfl rfl rfl (WL.pass rfl rfl rfl rfl (WL.pass rfl rfl rfl rfl (WL.pass rfl rfl rfl rfl (WL.pickT rfl rfl rfl (WL.nil (?_))))))))
    refine WX.then_normal (WC.cond_true rfl (WC.seq (WC.region (WL.assign rfl rfl (WL.assign rfl rfl (WL.nil (WX.then_normal (?_))))))))
    refine WC.ret (WX.then_ret (?_))
    refine WX.ret2 (.inl rfl) Tryd.results40 rfl rfl ?_
    by_cases hc : b.length = 128 ∧ n < 128 ∧ (∀ x ∈ r, x = 0) ∧ (openR s).2 = 0
    ·
      have hy := un_yes hn hs hrs hc
      obtain ⟨g1, g2, g3, g4⟩ := hc
      rw [hy.1, hy.2]
      first
        | (exact ⟨_, rfl, ⟨a3, c3, rfl, hq.mono (fun x hx => by omega)⟩, kk⟩)
        | (exfalso; have g5 := hm.2 g3; omega)
        | (exfalso; omega)
    ·
      have hy := un_no hn hs hrs hc
      have ho2 := openR_err s
      rw [hy.1, hy.2]
      first
        | (exact ⟨_, rfl, ⟨none, 0, rfl, Row.nil _ _ _ _⟩, kk⟩)
        | (have h9 : (openR s).2 = 2 := ho2.resolve_left (by assumption)
           refine ⟨_, rfl, ⟨none, 0, ?_, Row.nil _ _ _ _⟩, kk⟩
           rw [← h9]
           rfl)
        | (exfalso; exact hc ⟨by omega, by omega, hm.1 (by omega), by assumption⟩)
  ·
    refine WL.move rfl rfl (WL.want rfl rfl rfl (WL.move rfl rfl (WL.want rfl rfl rfl (?_))))
    obtain ⟨x, hx⟩ : ∃ x, b[0]? = some x := ⟨_, List.getElem?_eq_getElem (by omega)⟩
    have hxn : x.toNat = n := by rw [hn, List.getD_eq_getElem?_getD, hx]; rfl
    refine WL.indexT Tryd.underlying26 Tryd.sizeOf5 hr rfl rfl ⟨hx, rfl⟩ rfl ?_
    intro b_1 o_1 hc_1
    refine WL.want rfl rfl rfl (WL.load Tryd.isAgg5 rfl (hc_1 0 _ rfl) rfl (WL.want rfl rfl rfl (WL.c_u8_i64 Tryd.underlying5 Tryd.underlying3 rfl rfl (WL.want rfl rfl rfl (?_)))))
    refine WL.geq? rfl rfl rfl (fun h16 => ?_) (fun h16 => ?_)
    ·
      refine WL.pickF rfl rfl rfl (WL.nil (WX.then_normal (WC.cond_true rfl (WC.seq (WC.region (WL.assign rfl rfl (WL.assign rfl rfl (?_))))))))
      refine WL.nil (WX.then_normal (WC.ret (WX.then_ret (?_))))
      refine WX.ret2 (.inl rfl) Tryd.results40 rfl rfl ?_
      by_cases hc : b.length = 128 ∧ n < 128 ∧ (∀ x ∈ r, x = 0) ∧ (openR s).2 = 0
      ·
        have hy := un_yes hn hs hrs hc
        obtain ⟨g1, g2, g3, g4⟩ := hc
        rw [hy.1, hy.2]
        first
          | (exact ⟨_, rfl, ⟨a3, c3, rfl, hq.mono (fun x hx => by omega)⟩, kk⟩)
          | (exfalso; have g5 := hm.2 g3; omega)
          | (exfalso; omega)
      ·
        have hy := un_no hn hs hrs hc
        have ho2 := openR_err s
        rw [hy.1, hy.2]
        first
          | (exact ⟨_, rfl, ⟨none, 0, rfl, Row.nil _ _ _ _⟩, kk⟩)
          | (have h9 : (openR s).2 = 2 := ho2.resolve_left (by assumption)
             refine ⟨_, rfl, ⟨none, 0, ?_, Row.nil _ _ _ _⟩, kk⟩
             rw [← h9]
             rfl)
          | (exfalso; exact hc ⟨by omega, by omega, hm.1 (by omega), by assumption⟩)
    ·
      refine WL.pickF rfl rfl rfl (WL.nil (WX.then_normal (WC.cond_false rfl (WC.skip (WX.then_normal (WC.seq (?_)))))))
      have hb1 := hr.cut 1 (1 + n) ⟨by omega, by omega⟩
      have hb2 := hr.cut (1 + n) b.length ⟨by omega, by omega⟩
      obtain ⟨b0, o0, rfl⟩ := hr.place hx
      refine WC.draw (Nob) [0, 1, 2, 3, 4, 5, 6, 7, 8, 9, 10, 11, 12, 13, 14, 15] [] mixed rfl rfl (fun wd_2 kd_2 zd_2 => ?_)
      have zs_kd_2 := kd_2.size
      replace hr := hr.pure kd_2
      replace kk := kk.pure kd_2
      replace hb1 := hb1.pure kd_2
      replace hb2 := hb2.pure kd_2
      apply DQ.step (E' := [(0, _)])
      case ho => rfl
      case hs => exact ⟨rfl, trivial⟩
      case hk => rfl
      case h1 =>
        intro wq_3 kq_3
        refine WL.move rfl rfl (?_)
        refine WL.nil ?_
        exact WX.one ⟨rfl, by first | exact Chg.refl _ _ | assumption⟩
      apply DQ.step (E' := [(0, _)])
      case ho => rfl
      case hs => exact ⟨rfl, trivial⟩
      case hk => rfl
      case h1 =>
        intro wq_4 kq_4
        refine WL.move rfl rfl (?_)
        refine WL.nil ?_
        exact WX.one ⟨rfl, by first | exact Chg.refl _ _ | assumption⟩
      apply DQ.step (E' := [(19, _)])
      case ho => rfl
      case hs => exact ⟨rfl, trivial⟩
      case hk => rfl
      case h1 =>
        intro wq_5 kq_5
        have zs_kq_5 := kq_5.size
        replace hr := hr.pure kq_5
        replace kk := kk.pure kq_5
        replace hb1 := hb1.pure kq_5
        replace hb2 := hb2.pure kq_5
        refine WL.indexC hr Tryd.underlying26 Tryd.sizeOf5 rfl rfl ⟨hx, rfl⟩ rfl ?_
        refine WL.nil ?_
        exact WX.one ⟨rfl, by first | exact Chg.refl _ _ | assumption⟩
      apply DQ.step (E' := [(20, _)])
      case ho => rfl
      case hs => exact ⟨rfl, trivial⟩
      case hk => rfl
      case h1 =>
        intro wq_6 kq_6
        have zs_kq_6 := kq_6.size
        replace hr := hr.pure kq_6
        replace kk := kk.pure kq_6
        replace hb1 := hb1.pure kq_6
        replace hb2 := hb2.pure kq_6
        refine WL.load Tryd.isAgg5 rfl ((hr.cellsAt hx) 0 _ rfl) rfl (?_)
        refine WL.nil ?_
        exact WX.one ⟨rfl, by first | exact Chg.refl _ _ | assumption⟩
      apply DQ.step (E' := [(21, _)])
      case ho => rfl
      case hs => exact ⟨rfl, trivial⟩
      case hk => rfl
      case h1 =>
        intro wq_7 kq_7
        have zs_kq_7 := kq_7.size
        replace hr := hr.pure kq_7
        replace kk := kk.pure kq_7
        replace hb1 := hb1.pure kq_7
        replace hb2 := hb2.pure kq_7
        refine WL.c_u8_i64 Tryd.underlying5 Tryd.underlying3 rfl rfl (?_)
        refine WL.nil ?_
        exact WX.one ⟨rfl, by first | exact Chg.refl _ _ | assumption⟩
      apply DQ.step (E' := [(22, _)])
      case ho => rfl
      case hs => exact ⟨rfl, trivial⟩
      case hk => rfl
      case h1 =>
        intro wq_8 kq_8
        refine WL.add64 rfl rfl (by constructor <;> omega) rfl ?_
        rw [show ((1 : Int) + x.toNat) = ((1 + n : Nat) : Int) from by omega]
        refine WL.nil ?_
        exact WX.one ⟨rfl, by first | exact Chg.refl _ _ | assumption⟩
      apply DQ.step (E' := [(18, _), (23, _)])
      case ho => rfl
      case hs => exact ⟨rfl, rfl, trivial⟩
      case hk => rfl
      case h1 =>
        intro wq_9 kq_9
        have zs_kq_9 := kq_9.size
        replace hr := hr.pure kq_9
        replace kk := kk.pure kq_9
        replace hb1 := hb1.pure kq_9
        replace hb2 := hb2.pure kq_9
        refine WL.sliceC (l := 1) (h := 1 + n) Tryd.underlying26 Tryd.sizeOf5 hr rfl (.inl rfl) (.inl rfl) (by constructor <;> omega) rfl ?_
        refine WL.nil ?_
        exact WX.one ⟨rfl, by first | exact Chg.refl _ _ | assumption⟩
      apply DQ.step (E' := [(0, _)])
      case ho => rfl
      case hs => exact ⟨rfl, trivial⟩
      case hk => rfl
      case h1 =>
        intro wq_10 kq_10
        refine WL.move rfl rfl (?_)
        refine WL.nil ?_
        exact WX.one ⟨rfl, by first | exact Chg.refl _ _ | assumption⟩
      apply DQ.step (E' := [(0, _)])
      case ho => rfl
      case hs => exact ⟨rfl, trivial⟩
      case hk => rfl
      case h1 =>
        intro wq_11 kq_11
        refine WL.move rfl rfl (?_)
        refine WL.nil ?_
        exact WX.one ⟨rfl, by first | exact Chg.refl _ _ | assumption⟩
      apply DQ.step (E' := [(26, _)])
      case ho => rfl
      case hs => exact ⟨rfl, trivial⟩
      case hk => rfl
      case h1 =>
        intro wq_12 kq_12
        have zs_kq_12 := kq_12.size
        replace hr := hr.pure kq_12
        replace kk := kk.pure kq_12
        replace hb1 := hb1.pure kq_12
        replace hb2 := hb2.pure kq_12
        refine WL.indexC hr Tryd.underlying26 Tryd.sizeOf5 rfl rfl ⟨hx, rfl⟩ rfl ?_
        refine WL.nil ?_
        exact WX.one ⟨rfl, by first | exact Chg.refl _ _ | assumption⟩
      apply DQ.step (E' := [(27, _)])
      case ho => rfl
      case hs => exact ⟨rfl, trivial⟩
      case hk => rfl
      case h1 =>
        intro wq_13 kq_13
        have zs_kq_13 := kq_13.size
        replace hr := hr.pure kq_13
        replace kk := kk.pure kq_13
        replace hb1 := hb1.pure kq_13
        replace hb2 := hb2.pure kq_13
        refine WL.load Tryd.isAgg5 rfl ((hr.cellsAt hx) 0 _ rfl) rfl (?_)
        refine WL.nil ?_
        exact WX.one ⟨rfl, by first | exact Chg.refl _ _ | assumption⟩
      apply DQ.step (E' := [(28, _)])
      case ho => rfl
      case hs => exact ⟨rfl, trivial⟩
      case hk => rfl
      case h1 =>
        intro wq_14 kq_14
        have zs_kq_14 := kq_14.size
        replace hr := hr.pure kq_14
        replace kk := kk.pure kq_14
        replace hb1 := hb1.pure kq_14
        replace hb2 := hb2.pure kq_14
        refine WL.c_u8_i64 Tryd.underlying5 Tryd.underlying3 rfl rfl (?_)
        refine WL.nil ?_
        exact WX.one ⟨rfl, by first | exact Chg.refl _ _ | assumption⟩
      apply DQ.step (E' := [(29, _)])
      case ho => rfl
      case hs => exact ⟨rfl, trivial⟩
      case hk => rfl
      case h1 =>
        intro wq_15 kq_15
        refine WL.add64 rfl rfl (by constructor <;> omega) rfl ?_
        rw [show ((1 : Int) + x.toNat) = ((1 + n : Nat) : Int) from by omega]
        refine WL.nil ?_
        exact WX.one ⟨rfl, by first | exact Chg.refl _ _ | assumption⟩
      apply DQ.step (E' := [(25, _), (30, _)])
      case ho => rfl
      case hs => exact ⟨rfl, rfl, trivial⟩
      case hk => rfl
      case h1 =>
        intro wq_16 kq_16
        have zs_kq_16 := kq_16.size
        replace hr := hr.pure kq_16
        replace kk := kk.pure kq_16
        replace hb1 := hb1.pure kq_16
        replace hb2 := hb2.pure kq_16
        refine WL.sliceC (l := 1 + n) (h := b.length) (j := .i64) Tryd.underlying26 Tryd.sizeOf5 hr rfl (.inl rfl) (.inr ⟨rfl, rfl⟩) (by constructor <;> omega) rfl ?_
        refine WL.nil ?_
        exact WX.one ⟨rfl, by first | exact Chg.refl _ _ | assumption⟩
      apply DQ.step (E' := [(24, _)])
      case ho => rfl
      case hs => exact ⟨rfl, trivial⟩
      case hk => rfl
      case h1 =>
        intro wq_17 kq_17
        refine WL.assign rfl rfl (?_)
        refine WL.nil ?_
        exact WX.one ⟨rfl, by first | exact Chg.refl _ _ | assumption⟩
      apply DQ.step (E' := [(31, _)])
      case ho => rfl
      case hs => exact ⟨rfl, trivial⟩
      case hk => rfl
      case h1 =>
        intro wq_18 kq_18
        refine WL.assign rfl rfl (?_)
        refine WL.nil ?_
        exact WX.one ⟨rfl, by first | exact Chg.refl _ _ | assumption⟩
      refine DQ.done (fun _ => ?_)
      refine DL.done (fun we_19 ke_19 => ?_)
      have zs_ke_19 := ke_19.size
      replace hr := hr.pure ke_19
      replace kk := kk.pure ke_19
      replace hb1 := hb1.pure ke_19
      replace hb2 := hb2.pure ke_19
      refine WX.then_normal (WC.seq (WC.seq (WC.region (WL.move rfl rfl (?_)))))
      have e2 : (b.take b.length).drop (1 + n) = r := by rw [List.take_length, hrs]
      rw [e2] at hb2 ⊢
      rw [← hs] at hb1 ⊢
      have hb2' := hb2.old
      refine WL.call eg_68 rfl rfl (trim_calls hb2' (by rw [hrs, List.length_drop]; omega)) ?_
      rintro v w1 ⟨⟨m, a1, c1, rfl, hm⟩, k1⟩
      have zs_k1 := k1.size
      replace hr := hr.pure k1
      replace kk := kk.pure k1
      replace hb1 := hb1.pure k1
      replace hb2 := hb2.pure k1
      refine WL.len Tryd.underlying26 rfl rfl (?_)
      refine WL.gtr? rfl rfl rfl (fun h35 => ?_) (fun h35 => ?_)
      ·
        refine WL.nil (WX.then_normal (WC.cond_true rfl (WC.seq (WC.region (WL.assign rfl rfl (WL.assign rfl rfl (WL.nil (?_))))))))
        refine WX.then_normal (WC.ret (WX.then_ret (?_)))
        refine WX.ret2 (.inl rfl) Tryd.results40 rfl rfl ?_
        by_cases hc : b.length = 128 ∧ n < 128 ∧ (∀ x ∈ r, x = 0) ∧ (openR s).2 = 0
        ·
          have hy := un_yes hn hs hrs hc
          obtain ⟨g1, g2, g3, g4⟩ := hc
          rw [hy.1, hy.2]
          first
            | (exact ⟨_, rfl, ⟨a3, c3, rfl, hq.mono (fun x hx => by omega)⟩, kk⟩)
            | (exfalso; have g5 := hm.2 g3; omega)
            | (exfalso; omega)
        ·
          have hy := un_no hn hs hrs hc
          have ho2 := openR_err s
          rw [hy.1, hy.2]
          first
            | (exact ⟨_, rfl, ⟨none, 0, rfl, Row.nil _ _ _ _⟩, kk⟩)
            | (have h9 : (openR s).2 = 2 := ho2.resolve_left (by assumption)
               refine ⟨_, rfl, ⟨none, 0, ?_, Row.nil _ _ _ _⟩, kk⟩
               rw [← h9]
               rfl)
            | (exfalso; exact hc ⟨by omega, by omega, hm.1 (by omega), by assumption⟩)
      ·
        refine WL.nil (WX.then_normal (WC.cond_false rfl (WC.skip (WX.then_normal (WC.seq (WC.region (WL.move rfl rfl (?_))))))))
        have hb1' := hb1.old
        refine WL.call eg_69 rfl rfl (open_calls hb1' (by rw [hs, List.length_drop, List.length_take]; omega)) ?_
        rintro v w2 ⟨⟨a2, c2, rfl, ho⟩, k2⟩
        have zs_k2 := k2.size
        replace hr := hr.pure k2
        replace kk := kk.pure k2
        replace hb1 := hb1.pure k2
        replace hb2 := hb2.pure k2
        replace ho := ho.lt
        refine WL.move rfl rfl (WL.extract rfl rfl rfl (WL.extract rfl rfl rfl (WL.assign rfl rfl (WL.assign rfl rfl (WL.nil (WX.then_normal (WC.seq (?_))))))))
        refine WC.seq (WC.region (WL.move rfl rfl (?_)))
        refine WL.neq? rfl rfl rfl (fun h42 => ?_) (fun h42 => ?_)
        ·
          refine WL.nil (WX.then_normal (WC.cond_true rfl (WC.seq (WC.region (WL.move rfl rfl (WL.assign rfl rfl (WL.assign rfl rfl (?_))))))))
          refine WL.nil (WX.then_normal (WC.ret (WX.then_ret (?_))))
          refine WX.ret2 (.inl rfl) Tryd.results40 rfl rfl ?_
          by_cases hc : b.length = 128 ∧ n < 128 ∧ (∀ x ∈ r, x = 0) ∧ (openR s).2 = 0
          ·
            have hy := un_yes hn hs hrs hc
            obtain ⟨g1, g2, g3, g4⟩ := hc
            rw [hy.1, hy.2]
            first
              | (exact ⟨_, rfl, ⟨a3, c3, rfl, hq.mono (fun x hx => by omega)⟩, kk⟩)
              | (exfalso; have g5 := hm.2 g3; omega)
              | (exfalso; omega)
          ·
            have hy := un_no hn hs hrs hc
            have ho2 := openR_err s
            rw [hy.1, hy.2]
            first
              | (exact ⟨_, rfl, ⟨none, 0, rfl, Row.nil _ _ _ _⟩, kk⟩)
              | (have h9 : (openR s).2 = 2 := ho2.resolve_left (by assumption)
                 refine ⟨_, rfl, ⟨none, 0, ?_, Row.nil _ _ _ _⟩, kk⟩
                 rw [← h9]
                 rfl)
              | (exfalso; exact hc ⟨by omega, by omega, hm.1 (by omega), by assumption⟩)
        ·
          refine WL.nil (WX.then_normal (WC.cond_false rfl (WC.skip (WX.then_normal (WC.seq (WC.region (WL.move rfl rfl (?_))))))))
          have ho' := ho.rsl.old
          refine WL.call eg_70 rfl rfl (decode_calls' ho' (by have := openR_len s; rw [hs, List.length_drop, List.length_take] at this; rw [← hs] at this; omega)) ?_
          rintro v w3 ⟨⟨a3, c3, rfl, hq⟩, k3⟩
          have zs_k3 := k3.size
          replace hr := hr.pure k3
          replace kk := kk.pure k3
          replace hb1 := hb1.pure k3
          replace hb2 := hb2.pure k3
          replace ho := ho.pure k3
          replace hq := hq.lt
          refine WL.extract rfl rfl rfl (WL.extract rfl rfl rfl (WL.assign rfl rfl (WL.assign rfl rfl (WL.nil (WX.then_normal (WC.ret (?_)))))))
          refine WX.ret2 (.inl rfl) Tryd.results40 rfl rfl ?_
          by_cases hc : b.length = 128 ∧ n < 128 ∧ (∀ x ∈ r, x = 0) ∧ (openR s).2 = 0
          ·
            have hy := un_yes hn hs hrs hc
            obtain ⟨g1, g2, g3, g4⟩ := hc
            rw [hy.1, hy.2]
            first
              | (exact ⟨_, rfl, ⟨a3, c3, rfl, hq.mono (fun x hx => by omega)⟩, kk⟩)
              | (exfalso; have g5 := hm.2 g3; omega)
              | (exfalso; omega)
          ·
            have hy := un_no hn hs hrs hc
            have ho2 := openR_err s
            rw [hy.1, hy.2]
            first
              | (exact ⟨_, rfl, ⟨none, 0, rfl, Row.nil _ _ _ _⟩, kk⟩)
              | (have h9 : (openR s).2 = 2 := ho2.resolve_left (by assumption)
                 refine ⟨_, rfl, ⟨none, 0, ?_, Row.nil _ _ _ _⟩, kk⟩
                 rw [← h9]
                 rfl)
              | (exfalso; exact hc ⟨by omega, by omega, hm.1 (by omega), by assumption⟩)
end Go.Proofs.YtjeldcjchipdgaaDoor
namespace Go.Proofs.YtjeldcjchipdgaaDoor
open Go.RowKit Go.HL
set_option maxRecDepth 100000

theorem icheck_good {l : List Item} (hl : l.length ≤ 2000) (hg : ∀ i ∈ l, Good i) : checkE l = 0 := by
  unfold checkE
  have h1 : ¬ (2000 < l.length ∨ l.any longI = true) := by
    rintro (h | h)
    · omega
    · obtain ⟨i, hi, h2⟩ := List.any_eq_true.1 h
      rw [(hg i hi).1] at h2
      cases h2
  rw [if_neg h1, if_pos (List.all_eq_true.2 fun i hi => (hg i hi).2.1)]
theorem good_check {l : List Item} (h : checkE l = 0) (hwf : ∀ i ∈ l, RIt i) : ∀ i ∈ l, Good i := fun i hi => ⟨((checkE_ok h).2 i hi).1, ((checkE_ok h).2 i hi).2, hwf i hi⟩
theorem dec_encAll {l : List Item} (h : checkE l = 0) (hwf : ∀ i ∈ l, RIt i) : dec 0 (encAll l) = some l := enc_dec l 0 (by have := (checkE_ok h).1; omega) (good_check h hwf)
theorem decL_enc {l : List Item} (h : checkE l = 0) (hwf : ∀ i ∈ l, RIt i) : decL (encAll l) = l := by simp [decL, dec_encAll h hwf]
theorem decE_enc {l : List Item} (h : checkE l = 0) (hwf : ∀ i ∈ l, RIt i) : decE (encAll l) = 0 := by simp [decE, dec_encAll h hwf]
theorem encAll_inj {l m : List Item} (hl : checkE l = 0) (hm : checkE m = 0) (wl : ∀ i ∈ l, RIt i) (wm : ∀ i ∈ m, RIt i) (h : encAll l = encAll m) : l = m := by
  have h1 := dec_encAll hl wl
  rw [h, dec_encAll hm wm] at h1
  injection h1 with h1
  exact h1.symm
theorem decE_zero {b : List UInt8} (h : decE b = 0) : dec 0 b = some (decL b) := by
  unfold decE at h
  unfold decL
  cases hd : dec 0 b with
  | none => rw [hd] at h; cases h
  | some l => rfl
theorem decE_good {b : List UInt8} (h : decE b = 0) : checkE (decL b) = 0 ∧ encAll (decL b) = b := by
  obtain ⟨h1, h2, h3⟩ := dec_spec b.length b (Nat.le_refl _) 0 (decL b) (by omega) (decE_zero h)
  exact ⟨icheck_good (by omega) h2, h3⟩

end Go.Proofs.YtjeldcjchipdgaaDoor
namespace Go.Proofs.YtjeldcjchipdgaaDoor
open Go.RowKit Go.HL
set_option maxRecDepth 100000

/-! plain: what is in a sector -/
theorem sec_parts {c : List UInt8} (h : c.length ≤ 95) : ((sec c).getD 0 0).toNat = c.length + 32 ∧ ((sec c).take (1 + (c.length + 32))).drop 1 = c ++ sumB c ∧ (sec c).drop (1 + (c.length + 32)) = List.replicate (95 - c.length) 0 := by
  have hl : (c ++ sumB c).length = c.length + 32 := by rw [List.length_append, sumB_len]
  refine ⟨?_, ?_, ?_⟩
  · show (B8 ((c.length : Int) + 32)).toNat = _
    rw [B8]
    have e1 : ((c.length : Int) + 32) % 256 = (c.length : Int) + 32 := Int.emod_eq_of_lt (by omega) (by omega)
    rw [e1, UInt8.toNat_ofNat']
    omega
  · rw [sec, show 1 + (c.length + 32) = (c.length + 32) + 1 from by omega, List.cons_append, List.take_succ_cons, List.drop_succ_cons, List.drop_zero, List.take_append_of_le_length (by omega), ← hl, List.take_length]
  · rw [sec, show 1 + (c.length + 32) = (c.length + 32) + 1 from by omega, List.cons_append, List.drop_succ_cons, ← hl, List.drop_left]
theorem open_sealed (c : List UInt8) : openR (c ++ sumB c) = (c, 0) := by
  have hl : (c ++ sumB c).length = c.length + 32 := by rw [List.length_append, sumB_len]
  rw [openR, hl, show c.length + 32 - 32 = c.length from by omega, List.take_left, List.drop_left, if_pos ⟨by omega, rfl⟩]
theorem open_parts {s : List UInt8} (h : (openR s).2 = 0) : s = (openR s).1 ++ sumB (openR s).1 ∧ (openR s).1.length + 32 = s.length := by
  unfold openR at h ⊢
  split at h
  · rename_i h1
    rw [if_pos h1]
    dsimp only
    rw [h1.2, List.take_append_drop, List.length_take]
    exact ⟨rfl, by omega⟩
  · cases h
theorem un_sec {l : List Item} (h : secE l = 0) (hg : ∀ i ∈ l, RIt i) : unS (secB l) = some l := by
  have h0 : checkE l = 0 := by
    unfold secE at h
    split at h
    · assumption
    · rename_i h1; exact absurd h h1
  have h1 : (encAll l).length ≤ 95 := by
    rw [secE, if_pos h0] at h
    split at h
    · cases h
    · omega
  obtain ⟨c1, c2⟩ := checkE_ok h0
  obtain ⟨p1, p2, p3⟩ := sec_parts h1
  rw [secB, if_pos h, unS, p1, p2, p3, open_sealed, if_pos ⟨sec_len h1, by omega, fun x hx => (List.mem_replicate.1 hx).2, rfl⟩]
  exact enc_dec l 0 (by omega) (fun i hi => ⟨(c2 i hi).1, (c2 i hi).2, hg i hi⟩)
theorem un_parts {b : List UInt8} {l : List Item} (h : unS b = some l) : b.length = 128 ∧ (b.getD 0 0).toNat < 128 ∧ (openR ((b.take (1 + (b.getD 0 0).toNat)).drop 1)).2 = 0 ∧ dec 0 (openR ((b.take (1 + (b.getD 0 0).toNat)).drop 1)).1 = some l ∧ (∀ i ∈ l, Good i) ∧ secE l = 0 ∧ secB l = b := by
  unfold unS at h
  split at h
  · rename_i hc
    obtain ⟨g1, g2, g3, g4⟩ := hc
    obtain ⟨d1, d2, d3⟩ := dec_spec _ _ (Nat.le_refl _) 0 l (by omega) h
    obtain ⟨n, hn⟩ : ∃ n, n = (b.getD 0 0).toNat := ⟨_, rfl⟩
    rw [← hn] at g2 g3 g4 d3 h ⊢
    obtain ⟨s, hs⟩ : ∃ s, s = (b.take (1 + n)).drop 1 := ⟨_, rfl⟩
    rw [← hs] at g4 d3 h ⊢
    obtain ⟨o1, o2⟩ := open_parts g4
    have hsl : s.length = n := by rw [hs, List.length_drop, List.length_take]; omega
    have hE : secE l = 0 := by
      rw [secE, if_pos (icheck_good (by omega) d2), if_neg (by rw [d3]; omega)]
    refine ⟨g1, g2, g4, h, d2, hE, ?_⟩
    rw [secB, if_pos hE, d3, sec, ← o1]
    have e1 : B8 (((openR s).1.length : Int) + 32) = b.getD 0 0 := by
      apply UInt8.toNat_inj.1
      rw [← hn, B8]
      have e2 : (((openR s).1.length : Int) + 32) % 256 = ((openR s).1.length : Int) + 32 := Int.emod_eq_of_lt (by omega) (by omega)
      rw [e2, UInt8.toNat_ofNat']
      omega
    have e3 : List.replicate (95 - (openR s).1.length) 0 = b.drop (1 + n) := by
      refine (List.eq_replicate_iff.2 ⟨?_, g3⟩).symm
      rw [List.length_drop]
      omega
    rw [e1, e3, hs]
    cases b with
    | nil => simp at g1
    | cons x r =>
      simp only [List.getD_cons_zero, Nat.add_comm 1 n, List.take_succ_cons, List.drop_succ_cons, List.drop_zero, List.cons_append, List.take_append_drop]
  · cases h
theorem un_yes' {b : List UInt8} {l : List Item} (h : unS b = some l) : unL b = l ∧ unE b = 0 := by
  rw [unL, unE, h]
  exact ⟨rfl, rfl⟩

/-! the document's -/
end Go.Proofs.YtjeldcjchipdgaaDoor
namespace Go.Proofs.YtjeldcjchipdgaaDoor
open Go.RowKit Go.HL
set_option maxRecDepth 100000

theorem secB_128 {l : List Item} (h : secE l = 0) : (secB l).length = 128 := by
  have h1 : (encAll l).length ≤ 95 := by
    unfold secE at h
    split at h
    · split at h
      · cases h
      · omega
    · rename_i h1; exact absurd h h1
  rw [secB, if_pos h, sec_len h1]
end Go.Proofs.YtjeldcjchipdgaaDoor
namespace Go.Proofs.YtjeldcjchipdgaaDoor
open Go.RowKit Go.HL
set_option maxRecDepth 100000

/-! pointers -/
structure PtrV where
  a : Int
  z : Int
  b : Int
  s : ByteArray
theorem PtrV.eq_iff (p q : PtrV) : (p.a = q.a ∧ p.z = q.z ∧ p.b = q.b ∧ p.s = q.s) ↔ p = q := by
  obtain ⟨a, z, b, s⟩ := p
  obtain ⟨a2, z2, b2, s2⟩ := q
  simp
instance : DecidableEq PtrV := fun a b => decidable_of_iff _ (PtrV.eq_iff a b)
def ept : Enc PtrV := ⟨4, fun p => [vi p.a, vi p.z, vi p.b, .string p.s], fun _ => rfl, by simp [Value.oneCell'], by decide⟩
def WfP (p : PtrV) : Prop := (-9223372036854775808 ≤ p.a ∧ p.a ≤ 9223372036854775807) ∧ (-9223372036854775808 ≤ p.z ∧ p.z ≤ 9223372036854775807) ∧ (-9223372036854775808 ≤ p.b ∧ p.b ≤ 9223372036854775807)
def rightP (p : PtrV) : Prop := 0 ≤ p.a ∧ 0 ≤ p.b ∧ 1 ≤ p.z ∧ p.z ≤ 1024 ∧ p.s.size = 32
instance (p : PtrV) : Decidable (rightP p) := by unfold rightP; infer_instance
def pit (p : PtrV) : List Item := [⟨1, p.a, ⟨#[]⟩⟩, ⟨1, p.z, ⟨#[]⟩⟩, ⟨1, p.b, ⟨#[]⟩⟩, ⟨2, 0, p.s⟩]
theorem pit_good {p : PtrV} (h : rightP p) (hw : WfP p) : ∀ i ∈ pit p, Good i := by
  obtain ⟨h1, h2, h3, h4, h5⟩ := h
  obtain ⟨w1, w2, w3⟩ := hw
  intro i hi
  simp only [pit, List.mem_cons, List.not_mem_nil, or_false] at hi
  rcases hi with rfl | rfl | rfl | rfl
  · exact ⟨by simp [longI], by simp [okI], w1⟩
  · exact ⟨by simp [longI], by simp [okI], w2⟩
  · exact ⟨by simp [longI], by simp [okI], w3⟩
  · exact ⟨by simp [longI]; omega, by simp [okI], ⟨show (-9223372036854775808 : Int) ≤ 0 by decide, show (0 : Int) ≤ 9223372036854775807 by decide⟩⟩
theorem pit_check {p : PtrV} (h : rightP p) (hw : WfP p) : checkE (pit p) = 0 := icheck_good (by simp [pit]) (pit_good h hw)
def ptrS (p : PtrV) : ByteArray := if rightP p then ⟨(encAll (pit p)).toArray⟩ else ⟨#[]⟩
def ptrE (p : PtrV) : Int := if rightP p then 0 else 2

theorem ptr_calls (p : PtrV) (w : World) (hw : WfP p) : Calls Tryd.prog 36 [.agg (ept.f p).toArray].toArray w (Ret fun v w' => v = .tuple #[.string (ptrS p), vi (ptrE p)] ∧ Chg Nob w w') := by
  have kk := Chg.refl Nob w
  refine Calls.of_WC Tryd.func36 rfl Tryd.ntmps36 (by simp) ?_
  refine WC.seq (WC.region (?_))
  refine WL.box rfl rfl ?_
  intro g_1 w_1 hge_1 hlt_1 hb_1 k_1
  have zs_k_1 := k_1.size
  replace kk := kk.pure k_1
  refine WL.assign rfl rfl (WL.assign rfl rfl (WL.nil (WX.then_normal (WC.seq (WC.seq (WC.region (WL.fieldAddr (fld_23_0) rfl rfl (?_))))))))
  refine WL.loadB Tryd.isAgg3 hb_1 rfl rfl rfl (?_)
  refine WL.lss? rfl rfl rfl (fun h8 => ?_) (fun h8 => ?_)
  ·
    refine WL.move rfl rfl (WL.pass rfl rfl rfl rfl (WL.pass rfl rfl rfl rfl (WL.pass rfl rfl rfl rfl (WL.pickT rfl rfl rfl (WL.move rfl rfl (WL.pass rfl rfl rfl rfl (WL.pass rfl rfl rfl rfl (?_))))))))
    refine WL.pass rfl rfl rfl rfl (WL.pickT rfl rfl rfl (WL.move rfl rfl (WL.pass rfl rfl rfl rfl (WL.pass rfl rfl rfl rfl (WL.pass rfl rfl rfl rfl (WL.pickT rfl rfl rfl (WL.move rfl rfl (?_))))))))
    refine WL.pass rfl rfl rfl rfl (WL.pass rfl rfl rfl rfl (WL.pass rfl rfl rfl rfl (WL.pass rfl rfl rfl rfl (WL.pickT rfl rfl rfl (WL.nil (WX.then_normal (WC.cond_true rfl (?_))))))))
    refine WC.seq (WC.region (WL.assign rfl rfl (WL.assign rfl rfl (WL.nil (WX.then_normal (WC.ret (WX.then_ret (?_))))))))
    refine WX.ret2 (.inl rfl) Tryd.results36 rfl rfl ?_
    first
      | (have hr : ¬ rightP p := by unfold rightP; omega
         refine ⟨_, rfl, ?_, kk⟩
         rw [ptrS, ptrE, if_neg hr, if_neg hr])
      | (refine ⟨_, rfl, ?_, kk⟩
         rw [ptrS, ptrE, if_pos hr, if_pos hr]
         rfl)
  ·
    refine WL.move rfl rfl (WL.want rfl rfl rfl (WL.fieldAddr (fld_23_2) rfl rfl (WL.want rfl rfl rfl (WL.loadB Tryd.isAgg3 hb_1 rfl rfl rfl (WL.want rfl rfl rfl (?_))))))
    refine WL.lss? rfl rfl rfl (fun h12 => ?_) (fun h12 => ?_)
    ·
      refine WL.pickF rfl rfl rfl (WL.move rfl rfl (WL.pass rfl rfl rfl rfl (WL.pass rfl rfl rfl rfl (WL.pass rfl rfl rfl rfl (WL.pickT rfl rfl rfl (WL.move rfl rfl (WL.pass rfl rfl rfl rfl (?_))))))))
      refine WL.pass rfl rfl rfl rfl (WL.pass rfl rfl rfl rfl (WL.pickT rfl rfl rfl (WL.move rfl rfl (WL.pass rfl rfl rfl rfl (WL.pass rfl rfl rfl rfl (WL.pass rfl rfl rfl rfl (WL.pass rfl rfl rfl rfl (?_))))))))
      refine WL.pickT rfl rfl rfl (WL.nil (WX.then_normal (WC.cond_true rfl (WC.seq (WC.region (WL.assign rfl rfl (WL.assign rfl rfl (?_))))))))
      refine WL.nil (WX.then_normal (WC.ret (WX.then_ret (?_))))
      refine WX.ret2 (.inl rfl) Tryd.results36 rfl rfl ?_
      first
        | (have hr : ¬ rightP p := by unfold rightP; omega
           refine ⟨_, rfl, ?_, kk⟩
           rw [ptrS, ptrE, if_neg hr, if_neg hr])
        | (refine ⟨_, rfl, ?_, kk⟩
           rw [ptrS, ptrE, if_pos hr, if_pos hr]
           rfl)
    ·
      refine WL.pickF rfl rfl rfl (WL.move rfl rfl (WL.want rfl rfl rfl (WL.fieldAddr (fld_23_1) rfl rfl (WL.want rfl rfl rfl (WL.loadB Tryd.isAgg3 hb_1 rfl rfl rfl (WL.want rfl rfl rfl (?_)))))))
      refine WL.lss? rfl rfl rfl (fun h17 => ?_) (fun h17 => ?_)
      ·
        refine WL.pickF rfl rfl rfl (WL.move rfl rfl (WL.pass rfl rfl rfl rfl (WL.pass rfl rfl rfl rfl (WL.pass rfl rfl rfl rfl (WL.pickT rfl rfl rfl (WL.move rfl rfl (WL.pass rfl rfl rfl rfl (?_))))))))
        refine WL.pass rfl rfl rfl rfl (WL.pass rfl rfl rfl rfl (WL.pass rfl rfl rfl rfl (WL.pickT rfl rfl rfl (WL.nil (WX.then_normal (WC.cond_true rfl (WC.seq (?_))))))))
        refine WC.region (WL.assign rfl rfl (WL.assign rfl rfl (WL.nil (WX.then_normal (WC.ret (WX.then_ret (?_)))))))
        refine WX.ret2 (.inl rfl) Tryd.results36 rfl rfl ?_
        first
          | (have hr : ¬ rightP p := by unfold rightP; omega
             refine ⟨_, rfl, ?_, kk⟩
             rw [ptrS, ptrE, if_neg hr, if_neg hr])
          | (refine ⟨_, rfl, ?_, kk⟩
             rw [ptrS, ptrE, if_pos hr, if_pos hr]
             rfl)
      ·
        refine WL.pickF rfl rfl rfl (WL.move rfl rfl (WL.want rfl rfl rfl (WL.fieldAddr (fld_23_1) rfl rfl (WL.want rfl rfl rfl (WL.loadB Tryd.isAgg3 hb_1 rfl rfl rfl (WL.want rfl rfl rfl (?_)))))))
        refine WL.gtr? rfl rfl rfl (fun h22 => ?_) (fun h22 => ?_)
        ·
          refine WL.pickF rfl rfl rfl (WL.move rfl rfl (WL.pass rfl rfl rfl rfl (WL.pass rfl rfl rfl rfl (WL.pass rfl rfl rfl rfl (WL.pass rfl rfl rfl rfl (WL.pickT rfl rfl rfl (WL.nil (?_))))))))
          refine WX.then_normal (WC.cond_true rfl (WC.seq (WC.region (WL.assign rfl rfl (WL.assign rfl rfl (WL.nil (WX.then_normal (?_))))))))
          refine WC.ret (WX.then_ret (?_))
          refine WX.ret2 (.inl rfl) Tryd.results36 rfl rfl ?_
          first
            | (have hr : ¬ rightP p := by unfold rightP; omega
               refine ⟨_, rfl, ?_, kk⟩
               rw [ptrS, ptrE, if_neg hr, if_neg hr])
            | (refine ⟨_, rfl, ?_, kk⟩
               rw [ptrS, ptrE, if_pos hr, if_pos hr]
               rfl)
        ·
          refine WL.pickF rfl rfl rfl (WL.move rfl rfl (WL.want rfl rfl rfl (WL.fieldAddr (fld_23_3) rfl rfl (WL.want rfl rfl rfl (WL.loadB Tryd.isAgg9 hb_1 rfl rfl rfl (WL.want rfl rfl rfl (WL.lens Tryd.underlying9 rfl rfl (?_))))))))
          refine WL.want rfl rfl rfl (?_)
          refine WL.neq? rfl rfl rfl (fun h28 => ?_) (fun h28 => ?_)
          ·
            refine WL.pickF rfl rfl rfl (WL.nil (WX.then_normal (WC.cond_true rfl (WC.seq (WC.region (WL.assign rfl rfl (WL.assign rfl rfl (?_))))))))
            refine WL.nil (WX.then_normal (WC.ret (WX.then_ret (?_))))
            refine WX.ret2 (.inl rfl) Tryd.results36 rfl rfl ?_
            first
              | (have hr : ¬ rightP p := by unfold rightP; omega
                 refine ⟨_, rfl, ?_, kk⟩
                 rw [ptrS, ptrE, if_neg hr, if_neg hr])
              | (refine ⟨_, rfl, ?_, kk⟩
                 rw [ptrS, ptrE, if_pos hr, if_pos hr]
                 rfl)
          ·
            refine WL.pickF rfl rfl rfl (WL.nil (WX.then_normal (WC.cond_false rfl (WC.skip (WX.then_normal (WC.seq (WC.region (?_))))))))
            refine WL.fieldAddr (fld_23_0) rfl rfl (WL.loadB Tryd.isAgg3 hb_1 rfl rfl rfl (WL.bld rfl (bld_75_0_1 _ _) rfl (WL.fieldAddr (fld_23_1) rfl rfl (WL.loadB Tryd.isAgg3 hb_1 rfl rfl rfl (WL.bld rfl (bld_75_0_1 _ _) rfl (WL.fieldAddr (fld_23_2) rfl rfl (WL.loadB Tryd.isAgg3 hb_1 rfl rfl rfl (?_))))))))
            refine WL.bld rfl (bld_75_0_1 _ _) rfl (WL.fieldAddr (fld_23_3) rfl rfl (WL.loadB Tryd.isAgg9 hb_1 rfl rfl rfl (WL.bld rfl (bld_75_0_2 _ _) rfl (?_))))
            have hr : rightP p := by unfold rightP; omega
            refine WL.build (e := eit) [⟨1, p.a, ⟨#[]⟩⟩, ⟨1, p.z, ⟨#[]⟩⟩, ⟨1, p.b, ⟨#[]⟩⟩, ⟨2, 0, p.s⟩] Tryd.underlying76 Tryd.sizeOf75 Tryd.zeroValue75 rfl rfl rfl (by first | (simp [Value.cells]; done) | (simp [Value.cells] <;> rfl) | (simp [Value.cells, eb, ei, es, ebool, e32, e64]; done) | (simp [Value.cells] <;> (repeat' apply And.intro) <;> rfl)) (by decide) rfl ?_
            intro a_ha w_ha ha l_ha z_ha k_ha
            have zs_k_ha := k_ha.size
            replace kk := kk.pure k_ha
            replace hb_1 := hb_1.pure k_ha
            refine WL.call eg_64 rfl rfl (encode_calls ha.rsl (by simp)) ?_
            rintro v w2 ⟨ax, cx, rfl, hx, k2⟩
            rw [show checkE [⟨1, p.a, ⟨#[]⟩⟩, ⟨1, p.z, ⟨#[]⟩⟩, ⟨1, p.b, ⟨#[]⟩⟩, ⟨2, 0, p.s⟩] = 0 from pit_check hr hw] at hx ⊢
            rw [if_pos rfl] at hx ⊢
            have zs_k2 := k2.size
            replace kk := kk.pure k2
            replace hb_1 := hb_1.pure k2
            replace ha := ha.pure k2
            replace hx := hx.lt
            refine WL.move rfl rfl (WL.extract rfl rfl rfl (WL.extract rfl rfl rfl (WL.assign rfl rfl (WL.assign rfl rfl (WL.nil (WX.then_normal (WC.seq (?_))))))))
            refine WC.region (WL.move rfl rfl (WL.toStr Tryd.underlying26 Tryd.underlying5 Tryd.underlying9 hx.rsl rfl rfl (WL.move rfl rfl (WL.assign rfl rfl (WL.assign rfl rfl (WL.nil (WX.then_normal (?_))))))))
            refine WC.ret (?_)
            refine WX.ret2 (.inl rfl) Tryd.results36 rfl rfl ?_
            first
              | (have hr : ¬ rightP p := by unfold rightP; omega
                 refine ⟨_, rfl, ?_, kk⟩
                 rw [ptrS, ptrE, if_neg hr, if_neg hr])
              | (refine ⟨_, rfl, ?_, kk⟩
                 rw [ptrS, ptrE, if_pos hr, if_pos hr]
                 rfl)
end Go.Proofs.YtjeldcjchipdgaaDoor
