import Derived.Test.YtjeldcjchipdgaaDoorQIntentRooms2
namespace Go.Proofs.YtjeldcjchipdgaaDoor
open Go.RowKit Go.HL
set_option maxRecDepth 100000

/-! a count off the front -/
def ctd (k : Nat) : List UInt8 → Option (Nat × List UInt8)
  | [] => none
  | x :: r => if k = 10 ∨ (k = 9 ∧ 1 < x.toNat) ∨ (0 < k ∧ x.toNat = 0) then none else if x.toNat < 128 then some (x.toNat, r) else (ctd (k + 1) r).map fun p => (x.toNat % 128 + 128 * p.1, p.2)
theorem ctd_bound : ∀ (bs : List UInt8) (k : Nat) {c : Nat} {r : List UInt8}, k ≤ 10 → ctd k bs = some (c, r) → k ≤ 9 ∧ c < 2 ^ (64 - 7 * k) ∧ r.length < bs.length
  | [], k, c, r, _, h => by simp [ctd] at h
  | x :: bs, k, c, r, hk, h => by
    have hx := x.toNat_lt
    unfold ctd at h
    split at h
    · cases h
    · rename_i hn
      split at h
      · rename_i hl
        injection h with h
        injection h with h1 h2
        subst h1; subst h2
        refine ⟨by omega, ?_, by simp⟩
        have h9 : k = 9 ∨ k ≤ 8 := by omega
        rcases h9 with rfl | h9
        · have : x.toNat ≤ 1 := by omega
          omega
        · exact Nat.lt_of_lt_of_le hl (Nat.le_trans (by decide : 128 ≤ 2 ^ 8) (Nat.pow_le_pow_right (by decide) (by omega)))
      · rename_i hl
        obtain ⟨⟨c', r'⟩, h1, h2⟩ := Option.map_eq_some_iff.1 h
        injection h2 with h3 h4
        subst h3; subst h4
        obtain ⟨h5, h6, h7⟩ := ctd_bound bs (k + 1) (by omega) h1
        refine ⟨by omega, ?_, by simp; omega⟩
        have e : 2 ^ (64 - 7 * k) = 128 * 2 ^ (64 - 7 * (k + 1)) := by
          rw [show 64 - 7 * k = (64 - 7 * (k + 1)) + 7 from by omega, Nat.pow_add]
          omega
        rw [e]
        omega
theorem ctd_step {bs : List UInt8} {k : Nat} {x : UInt8} (hx : bs[k]? = some x) : ctd k (bs.drop k) = if k = 10 ∨ (k = 9 ∧ 1 < x.toNat) ∨ (0 < k ∧ x.toNat = 0) then none else if x.toNat < 128 then some (x.toNat, bs.drop (k + 1)) else (ctd (k + 1) (bs.drop (k + 1))).map fun p => (x.toNat % 128 + 128 * p.1, p.2) := by
  have hlt := (List.getElem?_eq_some_iff.1 hx).1
  have e : bs.drop k = x :: bs.drop (k + 1) := by
    rw [List.drop_eq_getElem_cons hlt]
    congr 1
    exact (List.getElem?_eq_some_iff.1 hx).2
  rw [e, ctd]
theorem and127 (x : UInt8) : (x &&& 127).toNat = x.toNat % 128 := by
  have h : ∀ y : Fin 256, (UInt8.ofNat y.1 &&& 127).toNat = (UInt8.ofNat y.1).toNat % 128 := by decide +kernel
  have := h ⟨x.toNat, x.toNat_lt⟩
  simpa using this
theorem or_part {c : UInt64} {x : UInt8} {k : Nat} (hk : k ≤ 9) (hc : c.toNat < 2 ^ (7 * k)) (h9 : k = 9 → x.toNat ≤ 1) : (c ||| ((x &&& 127).toUInt64 <<< UInt64.ofNat (7 * k))).toNat = c.toNat + x.toNat % 128 * 2 ^ (7 * k) ∧ c.toNat + x.toNat % 128 * 2 ^ (7 * k) < 2 ^ (7 * (k + 1)) := by
  have hx := x.toNat_lt
  have hb : x.toNat % 128 * 2 ^ (7 * k) < 2 ^ 64 := by
    have h : k = 9 ∨ k ≤ 8 := by omega
    rcases h with rfl | h
    · have := h9 rfl
      have h3 : x.toNat % 128 ≤ 1 := by omega
      exact Nat.lt_of_le_of_lt (Nat.mul_le_mul_right _ h3) (by decide)
    · have h1 : x.toNat % 128 ≤ 127 := by omega
      have h2 : 2 ^ (7 * k) ≤ 2 ^ 56 := Nat.pow_le_pow_right (by decide) (by omega)
      exact Nat.lt_of_le_of_lt (Nat.mul_le_mul h1 h2) (by decide)
  have h1 : ((x &&& 127).toUInt64 <<< UInt64.ofNat (7 * k)).toNat = x.toNat % 128 * 2 ^ (7 * k) := by
    rw [UInt64.toNat_shiftLeft]
    simp only [UInt64.toNat_ofNat', UInt8.toNat_toUInt64, and127]
    rw [show 7 * k % 2 ^ 64 % 64 = 7 * k from by omega, Nat.shiftLeft_eq, Nat.mod_eq_of_lt hb]
  constructor
  · rw [UInt64.toNat_or, h1, Nat.or_comm, ← Nat.shiftLeft_eq, ← Nat.shiftLeft_add_eq_or_of_lt hc]
    omega
  · rw [show 7 * (k + 1) = 7 * k + 7 from by omega, Nat.pow_add]
    have : x.toNat % 128 ≤ 127 := by omega
    have h5 := Nat.mul_le_mul_right (2 ^ (7 * k)) this
    omega
/-- what has been taken, with what is to come -/
def ctdI (bs : List UInt8) (k c : Nat) : Prop := ctd 0 bs = (ctd k (bs.drop k)).map fun p => (c + 2 ^ (7 * k) * p.1, p.2)
theorem ctdI_start (bs : List UInt8) : ctdI bs 0 0 := by unfold ctdI; cases h : ctd 0 bs <;> simp [h]
theorem ctdI_bad {bs : List UInt8} {k c : Nat} {x : UInt8} (hi : ctdI bs k c) (hx : bs[k]? = some x) (h : k = 10 ∨ (k = 9 ∧ 1 < x.toNat) ∨ (0 < k ∧ x.toNat = 0)) : ctd 0 bs = none := by
  unfold ctdI at hi
  rw [hi, ctd_step hx, if_pos h]
  rfl
theorem ctdI_end {bs : List UInt8} {k c : Nat} (hi : ctdI bs k c) (h : bs.length ≤ k ∨ k = 10) : ctd 0 bs = none := by
  unfold ctdI at hi
  rw [hi]
  have : ctd k (bs.drop k) = none := by
    rcases h with h | rfl
    · rw [List.drop_eq_nil_of_le h]; rfl
    · cases hd : bs.drop 10 with
      | nil => rfl
      | cons y r => simp [ctd]
  rw [this]
  rfl
theorem ctdI_done {bs : List UInt8} {k c : Nat} {x : UInt8} (hi : ctdI bs k c) (hx : bs[k]? = some x) (h : ¬ (k = 10 ∨ (k = 9 ∧ 1 < x.toNat) ∨ (0 < k ∧ x.toNat = 0))) (hl : x.toNat < 128) : ctd 0 bs = some (c + x.toNat % 128 * 2 ^ (7 * k), bs.drop (k + 1)) := by
  unfold ctdI at hi
  rw [hi, ctd_step hx, if_neg h, if_pos hl, Option.map_some, Nat.mod_eq_of_lt hl, Nat.mul_comm]
theorem ctdI_more {bs : List UInt8} {k c : Nat} {x : UInt8} (hi : ctdI bs k c) (hx : bs[k]? = some x) (h : ¬ (k = 10 ∨ (k = 9 ∧ 1 < x.toNat) ∨ (0 < k ∧ x.toNat = 0))) (hl : ¬ x.toNat < 128) : ctdI bs (k + 1) (c + x.toNat % 128 * 2 ^ (7 * k)) := by
  unfold ctdI at hi ⊢
  rw [hi, ctd_step hx, if_neg h, if_neg hl, Option.map_map]
  congr 1
  funext p
  simp only [Function.comp, Prod.mk.injEq, and_true]
  rw [show 7 * (k + 1) = 7 * k + 7 from by omega, Nat.pow_add, Nat.mul_add, Nat.mul_comm (x.toNat % 128), ← Nat.mul_assoc, Nat.add_assoc]

theorem counted_calls {S : Nat → Prop} {w : World} {ao : Option Addr} {c : Nat} {bs : List UInt8} (hr : RSl S w eb ao c bs) (hl : bs.length ≤ 9223372036854775807) :
    Calls Tryd.prog 95 [.slice ao bs.length c].toArray w (Ret fun v w' => ((∃ (c : UInt64) (r : List UInt8) (ao' : Option Addr) (c' : Nat), v = .tuple #[v64 c, .slice ao' r.length c', .bool true] ∧ ctd 0 bs = some (c.toNat, r) ∧ RSl S w' eb ao' c' r) ∨ (v = .tuple #[v64 0, .slice none 0 0, .bool false] ∧ ctd 0 bs = none)) ∧ Chg Nob w w') := by
  refine Calls.of_WC Tryd.func95 rfl Tryd.ntmps95 (by simp) ?_
  refine WC.seq (WC.region (WL.assign rfl rfl (WL.assign rfl rfl (WL.assign rfl rfl (WL.nil (WX.then_normal (WC.seq (?_))))))))
  refine WC.region (WL.assign rfl rfl (WL.nil (WX.then_normal (WC.seq (WC.seq (WC.region (WL.move rfl rfl (?_))))))))
  refine WL.len Tryd.underlying26 rfl rfl (WL.move rfl rfl (WL.nil (WX.then_normal (WC.block (?_)))))
  refine WC.loop (σ := Nat × UInt64) (fun s => [(0, .slice ao bs.length c), (8, .slice ao bs.length c), (9, vi bs.length), (5, v64 s.2), (10, vi s.1)])
    (fun s w' => s.1 ≤ 10 ∧ s.1 ≤ bs.length ∧ s.2.toNat < 2 ^ (7 * s.1) ∧ ctdI bs s.1 s.2.toNat ∧ Chg Nob w w') (fun s => 10 - s.1) (0, 0) ⟨rfl, rfl, rfl, rfl, rfl, trivial⟩ ⟨by omega, by simp, by simp, ctdI_start _, Chg.refl _ _⟩ ?_
  rintro ⟨k, u⟩ w1 ⟨hk, hkl, hu, hi, kk⟩
  dsimp only at hk hkl hu hi kk ⊢
  replace hr := hr.pure kk
  refine WC.seq (WC.region (?_))
  refine WL.lss? rfl rfl rfl (fun h11 => ?_) (fun h11 => ?_)
  ·
    refine WL.nil (WX.then_normal (WC.seq (WC.cond_true rfl (WC.skip (WX.then_normal (WC.seq (WC.block (?_))))))))
    refine WC.seq (WC.region (WL.move rfl rfl (?_)))
    obtain ⟨x, hx⟩ : ∃ x, bs[k]? = some x := ⟨_, List.getElem?_eq_getElem (by omega)⟩
    refine WL.indexT Tryd.underlying26 Tryd.sizeOf5 hr rfl rfl ⟨hx, rfl⟩ rfl ?_
    intro b_1 o_1 hc_1
    refine WL.load Tryd.isAgg5 rfl (hc_1 0 _ rfl) rfl (WL.assign rfl rfl (WL.assign rfl rfl (WL.nil (WX.then_normal (WC.seq (WC.seq (WC.region (?_))))))))
    refine WL.move rfl rfl (?_)
    refine WL.eql? rfl rfl rfl (fun h16 => ?_) (fun h16 => ?_)
    ·
      refine WL.move rfl rfl (WL.pass rfl rfl rfl rfl (WL.pass rfl rfl rfl rfl (WL.pass rfl rfl rfl rfl (WL.passU rfl rfl rfl (WL.passU rfl rfl rfl (WL.pass rfl rfl rfl rfl (WL.pickT rfl rfl rfl (?_))))))))
      refine WL.move rfl rfl (WL.pass rfl rfl rfl rfl (WL.pass rfl rfl rfl rfl (WL.pass rfl rfl rfl rfl (WL.passU rfl rfl rfl (WL.passU rfl rfl rfl (WL.pass rfl rfl rfl rfl (WL.pickT rfl rfl rfl (?_))))))))
      refine WL.nil (WX.then_normal (WC.cond_true rfl (WC.seq (WC.region (WL.assign rfl rfl (WL.assign rfl rfl (WL.assign rfl rfl (?_))))))))
      refine WL.nil (WX.then_normal (WC.ret (WX.then_ret (WX.block_ret (WX.then_ret (WX.then_ret (WX.block_ret (?_))))))))
      refine WX.then_ret (?_)
      refine WX.ret3 (.inl rfl) Tryd.results95 rfl rfl rfl ?_
      first
        | (refine ⟨_, rfl, .inr ⟨rfl, ?_⟩, kk⟩
           first
             | exact ctdI_bad hi hx (by omega)
             | exact ctdI_end hi (by omega))
        | (refine ⟨_, rfl, .inl ⟨_, _, _, _, rfl, ?_, hc⟩, kk⟩
           rw [hor.1]
           rw [List.take_of_length_le (Nat.le_refl _)]
           exact ctdI_done hi hx hbad (by omega))
    ·
      refine WL.move rfl rfl (WL.want rfl rfl rfl (WL.move rfl rfl (WL.want rfl rfl rfl (?_))))
      refine WL.eql? rfl rfl rfl (fun h19 => ?_) (fun h19 => ?_)
      ·
        refine WL.want rfl rfl rfl (WL.move rfl rfl (WL.want rfl rfl rfl (WL.move rfl rfl (WL.want rfl rfl rfl (?_)))))
        refine WL.gtr? rfl rfl rfl (fun h22 => ?_) (fun h22 => ?_)
        ·
          refine WL.want rfl rfl rfl (WL.pickT rfl rfl rfl (WL.pickF rfl rfl rfl (WL.move rfl rfl (WL.pass rfl rfl rfl rfl (WL.pass rfl rfl rfl rfl (WL.pass rfl rfl rfl rfl (WL.passU rfl rfl rfl (?_))))))))
          refine WL.passU rfl rfl rfl (WL.pass rfl rfl rfl rfl (WL.pickT rfl rfl rfl (WL.nil (WX.then_normal (WC.cond_true rfl (WC.seq (WC.region (?_))))))))
          refine WL.assign rfl rfl (WL.assign rfl rfl (WL.assign rfl rfl (WL.nil (WX.then_normal (WC.ret (WX.then_ret (WX.block_ret (?_))))))))
          refine WX.then_ret (WX.then_ret (WX.block_ret (WX.then_ret (?_))))
          refine WX.ret3 (.inl rfl) Tryd.results95 rfl rfl rfl ?_
          first
            | (refine ⟨_, rfl, .inr ⟨rfl, ?_⟩, kk⟩
               first
                 | exact ctdI_bad hi hx (by omega)
                 | exact ctdI_end hi (by omega))
            | (refine ⟨_, rfl, .inl ⟨_, _, _, _, rfl, ?_, hc⟩, kk⟩
               rw [hor.1]
               rw [List.take_of_length_le (Nat.le_refl _)]
               exact ctdI_done hi hx hbad (by omega))
        ·
          refine WL.want rfl rfl rfl (WL.pickT rfl rfl rfl (WL.pickF rfl rfl rfl (WL.move rfl rfl (WL.want rfl rfl rfl (WL.move rfl rfl (WL.want rfl rfl rfl (?_)))))))
          refine WL.gtr? rfl rfl rfl (fun h27 => ?_) (fun h27 => ?_)
          ·
            refine WL.want rfl rfl rfl (WL.move rfl rfl (WL.want rfl rfl rfl (WL.move rfl rfl (WL.want rfl rfl rfl (?_)))))
            refine WL.eql? rfl rfl rfl (fun h30 => ?_) (fun h30 => ?_)
            ·
              refine WL.want rfl rfl rfl (WL.pickT rfl rfl rfl (WL.pickF rfl rfl rfl (WL.nil (WX.then_normal (WC.cond_true rfl (WC.seq (WC.region (?_))))))))
              refine WL.assign rfl rfl (WL.assign rfl rfl (WL.assign rfl rfl (WL.nil (WX.then_normal (WC.ret (WX.then_ret (WX.block_ret (?_))))))))
              refine WX.then_ret (WX.then_ret (WX.block_ret (WX.then_ret (?_))))
              refine WX.ret3 (.inl rfl) Tryd.results95 rfl rfl rfl ?_
              first
                | (refine ⟨_, rfl, .inr ⟨rfl, ?_⟩, kk⟩
                   first
                     | exact ctdI_bad hi hx (by omega)
                     | exact ctdI_end hi (by omega))
                | (refine ⟨_, rfl, .inl ⟨_, _, _, _, rfl, ?_, hc⟩, kk⟩
                   rw [hor.1]
                   rw [List.take_of_length_le (Nat.le_refl _)]
                   exact ctdI_done hi hx hbad (by omega))
            ·
              refine WL.want rfl rfl rfl (WL.pickT rfl rfl rfl (WL.pickF rfl rfl rfl (WL.nil (WX.then_normal (WC.cond_false rfl (WC.skip (WX.then_normal (?_))))))))
              refine WC.seq (WC.region (WL.move rfl rfl (WL.move rfl rfl (WL.num rfl rfl (n_and8 _ _ _ 127) rfl (WL.c_u8_u64 Tryd.underlying5 Tryd.underlying44 rfl rfl (WL.move rfl rfl (WL.mul64 rfl rfl (by omega) rfl (?_))))))))
              have hbad : ¬ (k = 10 ∨ (k = 9 ∧ 1 < x.toNat) ∨ (0 < k ∧ x.toNat = 0)) := by omega
              have hor := or_part (c := u) (x := x) (k := k) (by omega) hu (by omega)
              refine WL.shlv (7 * k) rfl rfl ⟨by omega, by omega⟩ rfl ?_
              refine WL.num rfl rfl (n_or64 _ _ _ _) rfl (WL.assign rfl rfl (WL.nil (WX.then_normal (WC.seq (WC.region (WL.move rfl rfl (?_)))))))
              refine WL.lss? rfl rfl rfl (fun h42 => ?_) (fun h42 => ?_)
              ·
                refine WL.nil (WX.then_normal (WC.cond_true rfl (WC.seq (?_))))
                have hc := hr.cut (k + 1) bs.length (by constructor <;> omega)
                refine WC.draw (Nob) [0, 1, 2, 3, 4, 5, 6, 7] [] mixed rfl rfl (fun wd_2 kd_2 zd_2 => ?_)
                have zs_kd_2 := kd_2.size
                replace hr := hr.pure kd_2
                replace kk := kk.pure kd_2
                replace hc := hc.pure kd_2
                apply DQ.step (E' := [(5, _)])
                case ho => rfl
                case hs => exact ⟨rfl, trivial⟩
                case hk => rfl
                case h1 =>
                  intro wq_3 kq_3
                  refine WL.move rfl rfl (?_)
                  refine WL.nil ?_
                  exact WX.one ⟨rfl, by exact Chg.refl _ _⟩
                apply DQ.step (E' := [(0, _)])
                case ho => rfl
                case hs => exact ⟨rfl, trivial⟩
                case hk => rfl
                case h1 =>
                  intro wq_4 kq_4
                  refine WL.move rfl rfl (?_)
                  refine WL.nil ?_
                  exact WX.one ⟨rfl, by exact Chg.refl _ _⟩
                apply DQ.step (E' := [(6, _)])
                case ho => rfl
                case hs => exact ⟨rfl, trivial⟩
                case hk => rfl
                case h1 =>
                  intro wq_5 kq_5
                  refine WL.move rfl rfl (?_)
                  refine WL.nil ?_
                  exact WX.one ⟨rfl, by exact Chg.refl _ _⟩
                apply DQ.step (E' := [(45, _)])
                case ho => rfl
                case hs => exact ⟨rfl, trivial⟩
                case hk => rfl
                case h1 =>
                  intro wq_6 kq_6
                  refine WL.add64 rfl rfl (by omega) rfl (?_)
                  refine WL.nil ?_
                  exact WX.one ⟨rfl, by exact Chg.refl _ _⟩
                apply DQ.step (E' := [(44, _), (46, _)])
                case ho => rfl
                case hs => exact ⟨rfl, rfl, trivial⟩
                case hk => rfl
                case h1 =>
                  intro wq_7 kq_7
                  have zs_kq_7 := kq_7.size
                  replace hr := hr.pure kq_7
                  replace kk := kk.pure kq_7
                  replace hc := hc.pure kq_7
                  refine WL.sliceC (l := k + 1) (h := bs.length) (j := .i64) Tryd.underlying26 Tryd.sizeOf5 hr rfl (.inl rfl) (.inr ⟨rfl, rfl⟩) (by constructor <;> omega) rfl ?_
                  refine WL.nil ?_
                  exact WX.one ⟨rfl, by exact Chg.refl _ _⟩
                apply DQ.step (E' := [(43, _)])
                case ho => rfl
                case hs => exact ⟨rfl, trivial⟩
                case hk => rfl
                case h1 =>
                  intro wq_8 kq_8
                  refine WL.assign rfl rfl (?_)
                  refine WL.nil ?_
                  exact WX.one ⟨rfl, by exact Chg.refl _ _⟩
                apply DQ.step (E' := [(47, _)])
                case ho => rfl
                case hs => exact ⟨rfl, trivial⟩
                case hk => rfl
                case h1 =>
                  intro wq_9 kq_9
                  refine WL.assign rfl rfl (?_)
                  refine WL.nil ?_
                  exact WX.one ⟨rfl, by exact Chg.refl _ _⟩
                apply DQ.step (E' := [])
                case ho => rfl
                case hs => exact trivial
                case hk => rfl
                case h1 =>
                  intro wq_10 kq_10
                  refine WL.assign rfl rfl (?_)
                  refine WL.nil ?_
                  exact WX.one ⟨rfl, by exact Chg.refl _ _⟩
                refine DQ.done (fun _ => ?_)
                refine DL.done (fun we_11 ke_11 => ?_)
                have zs_ke_11 := ke_11.size
                replace hr := hr.pure ke_11
                replace kk := kk.pure ke_11
                replace hc := hc.pure ke_11
                refine WX.then_normal (WC.ret (WX.block_ret (WX.then_ret (WX.then_ret (WX.block_ret (WX.then_ret (?_)))))))
                refine WX.ret3 (.inl rfl) Tryd.results95 rfl rfl rfl ?_
                first
                  | (refine ⟨_, rfl, .inr ⟨rfl, ?_⟩, kk⟩
                     first
                       | exact ctdI_bad hi hx (by omega)
                       | exact ctdI_end hi (by omega))
                  | (refine ⟨_, rfl, .inl ⟨_, _, _, _, rfl, ?_, hc⟩, kk⟩
                     rw [hor.1]
                     rw [List.take_of_length_le (Nat.le_refl _)]
                     exact ctdI_done hi hx hbad (by omega))
              ·
                refine WL.nil (WX.then_normal (WC.cond_false rfl (WC.skip (WX.block_normal (WX.then_normal (WC.region (WL.add64 rfl rfl (by omega) rfl (?_))))))))
                refine WL.move rfl rfl (WL.nil (?_))
                refine WX.loop_next (k + 1, u ||| ((x &&& 127).toUInt64 <<< UInt64.ofNat (7 * k))) ⟨rfl, rfl, rfl, rfl, rfl, trivial⟩ ⟨by dsimp only; omega, by dsimp only; omega, ?_, ?_, kk⟩ (by show _ - _ < _ - _; omega)
                ·
                  dsimp only
                  rw [hor.1]; exact hor.2
                ·
                  dsimp only
                  rw [hor.1]; exact ctdI_more hi hx hbad (by omega)
          ·
            refine WL.want rfl rfl rfl (WL.move rfl rfl (WL.pass rfl rfl rfl rfl (WL.pass rfl rfl rfl rfl (WL.want rfl rfl rfl (WL.pickF rfl rfl rfl (WL.pickF rfl rfl rfl (WL.nil (?_))))))))
            refine WX.then_normal (WC.cond_false rfl (WC.skip (WX.then_normal (WC.seq (WC.region (WL.move rfl rfl (WL.move rfl rfl (?_))))))))
            refine WL.num rfl rfl (n_and8 _ _ _ 127) rfl (WL.c_u8_u64 Tryd.underlying5 Tryd.underlying44 rfl rfl (WL.move rfl rfl (WL.mul64 rfl rfl (by omega) rfl (?_))))
            have hbad : ¬ (k = 10 ∨ (k = 9 ∧ 1 < x.toNat) ∨ (0 < k ∧ x.toNat = 0)) := by omega
            have hor := or_part (c := u) (x := x) (k := k) (by omega) hu (by omega)
            refine WL.shlv (7 * k) rfl rfl ⟨by omega, by omega⟩ rfl ?_
            refine WL.num rfl rfl (n_or64 _ _ _ _) rfl (WL.assign rfl rfl (WL.nil (WX.then_normal (WC.seq (WC.region (WL.move rfl rfl (?_)))))))
            refine WL.lss? rfl rfl rfl (fun h42 => ?_) (fun h42 => ?_)
            ·
              refine WL.nil (WX.then_normal (WC.cond_true rfl (WC.seq (?_))))
              have hc := hr.cut (k + 1) bs.length (by constructor <;> omega)
              refine WC.draw (Nob) [0, 1, 2, 3, 4, 5, 6, 7] [] mixed rfl rfl (fun wd_2 kd_2 zd_2 => ?_)
              have zs_kd_2 := kd_2.size
              replace hr := hr.pure kd_2
              replace kk := kk.pure kd_2
              replace hc := hc.pure kd_2
              apply DQ.step (E' := [(5, _)])
              case ho => rfl
              case hs => exact ⟨rfl, trivial⟩
              case hk => rfl
              case h1 =>
                intro wq_3 kq_3
                refine WL.move rfl rfl (?_)
                refine WL.nil ?_
                exact WX.one ⟨rfl, by exact Chg.refl _ _⟩
              apply DQ.step (E' := [(0, _)])
              case ho => rfl
              case hs => exact ⟨rfl, trivial⟩
              case hk => rfl
              case h1 =>
                intro wq_4 kq_4
                refine WL.move rfl rfl (?_)
                refine WL.nil ?_
                exact WX.one ⟨rfl, by exact Chg.refl _ _⟩
              apply DQ.step (E' := [(6, _)])
              case ho => rfl
              case hs => exact ⟨rfl, trivial⟩
              case hk => rfl
              case h1 =>
                intro wq_5 kq_5
                refine WL.move rfl rfl (?_)
                refine WL.nil ?_
                exact WX.one ⟨rfl, by exact Chg.refl _ _⟩
              apply DQ.step (E' := [(45, _)])
              case ho => rfl
              case hs => exact ⟨rfl, trivial⟩
              case hk => rfl
              case h1 =>
                intro wq_6 kq_6
                refine WL.add64 rfl rfl (by omega) rfl (?_)
                refine WL.nil ?_
                exact WX.one ⟨rfl, by exact Chg.refl _ _⟩
              apply DQ.step (E' := [(44, _), (46, _)])
              case ho => rfl
              case hs => exact ⟨rfl, rfl, trivial⟩
              case hk => rfl
              case h1 =>
                intro wq_7 kq_7
                have zs_kq_7 := kq_7.size
                replace hr := hr.pure kq_7
                replace kk := kk.pure kq_7
                replace hc := hc.pure kq_7
                refine WL.sliceC (l := k + 1) (h := bs.length) (j := .i64) Tryd.underlying26 Tryd.sizeOf5 hr rfl (.inl rfl) (.inr ⟨rfl, rfl⟩) (by constructor <;> omega) rfl ?_
                refine WL.nil ?_
                exact WX.one ⟨rfl, by exact Chg.refl _ _⟩
              apply DQ.step (E' := [(43, _)])
              case ho => rfl
              case hs => exact ⟨rfl, trivial⟩
              case hk => rfl
              case h1 =>
                intro wq_8 kq_8
                refine WL.assign rfl rfl (?_)
                refine WL.nil ?_
                exact WX.one ⟨rfl, by exact Chg.refl _ _⟩
              apply DQ.step (E' := [(47, _)])
              case ho => rfl
              case hs => exact ⟨rfl, trivial⟩
              case hk => rfl
              case h1 =>
                intro wq_9 kq_9
                refine WL.assign rfl rfl (?_)
                refine WL.nil ?_
                exact WX.one ⟨rfl, by exact Chg.refl _ _⟩
              apply DQ.step (E' := [])
              case ho => rfl
              case hs => exact trivial
              case hk => rfl
              case h1 =>
                intro wq_10 kq_10
                refine WL.assign rfl rfl (?_)
                refine WL.nil ?_
                exact WX.one ⟨rfl, by exact Chg.refl _ _⟩
              refine DQ.done (fun _ => ?_)
              refine DL.done (fun we_11 ke_11 => ?_)
              have zs_ke_11 := ke_11.size
              replace hr := hr.pure ke_11
              replace kk := kk.pure ke_11
              replace hc := hc.pure ke_11
              refine WX.then_normal (WC.ret (WX.block_ret (WX.then_ret (WX.then_ret (WX.block_ret (WX.then_ret (?_)))))))
              refine WX.ret3 (.inl rfl) Tryd.results95 rfl rfl rfl ?_
              first
                | (refine ⟨_, rfl, .inr ⟨rfl, ?_⟩, kk⟩
                   first
                     | exact ctdI_bad hi hx (by omega)
                     | exact ctdI_end hi (by omega))
                | (refine ⟨_, rfl, .inl ⟨_, _, _, _, rfl, ?_, hc⟩, kk⟩
                   rw [hor.1]
                   rw [List.take_of_length_le (Nat.le_refl _)]
                   exact ctdI_done hi hx hbad (by omega))
            ·
              refine WL.nil (WX.then_normal (WC.cond_false rfl (WC.skip (WX.block_normal (WX.then_normal (WC.region (WL.add64 rfl rfl (by omega) rfl (?_))))))))
              refine WL.move rfl rfl (WL.nil (?_))
              refine WX.loop_next (k + 1, u ||| ((x &&& 127).toUInt64 <<< UInt64.ofNat (7 * k))) ⟨rfl, rfl, rfl, rfl, rfl, trivial⟩ ⟨by dsimp only; omega, by dsimp only; omega, ?_, ?_, kk⟩ (by show _ - _ < _ - _; omega)
              ·
                dsimp only
                rw [hor.1]; exact hor.2
              ·
                dsimp only
                rw [hor.1]; exact ctdI_more hi hx hbad (by omega)
      ·
        refine WL.want rfl rfl rfl (WL.move rfl rfl (WL.pass rfl rfl rfl rfl (WL.pass rfl rfl rfl rfl (WL.want rfl rfl rfl (WL.pickF rfl rfl rfl (WL.pickF rfl rfl rfl (WL.move rfl rfl (?_))))))))
        refine WL.want rfl rfl rfl (WL.move rfl rfl (WL.want rfl rfl rfl (?_)))
        refine WL.gtr? rfl rfl rfl (fun h27 => ?_) (fun h27 => ?_)
        ·
          refine WL.want rfl rfl rfl (WL.move rfl rfl (WL.want rfl rfl rfl (WL.move rfl rfl (WL.want rfl rfl rfl (?_)))))
          refine WL.eql? rfl rfl rfl (fun h30 => ?_) (fun h30 => ?_)
          ·
            refine WL.want rfl rfl rfl (WL.pickT rfl rfl rfl (WL.pickF rfl rfl rfl (WL.nil (WX.then_normal (WC.cond_true rfl (WC.seq (WC.region (?_))))))))
            refine WL.assign rfl rfl (WL.assign rfl rfl (WL.assign rfl rfl (WL.nil (WX.then_normal (WC.ret (WX.then_ret (WX.block_ret (?_))))))))
            refine WX.then_ret (WX.then_ret (WX.block_ret (WX.then_ret (?_))))
            refine WX.ret3 (.inl rfl) Tryd.results95 rfl rfl rfl ?_
            first
              | (refine ⟨_, rfl, .inr ⟨rfl, ?_⟩, kk⟩
                 first
                   | exact ctdI_bad hi hx (by omega)
                   | exact ctdI_end hi (by omega))
              | (refine ⟨_, rfl, .inl ⟨_, _, _, _, rfl, ?_, hc⟩, kk⟩
                 rw [hor.1]
                 rw [List.take_of_length_le (Nat.le_refl _)]
                 exact ctdI_done hi hx hbad (by omega))
          ·
            refine WL.want rfl rfl rfl (WL.pickT rfl rfl rfl (WL.pickF rfl rfl rfl (WL.nil (WX.then_normal (WC.cond_false rfl (WC.skip (WX.then_normal (?_))))))))
            refine WC.seq (WC.region (WL.move rfl rfl (WL.move rfl rfl (WL.num rfl rfl (n_and8 _ _ _ 127) rfl (WL.c_u8_u64 Tryd.underlying5 Tryd.underlying44 rfl rfl (WL.move rfl rfl (WL.mul64 rfl rfl (by omega) rfl (?_))))))))
            have hbad : ¬ (k = 10 ∨ (k = 9 ∧ 1 < x.toNat) ∨ (0 < k ∧ x.toNat = 0)) := by omega
            have hor := or_part (c := u) (x := x) (k := k) (by omega) hu (by omega)
            refine WL.shlv (7 * k) rfl rfl ⟨by omega, by omega⟩ rfl ?_
            refine WL.num rfl rfl (n_or64 _ _ _ _) rfl (WL.assign rfl rfl (WL.nil (WX.then_normal (WC.seq (WC.region (WL.move rfl rfl (?_)))))))
            refine WL.lss? rfl rfl rfl (fun h42 => ?_) (fun h42 => ?_)
            ·
              refine WL.nil (WX.then_normal (WC.cond_true rfl (WC.seq (?_))))
              have hc := hr.cut (k + 1) bs.length (by constructor <;> omega)
              refine WC.draw (Nob) [0, 1, 2, 3, 4, 5, 6, 7] [] mixed rfl rfl (fun wd_2 kd_2 zd_2 => ?_)
              have zs_kd_2 := kd_2.size
              replace hr := hr.pure kd_2
              replace kk := kk.pure kd_2
              replace hc := hc.pure kd_2
              apply DQ.step (E' := [(5, _)])
              case ho => rfl
              case hs => exact ⟨rfl, trivial⟩
              case hk => rfl
              case h1 =>
                intro wq_3 kq_3
                refine WL.move rfl rfl (?_)
                refine WL.nil ?_
                exact WX.one ⟨rfl, by exact Chg.refl _ _⟩
              apply DQ.step (E' := [(0, _)])
              case ho => rfl
              case hs => exact ⟨rfl, trivial⟩
              case hk => rfl
              case h1 =>
                intro wq_4 kq_4
                refine WL.move rfl rfl (?_)
                refine WL.nil ?_
                exact WX.one ⟨rfl, by exact Chg.refl _ _⟩
              apply DQ.step (E' := [(6, _)])
              case ho => rfl
              case hs => exact ⟨rfl, trivial⟩
              case hk => rfl
              case h1 =>
                intro wq_5 kq_5
                refine WL.move rfl rfl (?_)
                refine WL.nil ?_
                exact WX.one ⟨rfl, by exact Chg.refl _ _⟩
              apply DQ.step (E' := [(45, _)])
              case ho => rfl
              case hs => exact ⟨rfl, trivial⟩
              case hk => rfl
              case h1 =>
                intro wq_6 kq_6
                refine WL.add64 rfl rfl (by omega) rfl (?_)
                refine WL.nil ?_
                exact WX.one ⟨rfl, by exact Chg.refl _ _⟩
              apply DQ.step (E' := [(44, _), (46, _)])
              case ho => rfl
              case hs => exact ⟨rfl, rfl, trivial⟩
              case hk => rfl
              case h1 =>
                intro wq_7 kq_7
                have zs_kq_7 := kq_7.size
                replace hr := hr.pure kq_7
                replace kk := kk.pure kq_7
                replace hc := hc.pure kq_7
                refine WL.sliceC (l := k + 1) (h := bs.length) (j := .i64) Tryd.underlying26 Tryd.sizeOf5 hr rfl (.inl rfl) (.inr ⟨rfl, rfl⟩) (by constructor <;> omega) rfl ?_
                refine WL.nil ?_
                exact WX.one ⟨rfl, by exact Chg.refl _ _⟩
              apply DQ.step (E' := [(43, _)])
              case ho => rfl
              case hs => exact ⟨rfl, trivial⟩
              case hk => rfl
              case h1 =>
                intro wq_8 kq_8
                refine WL.assign rfl rfl (?_)
                refine WL.nil ?_
                exact WX.one ⟨rfl, by exact Chg.refl _ _⟩
              apply DQ.step (E' := [(47, _)])
              case ho => rfl
              case hs => exact ⟨rfl, trivial⟩
              case hk => rfl
              case h1 =>
                intro wq_9 kq_9
                refine WL.assign rfl rfl (?_)
                refine WL.nil ?_
                exact WX.one ⟨rfl, by exact Chg.refl _ _⟩
              apply DQ.step (E' := [])
              case ho => rfl
              case hs => exact trivial
              case hk => rfl
              case h1 =>
                intro wq_10 kq_10
                refine WL.assign rfl rfl (?_)
                refine WL.nil ?_
                exact WX.one ⟨rfl, by exact Chg.refl _ _⟩
              refine DQ.done (fun _ => ?_)
              refine DL.done (fun we_11 ke_11 => ?_)
              have zs_ke_11 := ke_11.size
              replace hr := hr.pure ke_11
              replace kk := kk.pure ke_11
              replace hc := hc.pure ke_11
              refine WX.then_normal (WC.ret (WX.block_ret (WX.then_ret (WX.then_ret (WX.block_ret (WX.then_ret (?_)))))))
              refine WX.ret3 (.inl rfl) Tryd.results95 rfl rfl rfl ?_
              first
                | (refine ⟨_, rfl, .inr ⟨rfl, ?_⟩, kk⟩
                   first
                     | exact ctdI_bad hi hx (by omega)
                     | exact ctdI_end hi (by omega))
                | (refine ⟨_, rfl, .inl ⟨_, _, _, _, rfl, ?_, hc⟩, kk⟩
                   rw [hor.1]
                   rw [List.take_of_length_le (Nat.le_refl _)]
                   exact ctdI_done hi hx hbad (by omega))
            ·
              refine WL.nil (WX.then_normal (WC.cond_false rfl (WC.skip (WX.block_normal (WX.then_normal (WC.region (WL.add64 rfl rfl (by omega) rfl (?_))))))))
              refine WL.move rfl rfl (WL.nil (?_))
              refine WX.loop_next (k + 1, u ||| ((x &&& 127).toUInt64 <<< UInt64.ofNat (7 * k))) ⟨rfl, rfl, rfl, rfl, rfl, trivial⟩ ⟨by dsimp only; omega, by dsimp only; omega, ?_, ?_, kk⟩ (by show _ - _ < _ - _; omega)
              ·
                dsimp only
                rw [hor.1]; exact hor.2
              ·
                dsimp only
                rw [hor.1]; exact ctdI_more hi hx hbad (by omega)
        ·
          refine WL.want rfl rfl rfl (WL.move rfl rfl (WL.pass rfl rfl rfl rfl (WL.pass rfl rfl rfl rfl (WL.want rfl rfl rfl (WL.pickF rfl rfl rfl (WL.pickF rfl rfl rfl (WL.nil (?_))))))))
          refine WX.then_normal (WC.cond_false rfl (WC.skip (WX.then_normal (WC.seq (WC.region (WL.move rfl rfl (WL.move rfl rfl (?_))))))))
          refine WL.num rfl rfl (n_and8 _ _ _ 127) rfl (WL.c_u8_u64 Tryd.underlying5 Tryd.underlying44 rfl rfl (WL.move rfl rfl (WL.mul64 rfl rfl (by omega) rfl (?_))))
          have hbad : ¬ (k = 10 ∨ (k = 9 ∧ 1 < x.toNat) ∨ (0 < k ∧ x.toNat = 0)) := by omega
          have hor := or_part (c := u) (x := x) (k := k) (by omega) hu (by omega)
          refine WL.shlv (7 * k) rfl rfl ⟨by omega, by omega⟩ rfl ?_
          refine WL.num rfl rfl (n_or64 _ _ _ _) rfl (WL.assign rfl rfl (WL.nil (WX.then_normal (WC.seq (WC.region (WL.move rfl rfl (?_)))))))
          refine WL.lss? rfl rfl rfl (fun h42 => ?_) (fun h42 => ?_)
          ·
            refine WL.nil (WX.then_normal (WC.cond_true rfl (WC.seq (?_))))
            have hc := hr.cut (k + 1) bs.length (by constructor <;> omega)
            refine WC.draw (Nob) [0, 1, 2, 3, 4, 5, 6, 7] [] mixed rfl rfl (fun wd_2 kd_2 zd_2 => ?_)
            have zs_kd_2 := kd_2.size
            replace hr := hr.pure kd_2
            replace kk := kk.pure kd_2
            replace hc := hc.pure kd_2
            apply DQ.step (E' := [(5, _)])
            case ho => rfl
            case hs => exact ⟨rfl, trivial⟩
            case hk => rfl
            case h1 =>
              intro wq_3 kq_3
              refine WL.move rfl rfl (?_)
              refine WL.nil ?_
              exact WX.one ⟨rfl, by exact Chg.refl _ _⟩
            apply DQ.step (E' := [(0, _)])
            case ho => rfl
            case hs => exact ⟨rfl, trivial⟩
            case hk => rfl
            case h1 =>
              intro wq_4 kq_4
              refine WL.move rfl rfl (?_)
              refine WL.nil ?_
              exact WX.one ⟨rfl, by exact Chg.refl _ _⟩
            apply DQ.step (E' := [(6, _)])
            case ho => rfl
            case hs => exact ⟨rfl, trivial⟩
            case hk => rfl
            case h1 =>
              intro wq_5 kq_5
              refine WL.move rfl rfl (?_)
              refine WL.nil ?_
              exact WX.one ⟨rfl, by exact Chg.refl _ _⟩
            apply DQ.step (E' := [(45, _)])
            case ho => rfl
            case hs => exact ⟨rfl, trivial⟩
            case hk => rfl
            case h1 =>
              intro wq_6 kq_6
              refine WL.add64 rfl rfl (by omega) rfl (?_)
              refine WL.nil ?_
              exact WX.one ⟨rfl, by exact Chg.refl _ _⟩
            apply DQ.step (E' := [(44, _), (46, _)])
            case ho => rfl
            case hs => exact ⟨rfl, rfl, trivial⟩
            case hk => rfl
            case h1 =>
              intro wq_7 kq_7
              have zs_kq_7 := kq_7.size
              replace hr := hr.pure kq_7
              replace kk := kk.pure kq_7
              replace hc := hc.pure kq_7
              refine WL.sliceC (l := k + 1) (h := bs.length) (j := .i64) Tryd.underlying26 Tryd.sizeOf5 hr rfl (.inl rfl) (.inr ⟨rfl, rfl⟩) (by constructor <;> omega) rfl ?_
              refine WL.nil ?_
              exact WX.one ⟨rfl, by exact Chg.refl _ _⟩
            apply DQ.step (E' := [(43, _)])
            case ho => rfl
            case hs => exact ⟨rfl, trivial⟩
            case hk => rfl
            case h1 =>
              intro wq_8 kq_8
              refine WL.assign rfl rfl (?_)
              refine WL.nil ?_
              exact WX.one ⟨rfl, by exact Chg.refl _ _⟩
            apply DQ.step (E' := [(47, _)])
            case ho => rfl
            case hs => exact ⟨rfl, trivial⟩
            case hk => rfl
            case h1 =>
              intro wq_9 kq_9
              refine WL.assign rfl rfl (?_)
              refine WL.nil ?_
              exact WX.one ⟨rfl, by exact Chg.refl _ _⟩
            apply DQ.step (E' := [])
            case ho => rfl
            case hs => exact trivial
            case hk => rfl
            case h1 =>
              intro wq_10 kq_10
              refine WL.assign rfl rfl (?_)
              refine WL.nil ?_
              exact WX.one ⟨rfl, by exact Chg.refl _ _⟩
            refine DQ.done (fun _ => ?_)
            refine DL.done (fun we_11 ke_11 => ?_)
            have zs_ke_11 := ke_11.size
            replace hr := hr.pure ke_11
            replace kk := kk.pure ke_11
            replace hc := hc.pure ke_11
            refine WX.then_normal (WC.ret (WX.block_ret (WX.then_ret (WX.then_ret (WX.block_ret (WX.then_ret (?_)))))))
            refine WX.ret3 (.inl rfl) Tryd.results95 rfl rfl rfl ?_
            first
              | (refine ⟨_, rfl, .inr ⟨rfl, ?_⟩, kk⟩
                 first
                   | exact ctdI_bad hi hx (by omega)
                   | exact ctdI_end hi (by omega))
              | (refine ⟨_, rfl, .inl ⟨_, _, _, _, rfl, ?_, hc⟩, kk⟩
                 rw [hor.1]
                 rw [List.take_of_length_le (Nat.le_refl _)]
                 exact ctdI_done hi hx hbad (by omega))
          ·
            refine WL.nil (WX.then_normal (WC.cond_false rfl (WC.skip (WX.block_normal (WX.then_normal (WC.region (WL.add64 rfl rfl (by omega) rfl (?_))))))))
            refine WL.move rfl rfl (WL.nil (?_))
            refine WX.loop_next (k + 1, u ||| ((x &&& 127).toUInt64 <<< UInt64.ofNat (7 * k))) ⟨rfl, rfl, rfl, rfl, rfl, trivial⟩ ⟨by dsimp only; omega, by dsimp only; omega, ?_, ?_, kk⟩ (by show _ - _ < _ - _; omega)
            ·
              dsimp only
              rw [hor.1]; exact hor.2
            ·
              dsimp only
              rw [hor.1]; exact ctdI_more hi hx hbad (by omega)
  ·
    refine WL.nil (WX.then_normal (WC.seq (WC.cond_false rfl (WC.exit (WX.then_exit (WX.then_exit (WX.block_here (?_))))))))
    refine WX.then_normal (WC.seq (WC.region (WL.assign rfl rfl (WL.assign rfl rfl (WL.assign rfl rfl (WL.nil (WX.then_normal (?_))))))))
    refine WC.ret (?_)
    refine WX.ret3 (.inl rfl) Tryd.results95 rfl rfl rfl ?_
    first
      | (refine ⟨_, rfl, .inr ⟨rfl, ?_⟩, kk⟩
         first
           | exact ctdI_bad hi hx (by omega)
           | exact ctdI_end hi (by omega))
      | (refine ⟨_, rfl, .inl ⟨_, _, _, _, rfl, ?_, hc⟩, kk⟩
         rw [hor.1]
         rw [List.take_of_length_le (Nat.le_refl _)]
         exact ctdI_done hi hx hbad (by omega))
end Go.Proofs.YtjeldcjchipdgaaDoor
namespace Go.Proofs.YtjeldcjchipdgaaDoor
open Go.RowKit Go.HL
set_option maxRecDepth 100000

/-! items out of bytes -/
def unz (c : Nat) : Int := if c % 2 = 1 then -((c / 2 : Nat) : Int) - 1 else ((c / 2 : Nat) : Int)
def dec (n : Nat) (bs : List UInt8) : Option (List Item) :=
  match bs with
  | [] => some []
  | k :: r =>
    match h : ctd 0 r with
    | none => none
    | some (c, r') =>
      if n = 2000 then none
      else if k.toNat = 1 then (dec (n + 1) r').map (⟨1, unz c, ⟨#[]⟩⟩ :: ·)
      else if k.toNat = 2 ∧ c ≤ 4000 ∧ c ≤ r'.length then (dec (n + 1) (r'.drop c)).map (⟨2, 0, ⟨(r'.take c).toArray⟩⟩ :: ·)
      else none
termination_by bs.length
decreasing_by
  all_goals
    have := (ctd_bound r 0 (by omega) h).2.2
    simp
    omega
theorem dec_nil (n : Nat) : dec n [] = some [] := by rw [dec]
theorem dec_none {n : Nat} {k : UInt8} {r : List UInt8} (h : ctd 0 r = none) : dec n (k :: r) = none := by
  rw [dec]
  split
  · rfl
  · rename_i h2; rw [h] at h2; cases h2
theorem dec_some {n : Nat} {k : UInt8} {r r' : List UInt8} {c : Nat} (h : ctd 0 r = some (c, r')) : dec n (k :: r) = if n = 2000 then none
      else if k.toNat = 1 then (dec (n + 1) r').map (⟨1, unz c, ⟨#[]⟩⟩ :: ·)
      else if k.toNat = 2 ∧ c ≤ 4000 ∧ c ≤ r'.length then (dec (n + 1) (r'.drop c)).map (⟨2, 0, ⟨(r'.take c).toArray⟩⟩ :: ·)
      else none := by
  rw [dec]
  split
  · rename_i h2; rw [h] at h2; cases h2
  · rename_i h2
    rw [h] at h2
    injection h2 with h2
    injection h2 with h3 h4
    subst h3; subst h4
    rfl
/-- what has been taken, with what is to come -/
def decI (b0 : List UInt8) (out : List Item) (bs : List UInt8) : Prop := dec 0 b0 = (dec out.length bs).map (out ++ ·)
theorem decI_start (b : List UInt8) : decI b [] b := by unfold decI; cases h : dec 0 b <;> simp [h]
theorem decI_end {b : List UInt8} {out : List Item} (h : decI b out []) : dec 0 b = some out := by unfold decI at h; rw [h, dec_nil]; simp
theorem decI_step {b : List UInt8} {out : List Item} {k : UInt8} {r r' : List UInt8} {i : Item} (h : decI b out (k :: r)) (hs : dec out.length (k :: r) = (dec (out.length + 1) r').map (i :: ·)) : decI b (out ++ [i]) r' := by
  unfold decI at *
  rw [h, hs, Option.map_map, List.length_append, List.length_singleton]
  congr 1
  funext l
  simp
theorem decI_bad {b : List UInt8} {out : List Item} {k : UInt8} {r : List UInt8} (h : decI b out (k :: r)) (hs : dec out.length (k :: r) = none) : dec 0 b = none := by
  unfold decI at h
  rw [h, hs]
  rfl
theorem shr1 (c : UInt64) : (c >>> UInt64.ofNat 1).toNat = c.toNat / 2 := by simp [Nat.shiftRight_eq_div_pow]
theorem and1 (c : UInt64) : (c &&& 1).toNat = c.toNat % 2 := by
  rw [UInt64.toNat_and]
  exact Nat.and_one_is_mod _

set_option maxHeartbeats 1000000 in
theorem decode_calls {w : World} {ao : Option Addr} {c : Nat} {b : List UInt8} (hr : RSl (· < w.heap.size) w eb ao c b) (hl : b.length ≤ 140737488351232) :
    Calls Tryd.prog 70 [.slice ao b.length c].toArray w (Ret fun v w' => ((∃ (l : List Item) (ao' : Option Addr) (c' : Nat), v = .tuple #[.slice ao' l.length c', vi 0] ∧ dec 0 b = some l ∧ Row (w.heap.size ≤ ·) w' 75 eit ao' c' l) ∨ (v = .tuple #[.slice none 0 0, vi 2] ∧ dec 0 b = none)) ∧ Chg Nob w w') := by
  refine Calls.of_WC Tryd.func70 rfl Tryd.ntmps70 (by simp) ?_
  refine WC.seq (WC.region (WL.assign rfl rfl (WL.assign rfl rfl (WL.nil (WX.then_normal (WC.seq (WC.region (?_))))))))
  refine WL.assign rfl rfl (WL.nil (WX.then_normal (WC.seq (WC.block (?_)))))
  refine WC.loop (σ := (List Item × Option Addr × Nat) × (List UInt8 × Option Addr × Nat)) (fun s => [(4, .slice s.1.2.1 s.1.1.length s.1.2.2), (0, .slice s.2.2.1 s.2.1.length s.2.2.2)])
    (fun s w' => s.1.1.length ≤ 2000 ∧ s.2.1.length ≤ b.length ∧ decI b s.1.1 s.2.1 ∧ Row (w.heap.size ≤ ·) w' 75 eit s.1.2.1 s.1.2.2 s.1.1 ∧ RSl (· < w.heap.size) w' eb s.2.2.1 s.2.2.2 s.2.1 ∧ Chg Nob w w') (fun s => s.2.1.length) (([], none, 0), (b, ao, c)) ⟨rfl, rfl, trivial⟩ ⟨by simp, Nat.le_refl _, decI_start _, Row.nil _ _ _ _, hr, Chg.refl _ _⟩ ?_
  clear hr
  rintro ⟨⟨out, a1, c1⟩, ⟨bs, ab, cb⟩⟩ w1 ⟨ho, hbl, hi, hq, hr, kk⟩
  dsimp only at ho hbl hi hq hr kk ⊢
  have zk := kk.size
  refine WC.seq (WC.seq (WC.region (WL.move rfl rfl (WL.len Tryd.underlying26 rfl rfl (?_)))))
  refine WL.gtr? rfl rfl rfl (fun h11 => ?_) (fun h11 => ?_)
  ·
    refine WL.nil (WX.then_normal (WC.cond_true rfl (WC.skip (WX.then_normal (WC.block (WC.seq (WC.region (?_))))))))
    refine WL.move rfl rfl (?_)
    obtain ⟨x, bs', rfl⟩ : ∃ x bs', bs = x :: bs' := by cases bs with | nil => simp at h11 | cons x r => exact ⟨x, r, rfl⟩
    have hx : (x :: bs')[0]? = some x := rfl
    have hxl := x.toNat_lt
    refine WL.indexT Tryd.underlying26 Tryd.sizeOf5 hr rfl rfl ⟨hx, rfl⟩ rfl ?_
    intro b_1 o_1 hc_1
    refine WL.load Tryd.isAgg5 rfl (hc_1 0 _ rfl) rfl (WL.assign rfl rfl (WL.nil (WX.then_normal (WC.seq (WC.region (WL.move rfl rfl (?_)))))))
    refine WL.slice (l := 1) (h := (x :: bs').length) (j := .i64) Tryd.underlying26 Tryd.sizeOf5 hr rfl (.inl rfl) (.inr ⟨rfl, rfl⟩) (by simp) rfl ?_
    intro a_hb c_hb hb n_hb
    have e1 : (List.drop 1 (List.take (x :: bs').length (x :: bs'))) = bs' := by simp
    rw [e1] at hb ⊢
    have hxb : bs'.length + 1 ≤ b.length := by simpa using hbl
    have hlb : bs'.length ≤ 140737488351232 := by omega
    refine WL.call eg_95 rfl rfl (counted_calls hb (by omega)) ?_
    rintro v w2 ⟨(⟨u, r, ar, cr, rfl, hc, hr2⟩ | ⟨rfl, hc⟩), k2⟩
    ·
      have zs_k2 := k2.size
      replace hr := hr.pure k2
      replace kk := kk.pure k2
      replace hq := hq.pure k2
      replace hb := hb.pure k2
      have hrb := (ctd_bound bs' 0 (by omega) hc).2.2
      have e64 : ((B64 (r.length : Int)).toNat : Int) = r.length := by rw [B64_nat (by omega)]
      refine WL.move rfl rfl (WL.extract rfl rfl rfl (WL.extract rfl rfl rfl (WL.extract rfl rfl rfl (WL.assign rfl rfl (WL.assign rfl rfl (WL.assign rfl rfl (WL.nil (?_))))))))
      refine WX.then_normal (WC.block (WC.seq (WC.region (WL.move rfl rfl (WL.not rfl rfl (WL.move rfl rfl (WL.want rfl rfl rfl (?_))))))))
      refine WL.move rfl rfl (WL.want rfl rfl rfl (WL.len Tryd.underlying76 rfl rfl (WL.want rfl rfl rfl (?_))))
      refine WL.eql? rfl rfl rfl (fun h28 => ?_) (fun h28 => ?_)
      ·
        refine WL.pickF rfl rfl rfl (WL.assign rfl rfl (WL.nil (WX.then_normal (WC.cond_true rfl (WC.seq (WC.region (WL.assign rfl rfl (?_))))))))
        refine WL.assign rfl rfl (WL.nil (WX.then_normal (WC.ret (WX.block_ret (WX.block_ret (WX.then_ret (WX.block_ret (?_))))))))
        refine WX.then_ret (?_)
        refine WX.ret2 (.inl rfl) Tryd.results70 rfl rfl ?_
        first
          | (refine ⟨_, rfl, .inl ⟨out, a1, c1, rfl, ?_, hq⟩, kk⟩
             have : bs = [] := List.eq_nil_of_length_eq_zero (by omega)
             subst this
             exact decI_end hi)
          | (refine ⟨_, rfl, .inr ⟨rfl, decI_bad hi ?_⟩, kk⟩
             first
               | exact dec_none hc
               | (rw [dec_some hc]
                  first
                    | (rw [if_pos (by omega)]; done)
                    | (rw [if_neg (by omega), if_neg (by omega), if_neg (by omega)])))
      ·
        refine WL.pickF rfl rfl rfl (WL.assign rfl rfl (WL.nil (WX.then_normal (WC.cond_false rfl (WC.seq (WC.region (WL.move rfl rfl (?_))))))))
        refine WL.eql? rfl rfl rfl (fun h32 => ?_) (fun h32 => ?_)
        ·
          refine WL.assign rfl rfl (WL.nil (WX.then_normal (WC.cond_true rfl (WC.seq (WC.region (WL.move rfl rfl (WL.move rfl rfl (?_))))))))
          refine WL.num rfl rfl (n_shr64 _ _ _ _ 1 (by decide)) rfl (?_)
          refine WL.c_u64_i64s (n := u.toNat / 2) Tryd.underlying44 Tryd.underlying3 rfl ⟨shr1 u, by have := u.toNat_lt; omega⟩ rfl ?_
          refine WL.move rfl rfl (WL.num rfl rfl (n_and64 _ _ _ 1) rfl (?_))
          refine WL.c_u64_i64s (n := u.toNat % 2) Tryd.underlying44 Tryd.underlying3 rfl ⟨and1 u, by omega⟩ rfl ?_
          refine WL.neg64 rfl (by omega) rfl (?_)
          refine WL.num rfl rfl (n_xornegb _ _ (u.toNat / 2) (u.toNat % 2) (by omega) (by have := u.toNat_lt; omega)) rfl ?_
          refine WL.bld rfl (bld_75_0_1 _ _) rfl (?_)
          refine WL.build (e := eit) [⟨1, unz u.toNat, ⟨#[]⟩⟩] Tryd.underlying76 Tryd.sizeOf75 Tryd.zeroValue75 rfl rfl rfl (by simp [Value.cells] <;> rfl) (by decide) rfl ?_
          intro a_hn w_hn hn l_hn z_hn k_hn
          have zs_k_hn := k_hn.size
          replace hr := hr.pure k_hn
          replace kk := kk.pure k_hn
          replace hq := hq.pure k_hn
          replace hb := hb.pure k_hn
          replace hr2 := hr2.pure k_hn
          refine WL.append (e := eit) info_75 rfl Tryd.underlying76 rfl rfl hq (hn.rsl.src Tryd.underlying76) (by (try simp only [List.length_append, List.length_cons, List.length_nil] at *); omega) (by intro b hb; first | (apply hS; omega) | ((try dsimp only); omega)) rfl ?_
          intro a_hq2 c_hq2 w_hq2 hq2 g_hq2 n_hq2
          have z_hq2 := g_hq2.chg.size
          have zs_g_hq2_chg := g_hq2.chg.size
          replace hr := hr.chg g_hq2.chg (by intros; exfalso; (try dsimp only at *); omega)
          replace kk := kk.chg g_hq2.chg (by intros; exfalso; (try dsimp only at *); omega)
          replace hb := hb.chg g_hq2.chg (by intros; exfalso; (try dsimp only at *); omega)
          replace hr2 := hr2.chg g_hq2.chg (by intros; exfalso; (try dsimp only at *); omega)
          refine WL.assign rfl rfl (WL.nil (WX.then_normal (WC.region (WL.move rfl rfl (WL.assign rfl rfl (WL.nil (WX.block_normal (?_))))))))
          refine WX.block_normal (?_)
          first
            | (refine WX.loop_next ((out ++ [⟨2, 0, ⟨(List.drop 0 (List.take u.toNat r)).toArray⟩⟩], a_hq2, c_hq2), (List.drop u.toNat (List.take r.length r), a_ht, c_ht)) ⟨rfl, rfl, trivial⟩ ⟨by dsimp only; simp; omega, by dsimp only; simp; omega, ?_, hq2, ht, kk⟩ (by show (List.drop u.toNat (List.take r.length r)).length < (x :: bs').length; simp; omega)
               have e1 : List.drop u.toNat (List.take r.length r) = r.drop u.toNat := by simp
               rw [e1]
               refine decI_step hi ?_
               rw [dec_some hc, if_neg (by omega), if_neg (by omega), if_pos (by omega)]
               rfl)
            | (refine WX.loop_next ((out ++ [⟨1, unz u.toNat, ⟨#[]⟩⟩], a_hq2, c_hq2), (r, ar, cr)) ⟨rfl, rfl, trivial⟩ ⟨by dsimp only; simp; omega, by dsimp only; omega, ?_, hq2, hr2, kk⟩ (by show r.length < (x :: bs').length; simp; omega)
               refine decI_step hi ?_
               rw [dec_some hc, if_neg (by omega), if_pos (by omega)])
        ·
          refine WL.assign rfl rfl (WL.nil (WX.then_normal (WC.cond_false rfl (WC.seq (WC.region (WL.move rfl rfl (?_)))))))
          refine WL.eql? rfl rfl rfl (fun h48 => ?_) (fun h48 => ?_)
          ·
            refine WL.move rfl rfl (WL.want rfl rfl rfl (WL.move rfl rfl (WL.want rfl rfl rfl (?_))))
            refine WL.leq? rfl rfl rfl (fun h51 => ?_) (fun h51 => ?_)
            ·
              refine WL.pickT rfl rfl rfl (WL.move rfl rfl (WL.want rfl rfl rfl (WL.move rfl rfl (WL.want rfl rfl rfl (WL.move rfl rfl (WL.want rfl rfl rfl (WL.len Tryd.underlying26 rfl rfl (?_))))))))
              refine WL.want rfl rfl rfl (WL.c_i64_u64 Tryd.underlying3 Tryd.underlying44 rfl rfl (WL.want rfl rfl rfl (?_)))
              refine WL.leq? rfl rfl rfl (fun h58 => ?_) (fun h58 => ?_)
              ·
                refine WL.pickT rfl rfl rfl (WL.assign rfl rfl (WL.nil (WX.then_normal (WC.cond_true rfl (WC.seq (WC.region (WL.move rfl rfl (?_))))))))
                refine WL.move rfl rfl (WL.move rfl rfl (?_))
                refine WL.slice (l := 0) (h := u.toNat) (k := .i64) Tryd.underlying26 Tryd.sizeOf5 hr2 rfl (.inr ⟨rfl, rfl⟩) (.inl rfl) (by constructor <;> omega) rfl ?_
                intro a_hs c_hs hs n_hs
                refine WL.toStr Tryd.underlying26 Tryd.underlying5 Tryd.underlying9 hs rfl rfl ?_
                refine WL.bld rfl (bld_75_0_2 _ _) rfl (?_)
                refine WL.build (e := eit) [⟨2, 0, ⟨(List.drop 0 (List.take u.toNat r)).toArray⟩⟩] Tryd.underlying76 Tryd.sizeOf75 Tryd.zeroValue75 rfl rfl rfl (by simp [Value.cells] <;> rfl) (by decide) rfl ?_
                intro a_hn w_hn hn l_hn z_hn k_hn
                have zs_k_hn := k_hn.size
                replace hr := hr.pure k_hn
                replace kk := kk.pure k_hn
                replace hq := hq.pure k_hn
                replace hb := hb.pure k_hn
                replace hr2 := hr2.pure k_hn
                replace hs := hs.pure k_hn
                refine WL.append (e := eit) info_75 rfl Tryd.underlying76 rfl rfl hq (hn.rsl.src Tryd.underlying76) (by (try simp only [List.length_append, List.length_cons, List.length_nil] at *); omega) (by intro b hb; first | (apply hS; omega) | ((try dsimp only); omega)) rfl ?_
                intro a_hq2 c_hq2 w_hq2 hq2 g_hq2 n_hq2
                have z_hq2 := g_hq2.chg.size
                have zs_g_hq2_chg := g_hq2.chg.size
                replace hr := hr.chg g_hq2.chg (by intros; exfalso; (try dsimp only at *); omega)
                replace kk := kk.chg g_hq2.chg (by intros; exfalso; (try dsimp only at *); omega)
                replace hb := hb.chg g_hq2.chg (by intros; exfalso; (try dsimp only at *); omega)
                replace hr2 := hr2.chg g_hq2.chg (by intros; exfalso; (try dsimp only at *); omega)
                replace hs := hs.chg g_hq2.chg (by intros; exfalso; (try dsimp only at *); omega)
                refine WL.assign rfl rfl (WL.nil (WX.then_normal (WC.region (WL.move rfl rfl (WL.move rfl rfl (?_))))))
                refine WL.slice (l := u.toNat) (h := r.length) (j := .i64) Tryd.underlying26 Tryd.sizeOf5 hr2 rfl (.inl rfl) (.inr ⟨rfl, rfl⟩) (by constructor <;> omega) rfl ?_
                intro a_ht c_ht ht n_ht
                refine WL.assign rfl rfl (WL.nil (WX.block_normal (WX.block_normal (?_))))
                first
                  | (refine WX.loop_next ((out ++ [⟨2, 0, ⟨(List.drop 0 (List.take u.toNat r)).toArray⟩⟩], a_hq2, c_hq2), (List.drop u.toNat (List.take r.length r), a_ht, c_ht)) ⟨rfl, rfl, trivial⟩ ⟨by dsimp only; simp; omega, by dsimp only; simp; omega, ?_, hq2, ht, kk⟩ (by show (List.drop u.toNat (List.take r.length r)).length < (x :: bs').length; simp; omega)
                     have e1 : List.drop u.toNat (List.take r.length r) = r.drop u.toNat := by simp
                     rw [e1]
                     refine decI_step hi ?_
                     rw [dec_some hc, if_neg (by omega), if_neg (by omega), if_pos (by omega)]
                     rfl)
                  | (refine WX.loop_next ((out ++ [⟨1, unz u.toNat, ⟨#[]⟩⟩], a_hq2, c_hq2), (r, ar, cr)) ⟨rfl, rfl, trivial⟩ ⟨by dsimp only; simp; omega, by dsimp only; omega, ?_, hq2, hr2, kk⟩ (by show r.length < (x :: bs').length; simp; omega)
                     refine decI_step hi ?_
                     rw [dec_some hc, if_neg (by omega), if_pos (by omega)])
              ·
                refine WL.pickT rfl rfl rfl (WL.assign rfl rfl (WL.nil (WX.then_normal (WC.cond_false rfl (WC.seq (WC.region (WL.assign rfl rfl (?_))))))))
                refine WL.assign rfl rfl (WL.nil (WX.then_normal (WC.ret (WX.block_ret (WX.block_ret (WX.then_ret (WX.block_ret (?_))))))))
                refine WX.then_ret (?_)
                refine WX.ret2 (.inl rfl) Tryd.results70 rfl rfl ?_
                first
                  | (refine ⟨_, rfl, .inl ⟨out, a1, c1, rfl, ?_, hq⟩, kk⟩
                     have : bs = [] := List.eq_nil_of_length_eq_zero (by omega)
                     subst this
                     exact decI_end hi)
                  | (refine ⟨_, rfl, .inr ⟨rfl, decI_bad hi ?_⟩, kk⟩
                     first
                       | exact dec_none hc
                       | (rw [dec_some hc]
                          first
                            | (rw [if_pos (by omega)]; done)
                            | (rw [if_neg (by omega), if_neg (by omega), if_neg (by omega)])))
            ·
              refine WL.pickT rfl rfl rfl (WL.move rfl rfl (WL.pass rfl rfl rfl rfl (WL.pass rfl rfl rfl rfl (WL.pass rfl rfl rfl rfl (WL.pass rfl rfl rfl rfl (WL.pass rfl rfl rfl rfl (WL.pickF rfl rfl rfl (?_))))))))
              refine WL.assign rfl rfl (WL.nil (WX.then_normal (WC.cond_false rfl (WC.seq (WC.region (WL.assign rfl rfl (WL.assign rfl rfl (?_))))))))
              refine WL.nil (WX.then_normal (WC.ret (WX.block_ret (WX.block_ret (WX.then_ret (WX.block_ret (WX.then_ret (?_))))))))
              refine WX.ret2 (.inl rfl) Tryd.results70 rfl rfl ?_
              first
                | (refine ⟨_, rfl, .inl ⟨out, a1, c1, rfl, ?_, hq⟩, kk⟩
                   have : bs = [] := List.eq_nil_of_length_eq_zero (by omega)
                   subst this
                   exact decI_end hi)
                | (refine ⟨_, rfl, .inr ⟨rfl, decI_bad hi ?_⟩, kk⟩
                   first
                     | exact dec_none hc
                     | (rw [dec_some hc]
                        first
                          | (rw [if_pos (by omega)]; done)
                          | (rw [if_neg (by omega), if_neg (by omega), if_neg (by omega)])))
          ·
            refine WL.move rfl rfl (WL.pass rfl rfl rfl rfl (WL.pass rfl rfl rfl rfl (WL.pickF rfl rfl rfl (WL.move rfl rfl (WL.pass rfl rfl rfl rfl (WL.pass rfl rfl rfl rfl (WL.pass rfl rfl rfl rfl (?_))))))))
            refine WL.pass rfl rfl rfl rfl (WL.pass rfl rfl rfl rfl (WL.pickF rfl rfl rfl (WL.assign rfl rfl (WL.nil (WX.then_normal (WC.cond_false rfl (WC.seq (?_))))))))
            refine WC.region (WL.assign rfl rfl (WL.assign rfl rfl (WL.nil (WX.then_normal (WC.ret (WX.block_ret (WX.block_ret (?_))))))))
            refine WX.then_ret (WX.block_ret (WX.then_ret (?_)))
            refine WX.ret2 (.inl rfl) Tryd.results70 rfl rfl ?_
            first
              | (refine ⟨_, rfl, .inl ⟨out, a1, c1, rfl, ?_, hq⟩, kk⟩
                 have : bs = [] := List.eq_nil_of_length_eq_zero (by omega)
                 subst this
                 exact decI_end hi)
              | (refine ⟨_, rfl, .inr ⟨rfl, decI_bad hi ?_⟩, kk⟩
                 first
                   | exact dec_none hc
                   | (rw [dec_some hc]
                      first
                        | (rw [if_pos (by omega)]; done)
                        | (rw [if_neg (by omega), if_neg (by omega), if_neg (by omega)])))
    ·
      have zs_k2 := k2.size
      replace hr := hr.pure k2
      replace kk := kk.pure k2
      replace hq := hq.pure k2
      replace hb := hb.pure k2
      refine WL.move rfl rfl (WL.extract rfl rfl rfl (WL.extract rfl rfl rfl (WL.extract rfl rfl rfl (WL.assign rfl rfl (WL.assign rfl rfl (WL.assign rfl rfl (WL.nil (?_))))))))
      refine WX.then_normal (WC.block (WC.seq (WC.region (WL.move rfl rfl (WL.not rfl rfl (WL.move rfl rfl (WL.pass rfl rfl rfl rfl (?_))))))))
      refine WL.pass rfl rfl rfl rfl (WL.pass rfl rfl rfl rfl (WL.pickT rfl rfl rfl (WL.assign rfl rfl (WL.nil (WX.then_normal (WC.cond_true rfl (WC.seq (?_))))))))
      refine WC.region (WL.assign rfl rfl (WL.assign rfl rfl (WL.nil (WX.then_normal (WC.ret (WX.block_ret (WX.block_ret (?_))))))))
      refine WX.then_ret (WX.block_ret (WX.then_ret (?_)))
      refine WX.ret2 (.inl rfl) Tryd.results70 rfl rfl ?_
      first
        | (refine ⟨_, rfl, .inl ⟨out, a1, c1, rfl, ?_, hq⟩, kk⟩
           have : bs = [] := List.eq_nil_of_length_eq_zero (by omega)
           subst this
           exact decI_end hi)
        | (refine ⟨_, rfl, .inr ⟨rfl, decI_bad hi ?_⟩, kk⟩
           first
             | exact dec_none hc
             | (rw [dec_some hc]
                first
                  | (rw [if_pos (by omega)]; done)
                  | (rw [if_neg (by omega), if_neg (by omega), if_neg (by omega)])))
  ·
    refine WL.nil (WX.then_normal (WC.cond_false rfl (WC.exit (WX.then_exit (WX.then_exit (WX.block_here (WX.then_normal (?_))))))))
    refine WC.seq (WC.region (WL.move rfl rfl (WL.assign rfl rfl (WL.assign rfl rfl (WL.nil (WX.then_normal (WC.ret (?_))))))))
    refine WX.ret2 (.inl rfl) Tryd.results70 rfl rfl ?_
    first
      | (refine ⟨_, rfl, .inl ⟨out, a1, c1, rfl, ?_, hq⟩, kk⟩
         have : bs = [] := List.eq_nil_of_length_eq_zero (by omega)
         subst this
         exact decI_end hi)
      | (refine ⟨_, rfl, .inr ⟨rfl, decI_bad hi ?_⟩, kk⟩
         first
           | exact dec_none hc
           | (rw [dec_some hc]
              first
                | (rw [if_pos (by omega)]; done)
                | (rw [if_neg (by omega), if_neg (by omega), if_neg (by omega)])))
end Go.Proofs.YtjeldcjchipdgaaDoor
namespace Go.Proofs.YtjeldcjchipdgaaDoor
open Go.RowKit Go.HL
set_option maxRecDepth 100000

/-! numbers: the document's count -/
def zig (n : Int) : Nat := if n < 0 then (-2 * n - 1).toNat else (2 * n).toNat
theorem zigU_zig {n : Int} (h : -9223372036854775808 ≤ n ∧ n ≤ 9223372036854775807) : (zigU n).toNat = zig n := by
  unfold zigU zig
  rw [UInt64.toNat_xor, UInt64.toNat_shiftLeft]
  have e1 : (UInt64.ofNat 1).toNat % 64 = 1 := by decide
  rw [e1, Nat.shiftLeft_eq]
  split
  · have e2 : n / 2 ^ 63 = -1 := by omega
    have e3 : (B64 (n / 2 ^ 63)).toNat = 18446744073709551615 := by rw [e2]; decide
    have e4 : (B64 n).toNat = (n + 18446744073709551616).toNat := by simp [B64]; omega
    rw [e3, e4]
    have e5 : (n + 18446744073709551616).toNat * 2 ^ 1 % 2 ^ 64 = (2 * n + 18446744073709551616).toNat := by omega
    rw [e5]
    have hlt : (2 * n + 18446744073709551616).toNat < 2 ^ 64 := by omega
    have e6 : (2 * n + 18446744073709551616).toNat ^^^ 18446744073709551615 = 18446744073709551615 - (2 * n + 18446744073709551616).toNat := by
      have := BitVec.toNat_not (x := BitVec.ofNat 64 (2 * n + 18446744073709551616).toNat)
      rw [BitVec.toNat_ofNat, Nat.mod_eq_of_lt hlt] at this
      rw [← BitVec.xor_allOnes, BitVec.toNat_xor, BitVec.toNat_ofNat, Nat.mod_eq_of_lt hlt, BitVec.toNat_allOnes] at this
      exact this
    rw [e6]
    omega
  · have e2 : n / 2 ^ 63 = 0 := by omega
    have e3 : (B64 (n / 2 ^ 63)).toNat = 0 := by rw [e2]; decide
    have e4 : (B64 n).toNat = n.toNat := by simp [B64]; omega
    rw [e3, e4, Nat.xor_zero]
    omega
def RIt (i : Item) : Prop := -9223372036854775808 ≤ i.n ∧ i.n ≤ 9223372036854775807
/-- the document's bytes of an item -/
def renc1 (i : Item) : List UInt8 := if i.kind = 1 then 1 :: cnt (zig i.n) else 2 :: (cnt i.s.size ++ i.s.data.toList)
theorem renc1_eq {i : Item} (h : okI i = true) (hr : RIt i) : renc1 i = enc1 i := by
  unfold renc1 enc1
  simp only [okI, decide_eq_true_eq] at h
  split
  · rename_i h1
    rw [zigU_zig hr, h1]
    rfl
  · have h1 : i.kind = 2 := by omega
    rw [h1]
    rfl
end Go.Proofs.YtjeldcjchipdgaaDoor
namespace Go.Proofs.YtjeldcjchipdgaaDoor
open Go.RowKit Go.HL
set_option maxRecDepth 100000

def decL (b : List UInt8) : List Item := (dec 0 b).getD []
def decE (b : List UInt8) : Int := if (dec 0 b).isSome then 0 else 2
theorem decode_calls' {w : World} {ao : Option Addr} {c : Nat} {b : List UInt8} (hr : RSl (· < w.heap.size) w eb ao c b) (hl : b.length ≤ 140737488351232) :
    Calls Tryd.prog 70 [.slice ao b.length c].toArray w (Ret fun v w' => (∃ (ao' : Option Addr) (c' : Nat), v = .tuple #[.slice ao' (decL b).length c', vi (decE b)] ∧ Row (w.heap.size ≤ ·) w' 75 eit ao' c' (decL b)) ∧ Chg Nob w w') := by
  refine (decode_calls hr hl).mono ?_
  rintro e w' ⟨v, rfl, (⟨l, ao', c', rfl, h, hq⟩ | ⟨rfl, h⟩), k⟩
  · refine ⟨_, rfl, ⟨ao', c', ?_, ?_⟩, k⟩
    · simp [decL, decE, h]
    · simpa [decL, h] using hq
  · refine ⟨_, rfl, ⟨none, 0, ?_, ?_⟩, k⟩
    · simp [decL, decE, h]
    · simpa [decL, h] using Row.nil _ _ _ _
end Go.Proofs.YtjeldcjchipdgaaDoor
namespace Go.Proofs.YtjeldcjchipdgaaDoor
open Go.RowKit Go.HL
set_option maxRecDepth 100000

/-! what is encoded is decoded, and the other way round -/
theorem ctd_cnt : ∀ (bs : List UInt8) (k : Nat) {c : Nat} {r : List UInt8}, ctd k bs = some (c, r) → bs = cnt c ++ r ∧ (0 < k → 0 < c)
  | [], k, c, r, h => by simp [ctd] at h
  | x :: bs, k, c, r, h => by
    have hx := x.toNat_lt
    unfold ctd at h
    split at h
    · cases h
    · rename_i hn
      split at h
      · rename_i hl
        injection h with h
        injection h with h1 h2
        subst h1; subst h2
        rw [cnt_small hl]
        refine ⟨by simp, by omega⟩
      · rename_i hl
        obtain ⟨⟨c', r'⟩, h1, h2⟩ := Option.map_eq_some_iff.1 h
        injection h2 with h3 h4
        subst h4
        obtain ⟨h5, h6⟩ := ctd_cnt bs (k + 1) h1
        have h7 := h6 (by omega)
        rw [cnt_big (by omega), show c / 128 = c' from by omega, show c % 128 + 128 = x.toNat from by omega]
        refine ⟨?_, by omega⟩
        rw [h5]
        simp
theorem cnt_ctd (c : Nat) : ∀ (k : Nat) (r : List UInt8), k ≤ 9 → c < 2 ^ (64 - 7 * k) → (0 < k → 0 < c) → ctd k (cnt c ++ r) = some (c, r) := by
  induction c using Nat.strongRecOn with
  | _ c ih =>
    intro k r hk hc h0
    by_cases hb : 128 ≤ c
    · have hk8 : k ≤ 8 := by
        have h : k = 9 ∨ k ≤ 8 := by omega
        rcases h with rfl | h
        · simp at hc; omega
        · exact h
      have hlt : c % 128 + 128 < 256 := by omega
      rw [cnt_big hb]
      simp only [List.cons_append, ctd]
      have e : (UInt8.ofNat (c % 128 + 128)).toNat = c % 128 + 128 := by simp; omega
      rw [e, if_neg (by omega), if_neg (by omega), ih (c / 128) (by omega) (k + 1) r (by omega) ?_ (by omega)]
      · simp only [Option.map_some, Option.some.injEq, Prod.mk.injEq, and_true]
        omega
      · rw [Nat.div_lt_iff_lt_mul (by decide)]
        have e2 : 2 ^ (64 - 7 * k) = 2 ^ (64 - 7 * (k + 1)) * 128 := by
          rw [show 64 - 7 * k = (64 - 7 * (k + 1)) + 7 from by omega, Nat.pow_add]
        rw [← e2]; exact hc
    · rw [cnt_small (by omega)]
      have e : (UInt8.ofNat c).toNat = c := by simp; omega
      have h9 : k = 9 → c ≤ 1 := by rintro rfl; simp at hc; omega
      simp only [List.cons_append, List.nil_append, ctd, e]
      rw [if_neg (by omega), if_pos (by omega)]
theorem zig_unz {c : Nat} : zig (unz c) = c := by
  unfold zig unz
  split <;> split <;> omega
theorem unz_zig (n : Int) : unz (zig n) = n := by
  unfold zig unz
  split <;> split <;> omega
theorem unz_range {c : Nat} (h : c < 18446744073709551616) : -9223372036854775808 ≤ unz c ∧ unz c ≤ 9223372036854775807 := by
  unfold unz
  split <;> omega
theorem zig_lt {n : Int} (h : -9223372036854775808 ≤ n ∧ n ≤ 9223372036854775807) : zig n < 18446744073709551616 := by
  unfold zig
  split <;> omega
def Good (i : Item) : Prop := longI i = false ∧ okI i = true ∧ RIt i
theorem encAll_cons (i : Item) (l : List Item) : encAll (i :: l) = enc1 i ++ encAll l := by simp [encAll]
theorem dec_spec (m : Nat) : ∀ (b : List UInt8), b.length ≤ m → ∀ (n : Nat) (l : List Item), n ≤ 2000 → dec n b = some l → n + l.length ≤ 2000 ∧ (∀ i ∈ l, Good i) ∧ encAll l = b := by
  induction m with
  | zero =>
    intro b hb n l hn h
    have : b = [] := List.eq_nil_of_length_eq_zero (by omega)
    subst this
    rw [dec_nil] at h
    injection h with h
    subst h
    exact ⟨by simpa using hn, by simp, rfl⟩
  | succ m ih =>
    intro b hb n l hn h
    cases b with
    | nil =>
      rw [dec_nil] at h
      injection h with h
      subst h
      exact ⟨by simpa using hn, by simp, rfl⟩
    | cons k r =>
      cases hc : ctd 0 r with
      | none => rw [dec_none hc] at h; cases h
      | some p =>
        obtain ⟨c, r'⟩ := p
        obtain ⟨h1, _⟩ := ctd_cnt r 0 hc
        obtain ⟨_, h2, h3⟩ := ctd_bound r 0 (by omega) hc
        simp at hb
        rw [dec_some hc] at h
        split at h
        · cases h
        · rename_i hn2
          split at h
          · rename_i hk
            obtain ⟨l', h4, rfl⟩ := Option.map_eq_some_iff.1 h
            obtain ⟨h5, h6, h7⟩ := ih r' (by omega) (n + 1) l' (by omega) h4
            have hg : Good ⟨1, unz c, ⟨#[]⟩⟩ := ⟨by simp [longI], by simp [okI], unz_range (by simpa using h2)⟩
            refine ⟨by simp; omega, ?_, ?_⟩
            · intro i hi
              rcases List.mem_cons.1 hi with rfl | hi
              · exact hg
              · exact h6 i hi
            · rw [encAll_cons, h7, ← renc1_eq hg.2.1 hg.2.2, renc1, if_pos rfl, zig_unz, h1]
              have : k = 1 := UInt8.toNat_inj.1 hk
              rw [this]
              rfl
          · rename_i hk
            split at h
            · rename_i hk2
              obtain ⟨l', h4, rfl⟩ := Option.map_eq_some_iff.1 h
              obtain ⟨h5, h6, h7⟩ := ih (r'.drop c) (by simp; omega) (n + 1) l' (by omega) h4
              have hsz : (ByteArray.mk (r'.take c).toArray).size = c := by
                show (r'.take c).toArray.size = c
                simp; omega
              have hg : Good ⟨2, 0, ⟨(r'.take c).toArray⟩⟩ := ⟨by simp only [longI, hsz, decide_eq_false_iff_not]; omega, by simp [okI], ⟨show (-9223372036854775808 : Int) ≤ 0 by decide, show (0 : Int) ≤ 9223372036854775807 by decide⟩⟩
              refine ⟨by simp; omega, ?_, ?_⟩
              · intro i hi
                rcases List.mem_cons.1 hi with rfl | hi
                · exact hg
                · exact h6 i hi
              · rw [encAll_cons, h7, ← renc1_eq hg.2.1 hg.2.2, renc1, if_neg (show ¬ ((2 : Int) = 1) by decide)]
                have e0 : k = 2 := UInt8.toNat_inj.1 hk2.1
                have e1 : (ByteArray.mk (r'.take c).toArray).data.toList = r'.take c := rfl
                show 2 :: (cnt (ByteArray.mk (r'.take c).toArray).size ++ (ByteArray.mk (r'.take c).toArray).data.toList) ++ r'.drop c = k :: r
                rw [hsz, e1, e0, h1]
                simp
            · cases h
theorem enc_dec : ∀ (l : List Item) (n : Nat), n + l.length ≤ 2000 → (∀ i ∈ l, Good i) → dec n (encAll l) = some l
  | [], n, _, _ => dec_nil n
  | i :: l, n, hn, hg => by
    obtain ⟨h1, h2, h3⟩ := hg i (by simp)
    have ih := enc_dec l (n + 1) (by simp at hn; omega) (fun j hj => hg j (by simp [hj]))
    simp at hn
    rw [encAll_cons, ← renc1_eq h2 h3, renc1]
    simp only [okI, decide_eq_true_eq] at h2
    split
    · rename_i hk
      have hs : i.s = ⟨#[]⟩ := by
        rcases h2 with h2 | h2
        · exact h2.2
        · omega
      rw [List.cons_append, dec_some (cnt_ctd (zig i.n) 0 (encAll l) (by omega) (zig_lt h3) (by omega)), if_neg (by omega), if_pos (show UInt8.toNat 1 = 1 from rfl), ih, unz_zig]
      obtain ⟨k, m, s⟩ := i
      simp only at hk hs
      subst hk; subst hs
      rfl
    · rename_i hk
      have hk2 : i.kind = 2 ∧ i.n = 0 := by omega
      have hsz : i.s.data.toList.length = i.s.size := by simp
      have h4 : i.s.size ≤ 4000 := by simp only [longI, decide_eq_false_iff_not] at h1; omega
      rw [List.cons_append, List.append_assoc, dec_some (cnt_ctd i.s.size 0 (i.s.data.toList ++ encAll l) (by omega) (by simp; omega) (by omega)), if_neg (by omega), if_neg (by decide), if_pos ⟨rfl, h4, by simp⟩]
      rw [List.drop_append_of_le_length (by omega), List.drop_eq_nil_of_le (by omega), List.nil_append, ih, List.take_append_of_le_length (by omega), List.take_of_length_le (by omega)]
      obtain ⟨k, m, s⟩ := i
      simp only at hk2
      obtain ⟨e1, e2⟩ := hk2
      subst e1; subst e2
      simp
end Go.Proofs.YtjeldcjchipdgaaDoor
namespace Go.Proofs.YtjeldcjchipdgaaDoor
open Go.RowKit Go.HL
set_option maxRecDepth 100000

/-! the sums' own words -/
structure V8 where
  a : UInt32
  b : UInt32
  c : UInt32
  d : UInt32
  e : UInt32
  f : UInt32
  g : UInt32
  h : UInt32
def rotr (x : UInt32) (n : Nat) : UInt32 := (x <<< UInt32.ofNat (32 - n)) ||| (x >>> UInt32.ofNat n)
def wordAt (b : List UInt8) (t : Nat) : UInt32 := (((b.getD (4 * t) 0).toUInt32 <<< UInt32.ofNat 24 ||| (b.getD (4 * t + 1) 0).toUInt32 <<< UInt32.ofNat 16) ||| (b.getD (4 * t + 2) 0).toUInt32 <<< UInt32.ofNat 8) ||| (b.getD (4 * t + 3) 0).toUInt32
def nextW (b : List UInt8) (ws : List UInt32) (t : Nat) : UInt32 :=
  if t < 16 then wordAt b t
  else ws.getD (t - 16) 0 + ((rotr (ws.getD (t - 15) 0) 7 ^^^ rotr (ws.getD (t - 15) 0) 18) ^^^ (ws.getD (t - 15) 0) >>> UInt32.ofNat 3) + ws.getD (t - 7) 0 + ((rotr (ws.getD (t - 2) 0) 17 ^^^ rotr (ws.getD (t - 2) 0) 19) ^^^ (ws.getD (t - 2) 0) >>> UInt32.ofNat 10)
def sch (b : List UInt8) : Nat → List UInt32
  | 0 => []
  | t + 1 => let ws := sch b t; ws ++ [nextW b ws t]
def K256 : List UInt32 := [
    0x428a2f98, 0x71374491, 0xb5c0fbcf, 0xe9b5dba5, 0x3956c25b, 0x59f111f1, 0x923f82a4, 0xab1c5ed5,
    0xd807aa98, 0x12835b01, 0x243185be, 0x550c7dc3, 0x72be5d74, 0x80deb1fe, 0x9bdc06a7, 0xc19bf174,
    0xe49b69c1, 0xefbe4786, 0x0fc19dc6, 0x240ca1cc, 0x2de92c6f, 0x4a7484aa, 0x5cb0a9dc, 0x76f988da,
    0x983e5152, 0xa831c66d, 0xb00327c8, 0xbf597fc7, 0xc6e00bf3, 0xd5a79147, 0x06ca6351, 0x14292967,
    0x27b70a85, 0x2e1b2138, 0x4d2c6dfc, 0x53380d13, 0x650a7354, 0x766a0abb, 0x81c2c92e, 0x92722c85,
    0xa2bfe8a1, 0xa81a664b, 0xc24b8b70, 0xc76c51a3, 0xd192e819, 0xd6990624, 0xf40e3585, 0x106aa070,
    0x19a4c116, 0x1e376c08, 0x2748774c, 0x34b0bcb5, 0x391c0cb3, 0x4ed8aa4a, 0x5b9cca4f, 0x682e6ff3,
    0x748f82ee, 0x78a5636f, 0x84c87814, 0x8cc70208, 0x90befffa, 0xa4506ceb, 0xbef9a3f7, 0xc67178f2]
def round1 (v : V8) (k w : UInt32) : V8 :=
  let t1 := v.h + ((rotr v.e 6 ^^^ rotr v.e 11) ^^^ rotr v.e 25) + ((v.e &&& v.f) ^^^ (~~~v.e &&& v.g)) + k + w
  let t2 := ((rotr v.a 2 ^^^ rotr v.a 13) ^^^ rotr v.a 22) + (((v.a &&& v.b) ^^^ (v.a &&& v.c)) ^^^ (v.b &&& v.c))
  ⟨t1 + t2, v.a, v.b, v.c, v.d + t1, v.e, v.f, v.g⟩
def roundsN (w : List UInt32) (v : V8) : Nat → V8
  | 0 => v
  | t + 1 => round1 (roundsN w v t) (K256.getD t 0) (w.getD t 0)
def mix (s : V8) (b : List UInt8) : V8 :=
  let v := roundsN (sch b 64) s 64
  ⟨s.a + v.a, s.b + v.b, s.c + v.c, s.d + v.d, s.e + v.e, s.f + v.f, s.g + v.g, s.h + v.h⟩
def st0 : V8 := ⟨0x6a09e667, 0xbb67ae85, 0x3c6ef372, 0xa54ff53a, 0x510e527f, 0x9b05688c, 0x1f83d9ab, 0x5be0cd19⟩
def be8 (n : UInt64) (i : Nat) : List UInt8 := (List.range i).map fun q => (n >>> UInt64.ofNat (56 - 8 * q)).toUInt8
def padded (b : List UInt8) : List UInt8 := b ++ [128] ++ List.replicate ((120 - (b.length + 1) % 64) % 64) 0 ++ be8 (UInt64.ofNat b.length <<< UInt64.ofNat 3) 8

/-! turning -/
theorem rot_cnt {n : Nat} (h : 1 ≤ n ∧ n ≤ 31) : (B64 (-(n : Int)) &&& 31).toNat = 32 - n ∧ (32 - (B64 (-(n : Int)) &&& 31)).toNat = n := by
  have : ∀ m : Fin 32, 1 ≤ m.1 → (B64 (-(m.1 : Int)) &&& 31).toNat = 32 - m.1 ∧ (32 - (B64 (-(m.1 : Int)) &&& 31)).toNat = m.1 := by decide +kernel
  exact this ⟨n, by omega⟩ h.1
theorem rotl_calls (x : UInt32) (n : Nat) (w : World) (h : 1 ≤ n ∧ n ≤ 31) : Calls Tryd.prog 117 [v32 x, vi (-(n : Int))].toArray w (Ret fun v w' => v = v32 (rotr x n) ∧ Chg Nob w w') := by
  have hw := Chg.refl Nob w
  have hc := rot_cnt h
  refine Calls.of_WC Tryd.func117 rfl Tryd.ntmps117 (by simp) ?_
  refine WC.seq (WC.region (WL.assign rfl rfl (WL.nil (WX.then_normal (WC.seq (WC.region (WL.move rfl rfl (?_))))))))
  refine WL.c_i64_u64 Tryd.underlying3 Tryd.underlying138 rfl rfl (WL.num rfl rfl (n_and64 _ _ _ 31) rfl (WL.assign rfl rfl (WL.nil (WX.then_normal (WC.seq (WC.region (WL.move rfl rfl (?_))))))))
  refine WL.move rfl rfl (?_)
  refine WL.shl32v (32 - n) rfl rfl ⟨by rw [hc.1], by omega⟩ rfl ?_
  refine WL.move rfl rfl (WL.move rfl rfl (WL.num rfl rfl (n_sub64 _ _ 32 _) rfl (?_)))
  refine WL.shr32v n rfl rfl ⟨by rw [hc.2], by omega⟩ rfl ?_
  refine WL.num rfl rfl (n_or32 _ _ _ _) rfl (WL.assign rfl rfl (WL.nil (WX.then_normal (WC.ret (?_)))))
  refine WX.ret1 (.inl rfl) Tryd.results117 rfl ?_
  exact ⟨_, rfl, rfl, hw⟩
theorem ror_calls (x : UInt32) (n : Nat) (w : World) (h : 1 ≤ n ∧ n ≤ 31) : Calls Tryd.prog 114 [v32 x, vi (n : Int)].toArray w (Ret fun v w' => v = v32 (rotr x n) ∧ Chg Nob w w') := by
  have hw := Chg.refl Nob w
  refine Calls.of_WC Tryd.func114 rfl Tryd.ntmps114 (by simp) ?_
  refine WC.seq (WC.region (WL.assign rfl rfl (WL.nil (WX.then_normal (WC.seq (WC.region (WL.move rfl rfl (?_))))))))
  refine WL.move rfl rfl (WL.neg64 rfl (by omega) rfl (?_))
  refine WL.call eg_117 rfl rfl (rotl_calls x n _ h) ?_
  rintro v w1 ⟨rfl, k⟩
  have zs_k := k.size
  replace hw := hw.pure k
  refine WL.assign rfl rfl (WL.nil (WX.then_normal (WC.ret (?_))))
  refine WX.ret1 (.inl rfl) Tryd.results114 rfl ?_
  exact ⟨_, rfl, rfl, hw⟩
/-! bytes of one's own -/
theorem clone_calls {S : Nat → Prop} {w : World} {ao : Option Addr} {c : Nat} {b : List UInt8} (hr : RSl S w eb ao c b) (hl : b.length ≤ 140737488351232) :
    Calls Tryd.prog 85 [.slice ao b.length c].toArray w (Ret fun v w' => (∃ (ao' : Option Addr) (c' : Nat), v = .slice ao' b.length c' ∧ Row (w.heap.size ≤ ·) w' 5 eb ao' c' b) ∧ Chg Nob w w') := by
  replace hr := hr.old
  have hw := Chg.refl Nob w
  refine Calls.of_WC Tryd.func85 rfl Tryd.ntmps85 (by simp) ?_
  refine WC.seq (WC.region (WL.assign rfl rfl (WL.nil (WX.then_normal (WC.seq (WC.seq (WC.region (?_))))))))
  refine WL.move rfl rfl (?_)
  refine WL.isNil? Tryd.underlying26 rfl rfl rfl (fun h4 => ?_) (fun h4 => ?_)
  ·
    refine WL.nil (WX.then_normal (WC.cond_true rfl (WC.seq (WC.region (WL.assign rfl rfl (WL.nil (WX.then_normal (?_))))))))
    refine WC.ret (WX.then_ret (?_))
    refine WX.ret1 (.inl rfl) Tryd.results85 rfl ?_
    first
      | (subst h4
         have hn := hr.none_nil
         subst hn
         exact ⟨_, rfl, ⟨none, 0, rfl, Row.nil _ _ _ _⟩, hw⟩)
      | exact ⟨_, rfl, ⟨_, _, rfl, hq2⟩, hw⟩
  ·
    refine WL.nil (WX.then_normal (WC.cond_false rfl (WC.skip (WX.then_normal (WC.seq (WC.region (?_)))))))
    refine WL.build (e := eb) [] Tryd.underlying26 Tryd.sizeOf5 Tryd.zeroValue5 rfl rfl rfl (by simp [Value.cells]; done) (by decide) rfl ?_
    intro a_hq w_hq hq l_hq z_hq k_hq
    have zs_k_hq := k_hq.size
    replace hr := hr.pure k_hq
    replace hw := hw.pure k_hq
    refine WL.move rfl rfl (?_)
    refine WL.append (e := eb) info_5 rfl Tryd.underlying26 rfl rfl hq (hr.src Tryd.underlying26) (by (try simp only [List.length_append, List.length_cons, List.length_nil] at *); omega) (by intro b hb; first | (apply hS; omega) | ((try dsimp only); omega)) rfl ?_
    intro a_hq2 c_hq2 w_hq2 hq2 g_hq2 n_hq2
    have z_hq2 := g_hq2.chg.size
    have zs_g_hq2_chg := g_hq2.chg.size
    replace hr := hr.chg g_hq2.chg (by intros; exfalso; (try dsimp only at *); omega)
    replace hw := hw.chg g_hq2.chg (by intros; exfalso; (try dsimp only at *); omega)
    refine WL.assign rfl rfl (WL.nil (WX.then_normal (WC.ret (?_))))
    refine WX.ret1 (.inl rfl) Tryd.results85 rfl ?_
    first
      | (subst h4
         have hn := hr.none_nil
         subst hn
         exact ⟨_, rfl, ⟨none, 0, rfl, Row.nil _ _ _ _⟩, hw⟩)
      | exact ⟨_, rfl, ⟨_, _, rfl, hq2⟩, hw⟩
/-! the message with what is put behind -/
theorem pad_calls {S : Nat → Prop} {w : World} {ao : Option Addr} {c : Nat} {b : List UInt8} (hr : RSl S w eb ao c b) (hl : b.length ≤ 140737488351232) :
    Calls Tryd.prog 105 [.slice ao b.length c].toArray w (Ret fun v w' => (∃ (ao' : Option Addr) (c' : Nat), v = .slice ao' (padded b).length c' ∧ Row (w.heap.size ≤ ·) w' 5 eb ao' c' (padded b)) ∧ Chg Nob w w') := by
  replace hr := hr.old
  have hw := Chg.refl Nob w
  refine Calls.of_WC Tryd.func105 rfl Tryd.ntmps105 (by simp) ?_
  refine WC.seq (WC.region (WL.assign rfl rfl (WL.nil (WX.then_normal (WC.seq (WC.region (WL.move rfl rfl (?_))))))))
  refine WL.call eg_85 rfl rfl (clone_calls hr hl) ?_
  rintro v w1 ⟨⟨a1, c1, rfl, hq⟩, k⟩
  have zs_k := k.size
  replace hr := hr.pure k
  replace hw := hw.pure k
  refine WL.build (e := eb) [128] Tryd.underlying26 Tryd.sizeOf5 Tryd.zeroValue5 rfl rfl rfl (by simp [Value.cells] <;> rfl) (by decide) rfl ?_
  intro a_hn w_hn hn l_hn z_hn k_hn
  have zs_k_hn := k_hn.size
  replace hr := hr.pure k_hn
  replace hw := hw.pure k_hn
  replace hq := hq.pure k_hn
  refine WL.append (e := eb) info_5 rfl Tryd.underlying26 rfl rfl hq (hn.rsl.src Tryd.underlying26) (by (try simp only [List.length_append, List.length_cons, List.length_nil] at *); omega) (by intro b hb; first | (apply hS; omega) | ((try dsimp only); omega)) rfl ?_
  intro a_hq1 c_hq1 w_hq1 hq1 g_hq1 n_hq1
  have z_hq1 := g_hq1.chg.size
  have zs_g_hq1_chg := g_hq1.chg.size
  replace hr := hr.chg g_hq1.chg (by intros; exfalso; (try dsimp only at *); omega)
  replace hw := hw.chg g_hq1.chg (by intros; exfalso; (try dsimp only at *); omega)
  refine WL.assign rfl rfl (WL.nil (WX.then_normal (WC.seq (WC.block (?_)))))
  refine WC.loop (σ := Nat × Option Addr × Nat) (fun s => [(3, .slice s.2.1 (b ++ [128] ++ List.replicate s.1 0).length s.2.2), (0, .slice ao b.length c)])
    (fun s w' => s.1 ≤ (120 - (b.length + 1) % 64) % 64 ∧ Row (w.heap.size ≤ ·) w' 5 eb s.2.1 s.2.2 (b ++ [128] ++ List.replicate s.1 0) ∧ RSl (· < w.heap.size) w' eb ao c b ∧ Chg Nob w w') (fun s => 64 - s.1) (0, a_hq1, c_hq1) ⟨by rw [show List.replicate 0 (0 : UInt8) = [] from rfl, List.append_nil]; rfl, rfl, trivial⟩ ⟨by simp, by simpa using hq1, hr, hw⟩ ?_
  clear hr hw hn hq1 hq
  rintro ⟨j, a1, c1⟩ w2 ⟨hj, hq, hr, hw⟩
  dsimp only at hj hq hr hw ⊢
  have zw := hw.size
  have hlen : (b ++ [128] ++ List.replicate j 0).length = b.length + 1 + j := by simp; omega
  refine WC.seq (WC.seq (WC.region (WL.move rfl rfl (WL.len Tryd.underlying26 rfl rfl (WL.rem64i rfl rfl (by constructor <;> omega) rfl (?_))))))
  refine WL.neq? rfl rfl rfl (fun h13 => ?_) (fun h13 => ?_)
  ·
    refine WL.nil (WX.then_normal (WC.cond_true rfl (WC.skip (WX.then_normal (WC.block (WC.region (WL.move rfl rfl (?_))))))))
    refine WL.build (e := eb) [0] Tryd.underlying26 Tryd.sizeOf5 Tryd.zeroValue5 rfl rfl rfl (by simp [Value.cells] <;> rfl) (by decide) rfl ?_
    intro a_hn w_hn hn l_hn z_hn k_hn
    have zs_k_hn := k_hn.size
    replace hq := hq.pure k_hn
    replace hr := hr.pure k_hn
    replace hw := hw.pure k_hn
    refine WL.append (e := eb) info_5 rfl Tryd.underlying26 rfl rfl hq (hn.rsl.src Tryd.underlying26) (by (try simp only [List.length_append, List.length_cons, List.length_nil] at *); omega) (by intro b hb; first | (apply hS; omega) | ((try dsimp only); omega)) rfl ?_
    intro a_hq2 c_hq2 w_hq2 hq2 g_hq2 n_hq2
    have z_hq2 := g_hq2.chg.size
    have zs_g_hq2_chg := g_hq2.chg.size
    replace hr := hr.chg g_hq2.chg (by intros; exfalso; (try dsimp only at *); omega)
    replace hw := hw.chg g_hq2.chg (by intros; exfalso; (try dsimp only at *); omega)
    refine WL.assign rfl rfl (WL.nil (WX.block_normal (?_)))
    first
      | (have e1 : b ++ [128] ++ List.replicate (j + 1) 0 = b ++ [128] ++ List.replicate j 0 ++ [0] := by rw [List.replicate_succ', List.append_assoc, List.append_assoc, List.append_assoc]
         refine WX.loop_next (j + 1, a_hq2, c_hq2) ⟨?_, rfl, trivial⟩ ⟨by dsimp only; omega, ?_, hr, hw⟩ (by show _ - _ < _ - _; omega)
         ·
           dsimp only; rw [e1]; rfl
         ·
           dsimp only; rw [e1]; exact hq2)
      | (have e1 : be8 (UInt64.ofNat b.length <<< UInt64.ofNat 3) (i + 1) = be8 (UInt64.ofNat b.length <<< UInt64.ofNat 3) i ++ [((UInt64.ofNat b.length <<< UInt64.ofNat 3) >>> UInt64.ofNat (56 - 8 * i)).toUInt8] := by simp [be8, List.range_succ]
         refine WX.loop_next (i + 1, a_hq2, c_hq2) ⟨?_, rfl, ?_, trivial⟩ ⟨by dsimp only; omega, ?_, hw⟩ (by show _ - _ < _ - _; omega)
         ·
           dsimp only; rw [e1, ← List.append_assoc]; rfl
         ·
           dsimp only
           have e2 : 56 - 8 * ((i + 1 : Nat) : Int) = 56 - 8 * (i : Int) - 8 := by omega
           rw [e2]; rfl
         ·
           dsimp only; rw [e1, ← List.append_assoc]; exact hq2)
  ·
    refine WL.nil (WX.then_normal (WC.cond_false rfl (WC.exit (WX.then_exit (WX.then_exit (WX.block_here (WX.then_normal (?_))))))))
    refine WC.seq (WC.region (WL.move rfl rfl (WL.len Tryd.underlying26 rfl rfl (WL.c_i64_u64 Tryd.underlying3 Tryd.underlying44 rfl rfl (WL.num rfl rfl (n_shl64 _ _ _ _ 3 (by decide)) rfl (WL.assign rfl rfl (WL.nil (?_))))))))
    refine WX.then_normal (WC.seq (WC.seq (WC.region (WL.assign rfl rfl (WL.nil (WX.then_normal (WC.block (?_))))))))
    have hz : j = (120 - (b.length + 1) % 64) % 64 := by omega
    have hn8 : (B64 (b.length : Int)) = UInt64.ofNat b.length := by
      apply UInt64.toNat_inj.1
      rw [B64_nat (by omega)]
      simp
      omega
    rw [hn8]
    refine WC.loop (σ := Nat × Option Addr × Nat) (fun s => [(3, .slice s.2.1 (b ++ [128] ++ List.replicate j 0 ++ be8 (UInt64.ofNat b.length <<< UInt64.ofNat 3) s.1).length s.2.2), (4, v64 (UInt64.ofNat b.length <<< UInt64.ofNat 3)), (5, vi (56 - 8 * (s.1 : Int)))])
      (fun s w' => s.1 ≤ 8 ∧ Row (w.heap.size ≤ ·) w' 5 eb s.2.1 s.2.2 (b ++ [128] ++ List.replicate j 0 ++ be8 (UInt64.ofNat b.length <<< UInt64.ofNat 3) s.1) ∧ Chg Nob w w') (fun s => 8 - s.1) (0, a1, c1) ⟨by rw [show be8 (UInt64.ofNat b.length <<< UInt64.ofNat 3) 0 = [] from rfl, List.append_nil]; rfl, rfl, rfl, trivial⟩ ⟨by simp, by simpa [be8] using hq, hw⟩ ?_
    clear hr hw hq
    rintro ⟨i, a2, c2⟩ w3 ⟨hi, hq, hw⟩
    dsimp only at hi hq hw ⊢
    have zw3 := hw.size
    have hlen3 : (b ++ [128] ++ List.replicate j 0 ++ be8 (UInt64.ofNat b.length <<< UInt64.ofNat 3) i).length = b.length + 1 + j + i := by simp [be8]; omega
    refine WC.seq (WC.seq (WC.region (WL.move rfl rfl (?_))))
    refine WL.geq? rfl rfl rfl (fun h22 => ?_) (fun h22 => ?_)
    ·
      refine WL.nil (WX.then_normal (WC.cond_true rfl (WC.skip (WX.then_normal (WC.seq (WC.block (WC.region (?_))))))))
      refine WL.move rfl rfl (WL.move rfl rfl (WL.move rfl rfl (?_)))
      refine WL.shrv (56 - 8 * i) rfl rfl ⟨by omega, by omega⟩ rfl ?_
      refine WL.c_u64_u8 Tryd.underlying44 Tryd.underlying5 rfl rfl (?_)
      refine WL.build (e := eb) [((UInt64.ofNat b.length <<< UInt64.ofNat 3) >>> UInt64.ofNat (56 - 8 * i)).toUInt8] Tryd.underlying26 Tryd.sizeOf5 Tryd.zeroValue5 rfl rfl rfl (by simp [Value.cells] <;> rfl) (by decide) rfl ?_
      intro a_hn w_hn hn l_hn z_hn k_hn
      have zs_k_hn := k_hn.size
      replace hq := hq.pure k_hn
      replace hw := hw.pure k_hn
      refine WL.append (e := eb) info_5 rfl Tryd.underlying26 rfl rfl hq (hn.rsl.src Tryd.underlying26) (by (try simp only [List.length_append, List.length_cons, List.length_nil] at *); omega) (by intro b hb; first | (apply hS; omega) | ((try dsimp only); omega)) rfl ?_
      intro a_hq2 c_hq2 w_hq2 hq2 g_hq2 n_hq2
      have z_hq2 := g_hq2.chg.size
      have zs_g_hq2_chg := g_hq2.chg.size
      replace hw := hw.chg g_hq2.chg (by intros; exfalso; (try dsimp only at *); omega)
      refine WL.assign rfl rfl (WL.nil (WX.block_normal (WX.then_normal (WC.region (WL.move rfl rfl (WL.sub64 rfl rfl (by omega) rfl (WL.assign rfl rfl (?_))))))))
      refine WL.nil (?_)
      first
        | (have e1 : b ++ [128] ++ List.replicate (j + 1) 0 = b ++ [128] ++ List.replicate j 0 ++ [0] := by rw [List.replicate_succ', List.append_assoc, List.append_assoc, List.append_assoc]
           refine WX.loop_next (j + 1, a_hq2, c_hq2) ⟨?_, rfl, trivial⟩ ⟨by dsimp only; omega, ?_, hr, hw⟩ (by show _ - _ < _ - _; omega)
           ·
             dsimp only; rw [e1]; rfl
           ·
             dsimp only; rw [e1]; exact hq2)
        | (have e1 : be8 (UInt64.ofNat b.length <<< UInt64.ofNat 3) (i + 1) = be8 (UInt64.ofNat b.length <<< UInt64.ofNat 3) i ++ [((UInt64.ofNat b.length <<< UInt64.ofNat 3) >>> UInt64.ofNat (56 - 8 * i)).toUInt8] := by simp [be8, List.range_succ]
           refine WX.loop_next (i + 1, a_hq2, c_hq2) ⟨?_, rfl, ?_, trivial⟩ ⟨by dsimp only; omega, ?_, hw⟩ (by show _ - _ < _ - _; omega)
           ·
             dsimp only; rw [e1, ← List.append_assoc]; rfl
           ·
             dsimp only
             have e2 : 56 - 8 * ((i + 1 : Nat) : Int) = 56 - 8 * (i : Int) - 8 := by omega
             rw [e2]; rfl
           ·
             dsimp only; rw [e1, ← List.append_assoc]; exact hq2)
    ·
      refine WL.nil (WX.then_normal (WC.cond_false rfl (WC.exit (WX.then_exit (WX.then_exit (WX.block_here (WX.then_normal (?_))))))))
      refine WC.seq (WC.region (WL.move rfl rfl (WL.assign rfl rfl (WL.nil (WX.then_normal (WC.ret (?_)))))))
      refine WX.ret1 (.inl rfl) Tryd.results105 rfl ?_
      have hi8 : i = 8 := by omega
      have e1 : padded b = b ++ [128] ++ List.replicate j 0 ++ be8 (UInt64.ofNat b.length <<< UInt64.ofNat 3) i := by rw [hi8, hz]; rfl
      rw [e1]
      exact ⟨_, rfl, ⟨a2, c2, rfl, hq⟩, hw⟩
end Go.Proofs.YtjeldcjchipdgaaDoor
namespace Go.Proofs.YtjeldcjchipdgaaDoor
open Go.RowKit Go.HL
set_option maxRecDepth 100000

def V8.cells (v : V8) : List Value := [v32 v.a, v32 v.b, v32 v.c, v32 v.d, v32 v.e, v32 v.f, v32 v.g, v32 v.h]
theorem begin_calls (w : World) : Calls Tryd.prog 103 [].toArray w (Ret fun v w' => v = .agg (st0.cells).toArray ∧ Chg Nob w w') := by
  have hw := Chg.refl Nob w
  refine Calls.of_WC Tryd.func103 rfl Tryd.ntmps103 (by simp) ?_
  refine WC.seq (WC.region (?_))
  refine WL.alloc Tryd.zeroValue161 rfl ?_
  intro g_1 w_1 hge_1 hlt_1 hb_1 k_1
  have zs_k_1 := k_1.size
  replace hw := hw.pure k_1
  refine WL.nil (WX.then_normal (WC.seq (WC.region (WL.bld rfl (bld_161_0_1_2_3_4_5_6_7 _ _ _ _ _ _ _ _) rfl (?_)))))
  refine WL.stores Tryd.sizeOf161 hb_1 rfl rfl (by simp; done) (by simp [Value.oneCell']; done) (by simp [Value.cells]; done) rfl ?_
  intro w_2 hs_2 hn_2 k_2
  have zs_k_2 := k_2.size
  replace hw := hw.chg k_2 (by intro x h1 h2; have h3 : _ = _ := h2; exfalso; omega)
  replace hb_1 := hn_2
  refine WL.nil (WX.then_normal (WC.ret (?_)))
  refine WX.ret1c (.inl rfl) Tryd.results103 Tryd.isAgg161 Tryd.sizeOf161 hb_1 rfl (by rfl) ?_
  exact ⟨_, rfl, rfl, hw⟩
theorem rounds_calls (w : World) : Calls Tryd.prog 104 [].toArray w (Ret fun v w' => v = .agg (K256.map v32).toArray ∧ Chg Nob w w') := by
  have hw := Chg.refl Nob w
  refine Calls.of_WC Tryd.func104 rfl Tryd.ntmps104 (by simp) ?_
  refine WC.seq (WC.region (?_))
  refine WL.alloc Tryd.zeroValue163 rfl ?_
  intro g_1 w_1 hge_1 hlt_1 hb_1 k_1
  have zs_k_1 := k_1.size
  replace hw := hw.pure k_1
  refine WL.nil (WX.then_normal (WC.seq (WC.region (?_))))
  refine WL.buildArr (K256.map v32) Tryd.underlying163 Tryd.sizeOf159 Tryd.zeroValue163 rfl rfl rfl (by intro v hv; obtain ⟨x, _, rfl⟩ := List.mem_map.1 hv; rfl) rfl ?_
  refine WL.stores Tryd.sizeOf163 hb_1 rfl rfl (by rfl) (by intro u hu; obtain ⟨x, _, rfl⟩ := List.mem_map.1 hu; rfl) (by exact Nat.le_of_ble_eq_true rfl) rfl ?_
  intro w_2 hs_2 hn_2 k_2
  have zs_k_2 := k_2.size
  replace hw := hw.chg k_2 (by intro x h1 h2; have h3 : _ = _ := h2; exfalso; omega)
  replace hb_1 := hn_2
  refine WL.nil (WX.then_normal (WC.ret (?_)))
  refine WX.ret1c (.inl rfl) Tryd.results104 Tryd.isAgg163 Tryd.sizeOf163 hb_1 rfl (by rfl) ?_
  exact ⟨_, rfl, rfl, hw⟩
end Go.Proofs.YtjeldcjchipdgaaDoor
namespace Go.Proofs.YtjeldcjchipdgaaDoor
open Go.RowKit Go.HL
set_option maxRecDepth 100000

theorem sch_len (b : List UInt8) (t : Nat) : (sch b t).length = t := by
  induction t with
  | zero => rfl
  | succ t ih => simp [sch, ih]
theorem sch_at {b : List UInt8} {t i : Nat} (h : i < t) : (sch b t ++ List.replicate (64 - t) 0)[i]? = some ((sch b t).getD i 0) := by
  have hl := sch_len b t
  rw [List.getElem?_append_left (by omega), List.getD_eq_getElem?_getD, List.getElem?_eq_getElem (by omega)]
  rfl
theorem sch_set {b : List UInt8} {t : Nat} (h : t < 64) : ((sch b t ++ List.replicate (64 - t) 0).map v32).set t (v32 (nextW b (sch b t) t)) = (sch b (t + 1) ++ List.replicate (64 - (t + 1)) 0).map v32 := by
  have hl := sch_len b t
  rw [← List.map_set]
  congr 1
  rw [List.set_append_right _ _ (by omega), hl, Nat.sub_self, show 64 - t = (64 - (t + 1)) + 1 from by omega, List.replicate_succ, List.set_cons_zero]
  simp [sch]
theorem byte_at {b : List UInt8} {i : Nat} (h : i < b.length) : b[i]? = some (b.getD i 0) := by
  rw [List.getD_eq_getElem?_getD, List.getElem?_eq_getElem h]
  rfl
def JS (b : List UInt8) (t g : Nat) (w' : World) : Prop := ∃ cs, Blk w' g 163 cs ∧ ∀ j, j < t → cs[j]? = some (v32 ((sch b t).getD j 0))
theorem JS.pure {b : List UInt8} {t g : Nat} (w1 w2 : World) (h : JS b t g w1) (k : Chg Nob w1 w2) : JS b t g w2 := by
  obtain ⟨cs, h1, h2⟩ := h
  exact ⟨cs, h1.pure k, h2⟩
theorem JS.init {b : List UInt8} {t g : Nat} {w1 : World} (h : Blk w1 g 163 ((sch b t ++ List.replicate (64 - t) 0).map v32)) : JS b t g w1 := ⟨_, h, fun j hj => map_at _ (sch_at hj)⟩
theorem JS.set {b : List UInt8} {t g : Nat} {w1 : World} {v : Value} (h : Blk w1 g 163 (((sch b t ++ List.replicate (64 - t) 0).map v32).set t v)) : JS b t g w1 := ⟨_, h, fun j hj => by
  rw [List.getElem?_set_ne (by omega)]
  exact map_at _ (sch_at hj)⟩
set_option maxHeartbeats 1000000 in
theorem schedule_calls {S : Nat → Prop} {w : World} {ao : Option Addr} {c : Nat} {b : List UInt8} (hr : RSl S w eb ao c b) (hl : b.length = 64) :
    Calls Tryd.prog 113 [.slice ao b.length c].toArray w (Ret fun v w' => v = .agg ((sch b 64).map v32).toArray ∧ Chg Nob w w') := by
  replace hr := hr.old
  have hw := Chg.refl Nob w
  obtain ⟨bp, op, rfl⟩ := hr.place (byte_at (b := b) (i := 0) (by omega))
  refine Calls.of_WC Tryd.func113 rfl Tryd.ntmps113 (by simp) ?_
  refine WC.seq (WC.region (?_))
  refine WL.alloc Tryd.zeroValue163 rfl ?_
  intro g_1 w_1 hge_1 hlt_1 hb_1 k_1
  have zs_k_1 := k_1.size
  replace hr := hr.pure k_1
  replace hw := hw.pure k_1
  refine WL.nil (WX.then_normal (WC.seq (WC.region (?_))))
  refine WL.alloc Tryd.zeroValue163 rfl ?_
  intro g_2 w_2 hge_2 hlt_2 hb_2 k_2
  have zs_k_2 := k_2.size
  replace hr := hr.pure k_2
  replace hw := hw.pure k_2
  replace hb_1 := hb_1.pure k_2
  refine WL.nil (WX.then_normal (WC.seq (WC.seq (WC.region (WL.move rfl rfl (WL.nil (WX.then_normal (?_))))))))
  refine WC.block (?_)
  refine WC.loop (σ := Nat) (fun t => [(0, .slice (some ⟨bp, op, none⟩) b.length c), (2, .pointer (some ⟨g_1, 0, none⟩)), (3, .pointer (some ⟨g_2, 0, none⟩)), (7, vi t)])
    (fun t w' => t ≤ 64 ∧ RSl (· < w.heap.size) w' eb (some ⟨bp, op, none⟩) c b ∧ Blk w' g_1 163 ((List.replicate 64 0).map v32) ∧ Blk w' g_2 163 ((sch b t ++ List.replicate (64 - t) 0).map v32) ∧ Chg Nob w w') (fun t => 64 - t) 0 ⟨rfl, rfl, rfl, rfl, trivial⟩ ⟨by omega, hr, hb_1, hb_2, hw⟩ ?_
  clear hr hb_1 hb_2 hw
  rintro t w3 ⟨ht, hr, hb1, hb2, hw⟩
  have hsl := sch_len b t
  refine WC.seq (WC.region (?_))
  refine WL.lss? rfl rfl rfl (fun h8 => ?_) (fun h8 => ?_)
  ·
    refine WL.nil (WX.then_normal (WC.seq (WC.cond_true rfl (WC.skip (WX.then_normal (WC.seq (WC.block (?_))))))))
    refine WC.seq (WC.region (WL.move rfl rfl (WL.assign rfl rfl (WL.nil (WX.then_normal (WC.seq (WC.seq (?_))))))))
    refine WC.region (WL.move rfl rfl (?_))
    refine WL.lss? rfl rfl rfl (fun h11 => ?_) (fun h11 => ?_)
    ·
      refine WL.nil (WX.then_normal (WC.cond_true rfl (WC.seq (?_))))
      have e0 := byte_at (b := b) (i := 4 * t) (by omega)
      have e1 := byte_at (b := b) (i := 4 * t + 1) (by omega)
      have e2 := byte_at (b := b) (i := 4 * t + 2) (by omega)
      have e3 := byte_at (b := b) (i := 4 * t + 3) (by omega)
      refine WC.draw (fun x => x = g_2) [0, 1, 2, 3, 4, 5, 6, 7, 8, 9, 10, 11, 12, 13, 14, 15, 16, 17, 18, 19, 20, 21, 22, 23, 24, 25, 26, 27, 28, 29, 30, 31, 32, 33, 34] [35] mixed rfl rfl (fun wd_3 kd_3 zd_3 => ?_)
      have zs_kd_3 := kd_3.size
      replace hr := hr.pure kd_3
      replace hb1 := hb1.pure kd_3
      replace hb2 := hb2.pure kd_3
      replace hw := hw.pure kd_3
      apply DQ.step (E' := [(4, _)])
      case ho => rfl
      case hs => exact ⟨rfl, trivial⟩
      case hk => rfl
      case h1 =>
        intro wq_5 kq_5
        refine WL.move rfl rfl (?_)
        refine WL.nil ?_
        exact WX.one ⟨rfl, by exact Chg.refl _ _⟩
      apply DQ.step (E' := [(0, _)])
      case ho => rfl
      case hs => exact ⟨rfl, trivial⟩
      case hk => rfl
      case h1 =>
        intro wq_6 kq_6
        refine WL.move rfl rfl (?_)
        refine WL.nil ?_
        exact WX.one ⟨rfl, by exact Chg.refl _ _⟩
      apply DQ.step (E' := [(4, _)])
      case ho => rfl
      case hs => exact ⟨rfl, trivial⟩
      case hk => rfl
      case h1 =>
        intro wq_7 kq_7
        refine WL.move rfl rfl (?_)
        refine WL.nil ?_
        exact WX.one ⟨rfl, by exact Chg.refl _ _⟩
      apply DQ.step (E' := [(14, _)])
      case ho => rfl
      case hs => exact ⟨rfl, trivial⟩
      case hk => rfl
      case h1 =>
        intro wq_8 kq_8
        refine WL.mul64 rfl rfl (by omega) rfl (?_)
        refine WL.nil ?_
        exact WX.one ⟨rfl, by exact Chg.refl _ _⟩
      apply DQ.step (E' := [(13, _), (15, _)])
      case ho => rfl
      case hs => exact ⟨rfl, rfl, trivial⟩
      case hk => rfl
      case h1 =>
        intro wq_9 kq_9
        have zs_kq_9 := kq_9.size
        replace hr := hr.chg kq_9 (by intro b h1 h2 h3; have h4 : _ = _ := h3; (try dsimp only at h2); exfalso; omega)
        replace hb1 := hb1.chg kq_9 (by intro h1; have h2 : _ = _ := h1; exfalso; omega)
        replace hw := hw.chg kq_9 (by intro x h1 h2; have h3 : _ = _ := h2; exfalso; omega)
        refine WL.indexC hr Tryd.underlying26 Tryd.sizeOf5 rfl rfl ⟨e0, rfl⟩ rfl ?_
        refine WL.nil ?_
        exact WX.one ⟨rfl, by exact Chg.refl _ _⟩
      apply DQ.step (E' := [(16, _)])
      case ho => rfl
      case hs => exact ⟨rfl, trivial⟩
      case hk => rfl
      case h1 =>
        intro wq_10 kq_10
        have zs_kq_10 := kq_10.size
        replace hr := hr.chg kq_10 (by intro b h1 h2 h3; have h4 : _ = _ := h3; (try dsimp only at h2); exfalso; omega)
        replace hb1 := hb1.chg kq_10 (by intro h1; have h2 : _ = _ := h1; exfalso; omega)
        replace hw := hw.chg kq_10 (by intro x h1 h2; have h3 : _ = _ := h2; exfalso; omega)
        refine WL.load Tryd.isAgg5 rfl ((hr.cellsAt e0) 0 _ rfl) rfl (?_)
        refine WL.nil ?_
        exact WX.one ⟨rfl, by exact Chg.refl _ _⟩
      apply DQ.step (E' := [(17, _)])
      case ho => rfl
      case hs => exact ⟨rfl, trivial⟩
      case hk => rfl
      case h1 =>
        intro wq_11 kq_11
        have zs_kq_11 := kq_11.size
        replace hr := hr.chg kq_11 (by intro b h1 h2 h3; have h4 : _ = _ := h3; (try dsimp only at h2); exfalso; omega)
        replace hb1 := hb1.chg kq_11 (by intro h1; have h2 : _ = _ := h1; exfalso; omega)
        replace hw := hw.chg kq_11 (by intro x h1 h2; have h3 : _ = _ := h2; exfalso; omega)
        refine WL.c_u8_u32 Tryd.underlying5 Tryd.underlying159 rfl rfl (?_)
        refine WL.nil ?_
        exact WX.one ⟨rfl, by exact Chg.refl _ _⟩
      apply DQ.step (E' := [(18, _)])
      case ho => rfl
      case hs => exact ⟨rfl, trivial⟩
      case hk => rfl
      case h1 =>
        intro wq_12 kq_12
        refine WL.num rfl rfl (n_shl32 _ _ _ _ 24 (by decide)) rfl (?_)
        refine WL.nil ?_
        exact WX.one ⟨rfl, by exact Chg.refl _ _⟩
      apply DQ.step (E' := [(0, _)])
      case ho => rfl
      case hs => exact ⟨rfl, trivial⟩
      case hk => rfl
      case h1 =>
        intro wq_13 kq_13
        refine WL.move rfl rfl (?_)
        refine WL.nil ?_
        exact WX.one ⟨rfl, by exact Chg.refl _ _⟩
      apply DQ.step (E' := [(4, _)])
      case ho => rfl
      case hs => exact ⟨rfl, trivial⟩
      case hk => rfl
      case h1 =>
        intro wq_14 kq_14
        refine WL.move rfl rfl (?_)
        refine WL.nil ?_
        exact WX.one ⟨rfl, by exact Chg.refl _ _⟩
      apply DQ.step (E' := [(21, _)])
      case ho => rfl
      case hs => exact ⟨rfl, trivial⟩
      case hk => rfl
      case h1 =>
        intro wq_15 kq_15
        refine WL.mul64 rfl rfl (by omega) rfl (?_)
        refine WL.nil ?_
        exact WX.one ⟨rfl, by exact Chg.refl _ _⟩
      apply DQ.step (E' := [(22, _)])
      case ho => rfl
      case hs => exact ⟨rfl, trivial⟩
      case hk => rfl
      case h1 =>
        intro wq_16 kq_16
        refine WL.add64 rfl rfl (by omega) rfl (?_)
        refine WL.nil ?_
        exact WX.one ⟨rfl, by exact Chg.refl _ _⟩
      apply DQ.step (E' := [(20, _), (23, _)])
      case ho => rfl
      case hs => exact ⟨rfl, rfl, trivial⟩
      case hk => rfl
      case h1 =>
        intro wq_17 kq_17
        have zs_kq_17 := kq_17.size
        replace hr := hr.chg kq_17 (by intro b h1 h2 h3; have h4 : _ = _ := h3; (try dsimp only at h2); exfalso; omega)
        replace hb1 := hb1.chg kq_17 (by intro h1; have h2 : _ = _ := h1; exfalso; omega)
        replace hw := hw.chg kq_17 (by intro x h1 h2; have h3 : _ = _ := h2; exfalso; omega)
        refine WL.indexC hr Tryd.underlying26 Tryd.sizeOf5 rfl rfl ⟨e1, rfl⟩ rfl ?_
        refine WL.nil ?_
        exact WX.one ⟨rfl, by exact Chg.refl _ _⟩
      apply DQ.step (E' := [(24, _)])
      case ho => rfl
      case hs => exact ⟨rfl, trivial⟩
      case hk => rfl
      case h1 =>
        intro wq_18 kq_18
        have zs_kq_18 := kq_18.size
        replace hr := hr.chg kq_18 (by intro b h1 h2 h3; have h4 : _ = _ := h3; (try dsimp only at h2); exfalso; omega)
        replace hb1 := hb1.chg kq_18 (by intro h1; have h2 : _ = _ := h1; exfalso; omega)
        replace hw := hw.chg kq_18 (by intro x h1 h2; have h3 : _ = _ := h2; exfalso; omega)
        refine WL.load Tryd.isAgg5 rfl ((hr.cellsAt e1) 0 _ rfl) rfl (?_)
        refine WL.nil ?_
        exact WX.one ⟨rfl, by exact Chg.refl _ _⟩
      apply DQ.step (E' := [(25, _)])
      case ho => rfl
      case hs => exact ⟨rfl, trivial⟩
      case hk => rfl
      case h1 =>
        intro wq_19 kq_19
        have zs_kq_19 := kq_19.size
        replace hr := hr.chg kq_19 (by intro b h1 h2 h3; have h4 : _ = _ := h3; (try dsimp only at h2); exfalso; omega)
        replace hb1 := hb1.chg kq_19 (by intro h1; have h2 : _ = _ := h1; exfalso; omega)
        replace hw := hw.chg kq_19 (by intro x h1 h2; have h3 : _ = _ := h2; exfalso; omega)
        refine WL.c_u8_u32 Tryd.underlying5 Tryd.underlying159 rfl rfl (?_)
        refine WL.nil ?_
        exact WX.one ⟨rfl, by exact Chg.refl _ _⟩
      apply DQ.step (E' := [(26, _)])
      case ho => rfl
      case hs => exact ⟨rfl, trivial⟩
      case hk => rfl
      case h1 =>
        intro wq_20 kq_20
        refine WL.num rfl rfl (n_shl32 _ _ _ _ 16 (by decide)) rfl (?_)
        refine WL.nil ?_
        exact WX.one ⟨rfl, by exact Chg.refl _ _⟩
      apply DQ.step (E' := [(19, _), (27, _)])
      case ho => rfl
      case hs => exact ⟨rfl, rfl, trivial⟩
      case hk => rfl
      case h1 =>
        intro wq_21 kq_21
        refine WL.num rfl rfl (n_or32 _ _ _ _) rfl (?_)
        refine WL.nil ?_
        exact WX.one ⟨rfl, by exact Chg.refl _ _⟩
      apply DQ.step (E' := [(0, _)])
      case ho => rfl
      case hs => exact ⟨rfl, trivial⟩
      case hk => rfl
      case h1 =>
        intro wq_22 kq_22
        refine WL.move rfl rfl (?_)
        refine WL.nil ?_
        exact WX.one ⟨rfl, by exact Chg.refl _ _⟩
      apply DQ.step (E' := [(4, _)])
      case ho => rfl
      case hs => exact ⟨rfl, trivial⟩
      case hk => rfl
      case h1 =>
        intro wq_23 kq_23
        refine WL.move rfl rfl (?_)
        refine WL.nil ?_
        exact WX.one ⟨rfl, by exact Chg.refl _ _⟩
      apply DQ.step (E' := [(30, _)])
      case ho => rfl
      case hs => exact ⟨rfl, trivial⟩
      case hk => rfl
      case h1 =>
        intro wq_24 kq_24
        refine WL.mul64 rfl rfl (by omega) rfl (?_)
        refine WL.nil ?_
        exact WX.one ⟨rfl, by exact Chg.refl _ _⟩
      apply DQ.step (E' := [(31, _)])
      case ho => rfl
      case hs => exact ⟨rfl, trivial⟩
      case hk => rfl
      case h1 =>
        intro wq_25 kq_25
        refine WL.add64 rfl rfl (by omega) rfl (?_)
        refine WL.nil ?_
        exact WX.one ⟨rfl, by exact Chg.refl _ _⟩
      apply DQ.step (E' := [(29, _), (32, _)])
      case ho => rfl
      case hs => exact ⟨rfl, rfl, trivial⟩
      case hk => rfl
      case h1 =>
        intro wq_26 kq_26
        have zs_kq_26 := kq_26.size
        replace hr := hr.chg kq_26 (by intro b h1 h2 h3; have h4 : _ = _ := h3; (try dsimp only at h2); exfalso; omega)
        replace hb1 := hb1.chg kq_26 (by intro h1; have h2 : _ = _ := h1; exfalso; omega)
        replace hw := hw.chg kq_26 (by intro x h1 h2; have h3 : _ = _ := h2; exfalso; omega)
        refine WL.indexC hr Tryd.underlying26 Tryd.sizeOf5 rfl rfl ⟨e2, rfl⟩ rfl ?_
        refine WL.nil ?_
        exact WX.one ⟨rfl, by exact Chg.refl _ _⟩
      apply DQ.step (E' := [(33, _)])
      case ho => rfl
      case hs => exact ⟨rfl, trivial⟩
      case hk => rfl
      case h1 =>
        intro wq_27 kq_27
        have zs_kq_27 := kq_27.size
        replace hr := hr.chg kq_27 (by intro b h1 h2 h3; have h4 : _ = _ := h3; (try dsimp only at h2); exfalso; omega)
        replace hb1 := hb1.chg kq_27 (by intro h1; have h2 : _ = _ := h1; exfalso; omega)
        replace hw := hw.chg kq_27 (by intro x h1 h2; have h3 : _ = _ := h2; exfalso; omega)
        refine WL.load Tryd.isAgg5 rfl ((hr.cellsAt e2) 0 _ rfl) rfl (?_)
        refine WL.nil ?_
        exact WX.one ⟨rfl, by exact Chg.refl _ _⟩
      apply DQ.step (E' := [(34, _)])
      case ho => rfl
      case hs => exact ⟨rfl, trivial⟩
      case hk => rfl
      case h1 =>
        intro wq_28 kq_28
        have zs_kq_28 := kq_28.size
        replace hr := hr.chg kq_28 (by intro b h1 h2 h3; have h4 : _ = _ := h3; (try dsimp only at h2); exfalso; omega)
        replace hb1 := hb1.chg kq_28 (by intro h1; have h2 : _ = _ := h1; exfalso; omega)
        replace hw := hw.chg kq_28 (by intro x h1 h2; have h3 : _ = _ := h2; exfalso; omega)
        refine WL.c_u8_u32 Tryd.underlying5 Tryd.underlying159 rfl rfl (?_)
        refine WL.nil ?_
        exact WX.one ⟨rfl, by exact Chg.refl _ _⟩
      apply DQ.step (E' := [(35, _)])
      case ho => rfl
      case hs => exact ⟨rfl, trivial⟩
      case hk => rfl
      case h1 =>
        intro wq_29 kq_29
        refine WL.num rfl rfl (n_shl32 _ _ _ _ 8 (by decide)) rfl (?_)
        refine WL.nil ?_
        exact WX.one ⟨rfl, by exact Chg.refl _ _⟩
      apply DQ.step (E' := [(28, _), (36, _)])
      case ho => rfl
      case hs => exact ⟨rfl, rfl, trivial⟩
      case hk => rfl
      case h1 =>
        intro wq_30 kq_30
        refine WL.num rfl rfl (n_or32 _ _ _ _) rfl (?_)
        refine WL.nil ?_
        exact WX.one ⟨rfl, by exact Chg.refl _ _⟩
      apply DQ.step (E' := [(0, _)])
      case ho => rfl
      case hs => exact ⟨rfl, trivial⟩
      case hk => rfl
      case h1 =>
        intro wq_31 kq_31
        refine WL.move rfl rfl (?_)
        refine WL.nil ?_
        exact WX.one ⟨rfl, by exact Chg.refl _ _⟩
      apply DQ.step (E' := [(4, _)])
      case ho => rfl
      case hs => exact ⟨rfl, trivial⟩
      case hk => rfl
      case h1 =>
        intro wq_32 kq_32
        refine WL.move rfl rfl (?_)
        refine WL.nil ?_
        exact WX.one ⟨rfl, by exact Chg.refl _ _⟩
      apply DQ.step (E' := [(39, _)])
      case ho => rfl
      case hs => exact ⟨rfl, trivial⟩
      case hk => rfl
      case h1 =>
        intro wq_33 kq_33
        refine WL.mul64 rfl rfl (by omega) rfl (?_)
        refine WL.nil ?_
        exact WX.one ⟨rfl, by exact Chg.refl _ _⟩
      apply DQ.step (E' := [(40, _)])
      case ho => rfl
      case hs => exact ⟨rfl, trivial⟩
      case hk => rfl
      case h1 =>
        intro wq_34 kq_34
        refine WL.add64 rfl rfl (by omega) rfl (?_)
        refine WL.nil ?_
        exact WX.one ⟨rfl, by exact Chg.refl _ _⟩
      apply DQ.step (E' := [(38, _), (41, _)])
      case ho => rfl
      case hs => exact ⟨rfl, rfl, trivial⟩
      case hk => rfl
      case h1 =>
        intro wq_35 kq_35
        have zs_kq_35 := kq_35.size
        replace hr := hr.chg kq_35 (by intro b h1 h2 h3; have h4 : _ = _ := h3; (try dsimp only at h2); exfalso; omega)
        replace hb1 := hb1.chg kq_35 (by intro h1; have h2 : _ = _ := h1; exfalso; omega)
        replace hw := hw.chg kq_35 (by intro x h1 h2; have h3 : _ = _ := h2; exfalso; omega)
        refine WL.indexC hr Tryd.underlying26 Tryd.sizeOf5 rfl rfl ⟨e3, rfl⟩ rfl ?_
        refine WL.nil ?_
        exact WX.one ⟨rfl, by exact Chg.refl _ _⟩
      apply DQ.step (E' := [(42, _)])
      case ho => rfl
      case hs => exact ⟨rfl, trivial⟩
      case hk => rfl
      case h1 =>
        intro wq_36 kq_36
        have zs_kq_36 := kq_36.size
        replace hr := hr.chg kq_36 (by intro b h1 h2 h3; have h4 : _ = _ := h3; (try dsimp only at h2); exfalso; omega)
        replace hb1 := hb1.chg kq_36 (by intro h1; have h2 : _ = _ := h1; exfalso; omega)
        replace hw := hw.chg kq_36 (by intro x h1 h2; have h3 : _ = _ := h2; exfalso; omega)
        refine WL.load Tryd.isAgg5 rfl ((hr.cellsAt e3) 0 _ rfl) rfl (?_)
        refine WL.nil ?_
        exact WX.one ⟨rfl, by exact Chg.refl _ _⟩
      apply DQ.step (E' := [(43, _)])
      case ho => rfl
      case hs => exact ⟨rfl, trivial⟩
      case hk => rfl
      case h1 =>
        intro wq_37 kq_37
        have zs_kq_37 := kq_37.size
        replace hr := hr.chg kq_37 (by intro b h1 h2 h3; have h4 : _ = _ := h3; (try dsimp only at h2); exfalso; omega)
        replace hb1 := hb1.chg kq_37 (by intro h1; have h2 : _ = _ := h1; exfalso; omega)
        replace hw := hw.chg kq_37 (by intro x h1 h2; have h3 : _ = _ := h2; exfalso; omega)
        refine WL.c_u8_u32 Tryd.underlying5 Tryd.underlying159 rfl rfl (?_)
        refine WL.nil ?_
        exact WX.one ⟨rfl, by exact Chg.refl _ _⟩
      apply DQ.step (E' := [(37, _), (44, _)])
      case ho => rfl
      case hs => exact ⟨rfl, rfl, trivial⟩
      case hk => rfl
      case h1 =>
        intro wq_38 kq_38
        refine WL.num rfl rfl (n_or32 _ _ _ _) rfl (?_)
        refine WL.nil ?_
        exact WX.one ⟨rfl, by exact Chg.refl _ _⟩
      apply DQ.step (E' := [(3, _), (12, _)])
      case ho => rfl
      case hs => exact ⟨rfl, rfl, trivial⟩
      case hk => rfl
      case h1 =>
        intro wq_39 kq_39
        have zs_kq_39 := kq_39.size
        replace hr := hr.chg kq_39 (by intro b h1 h2 h3; have h4 : _ = _ := h3; (try dsimp only at h2); exfalso; omega)
        replace hb1 := hb1.chg kq_39 (by intro h1; have h2 : _ = _ := h1; exfalso; omega)
        replace hw := hw.chg kq_39 (by intro x h1 h2; have h3 : _ = _ := h2; exfalso; omega)
        refine WL.indexArr (t) Tryd.underlying163 Tryd.sizeOf159 rfl rfl ⟨by omega, by omega⟩ rfl ?_
        refine WL.nil ?_
        exact WX.one ⟨rfl, by exact Chg.refl _ _⟩
      refine DQ.done (fun hd_4 => ?_)
      refine DL.step [(46, _), (45, _)] rfl ⟨rfl, rfl, trivial⟩ rfl (fun wq_40 kq_40 => ?_)
      have zs_kq_40 := kq_40.size
      replace hr := hr.pure kq_40
      replace hb1 := hb1.pure kq_40
      replace hb2 := hb2.pure kq_40
      replace hw := hw.pure kq_40
      replace hd_4 := hd_4.pure kq_40
      refine WL.store Tryd.sizeOf159 hb2 rfl rfl rfl (by simp; omega) ?_
      intro w_41 hs_41 hn_41 k_41
      have zs_k_41 := k_41.size
      replace hr := hr.chg k_41 (by intro b h1 h2 h3; have h4 : _ = _ := h3; (try dsimp only at h2); exfalso; omega)
      replace hb1 := hb1.chg k_41 (by intro h1; have h2 : _ = _ := h1; exfalso; omega)
      replace hw := hw.chg k_41 (by intro x h1 h2; have h3 : _ = _ := h2; exfalso; omega)
      replace hd_4 := hd_4.chg k_41 (by intro x h1 h2; exact h2)
      replace hb2 := hn_41
      refine WL.nil ?_
      refine WX.one0 (v := undef) ⟨hd_4, ?_⟩
      refine DL.done (fun we_42 ke_42 => ?_)
      have zs_ke_42 := ke_42.size
      replace hr := hr.pure ke_42
      replace hb1 := hb1.pure ke_42
      replace hb2 := hb2.pure ke_42
      replace hw := hw.pure ke_42
      replace hd_4 := hd_4.pure ke_42
      refine WX.then_normal (WC.exit (WX.then_exit (WX.block_here (WX.then_normal (WC.region (WL.add64 rfl rfl (by omega) rfl (WL.move rfl rfl (?_))))))))
      refine WL.nil (?_)
      refine WX.loop_next (t + 1) ⟨rfl, rfl, rfl, rfl, trivial⟩ ⟨by omega, hr, hb1, ?_, hw⟩ (by show _ - _ < _ - _; omega)
      rw [← sch_set (b := b) (t := t) (by omega)]
      first
        | (rw [nextW, if_pos (by omega)]; exact hb2)
        | (rw [nextW, if_neg (by omega)]; exact hb2)
    ·
      refine WL.nil (WX.then_normal (WC.cond_false rfl (WC.skip (WX.then_normal (WC.seq (?_))))))
      have f15 := sch_at (b := b) (t := t) (i := t - 15) (by omega)
      have f2 := sch_at (b := b) (t := t) (i := t - 2) (by omega)
      refine WC.draw (Nob) [0, 1, 2, 3, 4, 5, 6, 7, 8, 9] [] mixed rfl rfl (fun wd_3 kd_3 zd_3 => ?_)
      have zs_kd_3 := kd_3.size
      replace hr := hr.pure kd_3
      replace hb1 := hb1.pure kd_3
      replace hb2 := hb2.pure kd_3
      replace hw := hw.pure kd_3
      apply DQ.step (E' := [(4, _)])
      case ho => rfl
      case hs => exact ⟨rfl, trivial⟩
      case hk => rfl
      case h1 =>
        intro wq_4 kq_4
        refine WL.move rfl rfl (?_)
        refine WL.nil ?_
        exact WX.one ⟨rfl, by exact Chg.refl _ _⟩
      apply DQ.step (E' := [(47, _)])
      case ho => rfl
      case hs => exact ⟨rfl, trivial⟩
      case hk => rfl
      case h1 =>
        intro wq_5 kq_5
        refine WL.sub64 rfl rfl (by omega) rfl (?_)
        refine WL.nil ?_
        exact WX.one ⟨rfl, by exact Chg.refl _ _⟩
      apply DQ.step (E' := [(3, _), (48, _)])
      case ho => rfl
      case hs => exact ⟨rfl, rfl, trivial⟩
      case hk => rfl
      case h1 =>
        intro wq_6 kq_6
        have zs_kq_6 := kq_6.size
        replace hr := hr.pure kq_6
        replace hb1 := hb1.pure kq_6
        replace hb2 := hb2.pure kq_6
        replace hw := hw.pure kq_6
        refine WL.indexArr (t - 15) Tryd.underlying163 Tryd.sizeOf159 rfl rfl ⟨by omega, by omega⟩ rfl ?_
        refine WL.nil ?_
        exact WX.one ⟨rfl, by exact Chg.refl _ _⟩
      apply DQ.step (E' := [(49, _)])
      case ho => rfl
      case hs => exact ⟨rfl, trivial⟩
      case hk => rfl
      case h1 =>
        intro wq_7 kq_7
        have zs_kq_7 := kq_7.size
        replace hr := hr.pure kq_7
        replace hb1 := hb1.pure kq_7
        replace hb2 := hb2.pure kq_7
        replace hw := hw.pure kq_7
        refine WL.loadB Tryd.isAgg159 hb2 rfl (map_at _ f15) rfl (?_)
        refine WL.nil ?_
        exact WX.one ⟨rfl, by exact Chg.refl _ _⟩
      apply DQ.step (E' := [(4, _)])
      case ho => rfl
      case hs => exact ⟨rfl, trivial⟩
      case hk => rfl
      case h1 =>
        intro wq_8 kq_8
        refine WL.move rfl rfl (?_)
        refine WL.nil ?_
        exact WX.one ⟨rfl, by exact Chg.refl _ _⟩
      apply DQ.step (E' := [(51, _)])
      case ho => rfl
      case hs => exact ⟨rfl, trivial⟩
      case hk => rfl
      case h1 =>
        intro wq_9 kq_9
        refine WL.sub64 rfl rfl (by omega) rfl (?_)
        refine WL.nil ?_
        exact WX.one ⟨rfl, by exact Chg.refl _ _⟩
      apply DQ.step (E' := [(3, _), (52, _)])
      case ho => rfl
      case hs => exact ⟨rfl, rfl, trivial⟩
      case hk => rfl
      case h1 =>
        intro wq_10 kq_10
        have zs_kq_10 := kq_10.size
        replace hr := hr.pure kq_10
        replace hb1 := hb1.pure kq_10
        replace hb2 := hb2.pure kq_10
        replace hw := hw.pure kq_10
        refine WL.indexArr (t - 2) Tryd.underlying163 Tryd.sizeOf159 rfl rfl ⟨by omega, by omega⟩ rfl ?_
        refine WL.nil ?_
        exact WX.one ⟨rfl, by exact Chg.refl _ _⟩
      apply DQ.step (E' := [(53, _)])
      case ho => rfl
      case hs => exact ⟨rfl, trivial⟩
      case hk => rfl
      case h1 =>
        intro wq_11 kq_11
        have zs_kq_11 := kq_11.size
        replace hr := hr.pure kq_11
        replace hb1 := hb1.pure kq_11
        replace hb2 := hb2.pure kq_11
        replace hw := hw.pure kq_11
        refine WL.loadB Tryd.isAgg159 hb2 rfl (map_at _ f2) rfl (?_)
        refine WL.nil ?_
        exact WX.one ⟨rfl, by exact Chg.refl _ _⟩
      apply DQ.step (E' := [(50, _)])
      case ho => rfl
      case hs => exact ⟨rfl, trivial⟩
      case hk => rfl
      case h1 =>
        intro wq_12 kq_12
        refine WL.assign rfl rfl (?_)
        refine WL.nil ?_
        exact WX.one ⟨rfl, by exact Chg.refl _ _⟩
      apply DQ.step (E' := [(54, _)])
      case ho => rfl
      case hs => exact ⟨rfl, trivial⟩
      case hk => rfl
      case h1 =>
        intro wq_13 kq_13
        refine WL.assign rfl rfl (?_)
        refine WL.nil ?_
        exact WX.one ⟨rfl, by exact Chg.refl _ _⟩
      refine DQ.done (fun _ => ?_)
      refine DL.done (fun we_14 ke_14 => ?_)
      have zs_ke_14 := ke_14.size
      replace hr := hr.pure ke_14
      replace hb1 := hb1.pure ke_14
      replace hb2 := hb2.pure ke_14
      replace hw := hw.pure ke_14
      refine WX.then_normal (?_)
      refine WC.drawJ (fun x => x = g_2) (JS b t g_2) JS.pure [0, 1, 2, 3, 4, 5, 6, 7, 8, 9, 10, 11, 12, 13, 14, 15, 16, 17, 18, 19, 20, 21, 22, 23, 24, 25, 26, 27, 28] [29] mixed rfl rfl (JS.init hb2) (fun wd_15 kd_15 zd_15 => ?_)
      have zs_kd_15 := kd_15.size
      replace hr := hr.pure kd_15
      replace hb1 := hb1.pure kd_15
      replace hb2 := hb2.pure kd_15
      replace hw := hw.pure kd_15
      apply DQ.step (E' := [(4, _)])
      case ho => rfl
      case hs => exact ⟨rfl, trivial⟩
      case hk => rfl
      case h1 =>
        rintro wq_17 ⟨kq_17, jq⟩
        refine WL.move rfl rfl (?_)
        refine WL.nil ?_
        exact WX.one ⟨rfl, by exact Chg.refl _ _⟩
      apply DQ.step (E' := [(4, _)])
      case ho => rfl
      case hs => exact ⟨rfl, trivial⟩
      case hk => rfl
      case h1 =>
        rintro wq_18 ⟨kq_18, jq⟩
        refine WL.move rfl rfl (?_)
        refine WL.nil ?_
        exact WX.one ⟨rfl, by exact Chg.refl _ _⟩
      apply DQ.step (E' := [(56, _)])
      case ho => rfl
      case hs => exact ⟨rfl, trivial⟩
      case hk => rfl
      case h1 =>
        rintro wq_19 ⟨kq_19, jq⟩
        refine WL.sub64 rfl rfl (by omega) rfl (?_)
        refine WL.nil ?_
        exact WX.one ⟨rfl, by exact Chg.refl _ _⟩
      apply DQ.step (E' := [(3, _), (57, _)])
      case ho => rfl
      case hs => exact ⟨rfl, rfl, trivial⟩
      case hk => rfl
      case h1 =>
        rintro wq_20 ⟨kq_20, jq⟩
        have zs_kq_20 := kq_20.size
        replace hr := hr.chg kq_20 (by intro b h1 h2 h3; have h4 : _ = _ := h3; (try dsimp only at h2); exfalso; omega)
        replace hb1 := hb1.chg kq_20 (by intro h1; have h2 : _ = _ := h1; exfalso; omega)
        replace hw := hw.chg kq_20 (by intro x h1 h2; have h3 : _ = _ := h2; exfalso; omega)
        refine WL.indexArr (t - 16) Tryd.underlying163 Tryd.sizeOf159 rfl rfl ⟨by omega, by omega⟩ rfl ?_
        refine WL.nil ?_
        exact WX.one ⟨rfl, by exact Chg.refl _ _⟩
      apply DQ.step (E' := [(58, _)])
      case ho => rfl
      case hs => exact ⟨rfl, trivial⟩
      case hk => rfl
      case h1 =>
        rintro wq_21 ⟨kq_21, jq⟩
        have zs_kq_21 := kq_21.size
        replace hr := hr.chg kq_21 (by intro b h1 h2 h3; have h4 : _ = _ := h3; (try dsimp only at h2); exfalso; omega)
        replace hb1 := hb1.chg kq_21 (by intro h1; have h2 : _ = _ := h1; exfalso; omega)
        replace hw := hw.chg kq_21 (by intro x h1 h2; have h3 : _ = _ := h2; exfalso; omega)
        obtain ⟨cs, hq, hcs⟩ := jq
        refine WL.loadB Tryd.isAgg159 hq rfl (hcs (t - 16) (by omega)) rfl ?_
        refine WL.nil ?_
        exact WX.one ⟨rfl, by exact Chg.refl _ _⟩
      apply DQ.step (E' := [(5, _)])
      case ho => rfl
      case hs => exact ⟨rfl, trivial⟩
      case hk => rfl
      case h1 =>
        rintro wq_22 ⟨kq_22, jq⟩
        refine WL.move rfl rfl (?_)
        refine WL.nil ?_
        exact WX.one ⟨rfl, by exact Chg.refl _ _⟩
      apply DQ.step (E' := [(60, _)])
      case ho => rfl
      case hs => exact ⟨rfl, trivial⟩
      case hk => rfl
      case h1 =>
        rintro wq_23 ⟨kq_23, jq⟩
        have zs_kq_23 := kq_23.size
        replace hr := hr.chg kq_23 (by intro b h1 h2 h3; have h4 : _ = _ := h3; (try dsimp only at h2); exfalso; omega)
        replace hb1 := hb1.chg kq_23 (by intro h1; have h2 : _ = _ := h1; exfalso; omega)
        replace hw := hw.chg kq_23 (by intro x h1 h2; have h3 : _ = _ := h2; exfalso; omega)
        refine WL.call eg_114 rfl rfl (ror_calls ((sch b t).getD (t - 15) 0) 7 _ (by decide)) ?_
        rintro v w4 ⟨rfl, k4⟩
        have zs_k4 := k4.size
        replace hr := hr.pure k4
        replace hb1 := hb1.pure k4
        replace hw := hw.pure k4
        refine WL.nil ?_
        exact WX.one ⟨rfl, by assumption⟩
      apply DQ.step (E' := [(5, _)])
      case ho => rfl
      case hs => exact ⟨rfl, trivial⟩
      case hk => rfl
      case h1 =>
        rintro wq_24 ⟨kq_24, jq⟩
        refine WL.move rfl rfl (?_)
        refine WL.nil ?_
        exact WX.one ⟨rfl, by exact Chg.refl _ _⟩
      apply DQ.step (E' := [(62, _)])
      case ho => rfl
      case hs => exact ⟨rfl, trivial⟩
      case hk => rfl
      case h1 =>
        rintro wq_25 ⟨kq_25, jq⟩
        have zs_kq_25 := kq_25.size
        replace hr := hr.chg kq_25 (by intro b h1 h2 h3; have h4 : _ = _ := h3; (try dsimp only at h2); exfalso; omega)
        replace hb1 := hb1.chg kq_25 (by intro h1; have h2 : _ = _ := h1; exfalso; omega)
        replace hw := hw.chg kq_25 (by intro x h1 h2; have h3 : _ = _ := h2; exfalso; omega)
        refine WL.call eg_114 rfl rfl (ror_calls ((sch b t).getD (t - 15) 0) 18 _ (by decide)) ?_
        rintro v w4 ⟨rfl, k4⟩
        have zs_k4 := k4.size
        replace hr := hr.pure k4
        replace hb1 := hb1.pure k4
        replace hw := hw.pure k4
        refine WL.nil ?_
        exact WX.one ⟨rfl, by assumption⟩
      apply DQ.step (E' := [(61, _), (63, _)])
      case ho => rfl
      case hs => exact ⟨rfl, rfl, trivial⟩
      case hk => rfl
      case h1 =>
        rintro wq_26 ⟨kq_26, jq⟩
        refine WL.num rfl rfl (n_xor32 _ _ _ _) rfl (?_)
        refine WL.nil ?_
        exact WX.one ⟨rfl, by exact Chg.refl _ _⟩
      apply DQ.step (E' := [(5, _)])
      case ho => rfl
      case hs => exact ⟨rfl, trivial⟩
      case hk => rfl
      case h1 =>
        rintro wq_27 ⟨kq_27, jq⟩
        refine WL.move rfl rfl (?_)
        refine WL.nil ?_
        exact WX.one ⟨rfl, by exact Chg.refl _ _⟩
      apply DQ.step (E' := [(65, _)])
      case ho => rfl
      case hs => exact ⟨rfl, trivial⟩
      case hk => rfl
      case h1 =>
        rintro wq_28 ⟨kq_28, jq⟩
        refine WL.num rfl rfl (n_shr32 _ _ _ _ 3 (by decide)) rfl (?_)
        refine WL.nil ?_
        exact WX.one ⟨rfl, by exact Chg.refl _ _⟩
      apply DQ.step (E' := [(64, _), (66, _)])
      case ho => rfl
      case hs => exact ⟨rfl, rfl, trivial⟩
      case hk => rfl
      case h1 =>
        rintro wq_29 ⟨kq_29, jq⟩
        refine WL.num rfl rfl (n_xor32 _ _ _ _) rfl (?_)
        refine WL.nil ?_
        exact WX.one ⟨rfl, by exact Chg.refl _ _⟩
      apply DQ.step (E' := [(59, _), (67, _)])
      case ho => rfl
      case hs => exact ⟨rfl, rfl, trivial⟩
      case hk => rfl
      case h1 =>
        rintro wq_30 ⟨kq_30, jq⟩
        refine WL.num rfl rfl (n_add32 _ _ _ _) rfl (?_)
        refine WL.nil ?_
        exact WX.one ⟨rfl, by exact Chg.refl _ _⟩
      apply DQ.step (E' := [(4, _)])
      case ho => rfl
      case hs => exact ⟨rfl, trivial⟩
      case hk => rfl
      case h1 =>
        rintro wq_31 ⟨kq_31, jq⟩
        refine WL.move rfl rfl (?_)
        refine WL.nil ?_
        exact WX.one ⟨rfl, by exact Chg.refl _ _⟩
      apply DQ.step (E' := [(69, _)])
      case ho => rfl
      case hs => exact ⟨rfl, trivial⟩
      case hk => rfl
      case h1 =>
        rintro wq_32 ⟨kq_32, jq⟩
        refine WL.sub64 rfl rfl (by omega) rfl (?_)
        refine WL.nil ?_
        exact WX.one ⟨rfl, by exact Chg.refl _ _⟩
      apply DQ.step (E' := [(3, _), (70, _)])
      case ho => rfl
      case hs => exact ⟨rfl, rfl, trivial⟩
      case hk => rfl
      case h1 =>
        rintro wq_33 ⟨kq_33, jq⟩
        have zs_kq_33 := kq_33.size
        replace hr := hr.chg kq_33 (by intro b h1 h2 h3; have h4 : _ = _ := h3; (try dsimp only at h2); exfalso; omega)
        replace hb1 := hb1.chg kq_33 (by intro h1; have h2 : _ = _ := h1; exfalso; omega)
        replace hw := hw.chg kq_33 (by intro x h1 h2; have h3 : _ = _ := h2; exfalso; omega)
        refine WL.indexArr (t - 7) Tryd.underlying163 Tryd.sizeOf159 rfl rfl ⟨by omega, by omega⟩ rfl ?_
        refine WL.nil ?_
        exact WX.one ⟨rfl, by exact Chg.refl _ _⟩
      apply DQ.step (E' := [(71, _)])
      case ho => rfl
      case hs => exact ⟨rfl, trivial⟩
      case hk => rfl
      case h1 =>
        rintro wq_34 ⟨kq_34, jq⟩
        have zs_kq_34 := kq_34.size
        replace hr := hr.chg kq_34 (by intro b h1 h2 h3; have h4 : _ = _ := h3; (try dsimp only at h2); exfalso; omega)
        replace hb1 := hb1.chg kq_34 (by intro h1; have h2 : _ = _ := h1; exfalso; omega)
        replace hw := hw.chg kq_34 (by intro x h1 h2; have h3 : _ = _ := h2; exfalso; omega)
        obtain ⟨cs, hq, hcs⟩ := jq
        refine WL.loadB Tryd.isAgg159 hq rfl (hcs (t - 7) (by omega)) rfl ?_
        refine WL.nil ?_
        exact WX.one ⟨rfl, by exact Chg.refl _ _⟩
      apply DQ.step (E' := [(68, _), (72, _)])
      case ho => rfl
      case hs => exact ⟨rfl, rfl, trivial⟩
      case hk => rfl
      case h1 =>
        rintro wq_35 ⟨kq_35, jq⟩
        refine WL.num rfl rfl (n_add32 _ _ _ _) rfl (?_)
        refine WL.nil ?_
        exact WX.one ⟨rfl, by exact Chg.refl _ _⟩
      apply DQ.step (E' := [(6, _)])
      case ho => rfl
      case hs => exact ⟨rfl, trivial⟩
      case hk => rfl
      case h1 =>
        rintro wq_36 ⟨kq_36, jq⟩
        refine WL.move rfl rfl (?_)
        refine WL.nil ?_
        exact WX.one ⟨rfl, by exact Chg.refl _ _⟩
      apply DQ.step (E' := [(74, _)])
      case ho => rfl
      case hs => exact ⟨rfl, trivial⟩
      case hk => rfl
      case h1 =>
        rintro wq_37 ⟨kq_37, jq⟩
        have zs_kq_37 := kq_37.size
        replace hr := hr.chg kq_37 (by intro b h1 h2 h3; have h4 : _ = _ := h3; (try dsimp only at h2); exfalso; omega)
        replace hb1 := hb1.chg kq_37 (by intro h1; have h2 : _ = _ := h1; exfalso; omega)
        replace hw := hw.chg kq_37 (by intro x h1 h2; have h3 : _ = _ := h2; exfalso; omega)
        refine WL.call eg_114 rfl rfl (ror_calls ((sch b t).getD (t - 2) 0) 17 _ (by decide)) ?_
        rintro v w4 ⟨rfl, k4⟩
        have zs_k4 := k4.size
        replace hr := hr.pure k4
        replace hb1 := hb1.pure k4
        replace hw := hw.pure k4
        refine WL.nil ?_
        exact WX.one ⟨rfl, by assumption⟩
      apply DQ.step (E' := [(6, _)])
      case ho => rfl
      case hs => exact ⟨rfl, trivial⟩
      case hk => rfl
      case h1 =>
        rintro wq_38 ⟨kq_38, jq⟩
        refine WL.move rfl rfl (?_)
        refine WL.nil ?_
        exact WX.one ⟨rfl, by exact Chg.refl _ _⟩
      apply DQ.step (E' := [(76, _)])
      case ho => rfl
      case hs => exact ⟨rfl, trivial⟩
      case hk => rfl
      case h1 =>
        rintro wq_39 ⟨kq_39, jq⟩
        have zs_kq_39 := kq_39.size
        replace hr := hr.chg kq_39 (by intro b h1 h2 h3; have h4 : _ = _ := h3; (try dsimp only at h2); exfalso; omega)
        replace hb1 := hb1.chg kq_39 (by intro h1; have h2 : _ = _ := h1; exfalso; omega)
        replace hw := hw.chg kq_39 (by intro x h1 h2; have h3 : _ = _ := h2; exfalso; omega)
        refine WL.call eg_114 rfl rfl (ror_calls ((sch b t).getD (t - 2) 0) 19 _ (by decide)) ?_
        rintro v w4 ⟨rfl, k4⟩
        have zs_k4 := k4.size
        replace hr := hr.pure k4
        replace hb1 := hb1.pure k4
        replace hw := hw.pure k4
        refine WL.nil ?_
        exact WX.one ⟨rfl, by assumption⟩
      apply DQ.step (E' := [(75, _), (77, _)])
      case ho => rfl
      case hs => exact ⟨rfl, rfl, trivial⟩
      case hk => rfl
      case h1 =>
        rintro wq_40 ⟨kq_40, jq⟩
        refine WL.num rfl rfl (n_xor32 _ _ _ _) rfl (?_)
        refine WL.nil ?_
        exact WX.one ⟨rfl, by exact Chg.refl _ _⟩
      apply DQ.step (E' := [(6, _)])
      case ho => rfl
      case hs => exact ⟨rfl, trivial⟩
      case hk => rfl
      case h1 =>
        rintro wq_41 ⟨kq_41, jq⟩
        refine WL.move rfl rfl (?_)
        refine WL.nil ?_
        exact WX.one ⟨rfl, by exact Chg.refl _ _⟩
      apply DQ.step (E' := [(79, _)])
      case ho => rfl
      case hs => exact ⟨rfl, trivial⟩
      case hk => rfl
      case h1 =>
        rintro wq_42 ⟨kq_42, jq⟩
        refine WL.num rfl rfl (n_shr32 _ _ _ _ 10 (by decide)) rfl (?_)
        refine WL.nil ?_
        exact WX.one ⟨rfl, by exact Chg.refl _ _⟩
      apply DQ.step (E' := [(78, _), (80, _)])
      case ho => rfl
      case hs => exact ⟨rfl, rfl, trivial⟩
      case hk => rfl
      case h1 =>
        rintro wq_43 ⟨kq_43, jq⟩
        refine WL.num rfl rfl (n_xor32 _ _ _ _) rfl (?_)
        refine WL.nil ?_
        exact WX.one ⟨rfl, by exact Chg.refl _ _⟩
      apply DQ.step (E' := [(73, _), (81, _)])
      case ho => rfl
      case hs => exact ⟨rfl, rfl, trivial⟩
      case hk => rfl
      case h1 =>
        rintro wq_44 ⟨kq_44, jq⟩
        refine WL.num rfl rfl (n_add32 _ _ _ _) rfl (?_)
        refine WL.nil ?_
        exact WX.one ⟨rfl, by exact Chg.refl _ _⟩
      apply DQ.step (E' := [(3, _), (55, _)])
      case ho => rfl
      case hs => exact ⟨rfl, rfl, trivial⟩
      case hk => rfl
      case h1 =>
        rintro wq_45 ⟨kq_45, jq⟩
        have zs_kq_45 := kq_45.size
        replace hr := hr.chg kq_45 (by intro b h1 h2 h3; have h4 : _ = _ := h3; (try dsimp only at h2); exfalso; omega)
        replace hb1 := hb1.chg kq_45 (by intro h1; have h2 : _ = _ := h1; exfalso; omega)
        replace hw := hw.chg kq_45 (by intro x h1 h2; have h3 : _ = _ := h2; exfalso; omega)
        refine WL.indexArr (t) Tryd.underlying163 Tryd.sizeOf159 rfl rfl ⟨by omega, by omega⟩ rfl ?_
        refine WL.nil ?_
        exact WX.one ⟨rfl, by exact Chg.refl _ _⟩
      refine DQ.doneJ (fun hd_16 => ?_)
      refine DL.step [(83, _), (82, _)] rfl ⟨rfl, rfl, trivial⟩ rfl (fun wq_46 kq_46 => ?_)
      have zs_kq_46 := kq_46.size
      replace hr := hr.pure kq_46
      replace hb1 := hb1.pure kq_46
      replace hb2 := hb2.pure kq_46
      replace hw := hw.pure kq_46
      replace hd_16 := hd_16.pure kq_46
      refine WL.store Tryd.sizeOf159 hb2 rfl rfl rfl (by simp; omega) ?_
      intro w_47 hs_47 hn_47 k_47
      have zs_k_47 := k_47.size
      replace hr := hr.chg k_47 (by intro b h1 h2 h3; have h4 : _ = _ := h3; (try dsimp only at h2); exfalso; omega)
      replace hb1 := hb1.chg k_47 (by intro h1; have h2 : _ = _ := h1; exfalso; omega)
      replace hw := hw.chg k_47 (by intro x h1 h2; have h3 : _ = _ := h2; exfalso; omega)
      replace hd_16 := hd_16.chg k_47 (by intro x h1 h2; exact h2)
      replace hb2 := hn_47
      refine WL.nil ?_
      refine WX.one0 (v := undef) ⟨⟨hd_16, (by exact JS.set hb2)⟩, ?_⟩
      refine DL.done (fun we_48 ke_48 => ?_)
      have zs_ke_48 := ke_48.size
      replace hr := hr.pure ke_48
      replace hb1 := hb1.pure ke_48
      replace hb2 := hb2.pure ke_48
      replace hw := hw.pure ke_48
      replace hd_16 := hd_16.pure ke_48
      refine WX.block_normal (WX.then_normal (WC.region (WL.add64 rfl rfl (by omega) rfl (WL.move rfl rfl (WL.nil (?_))))))
      refine WX.loop_next (t + 1) ⟨rfl, rfl, rfl, rfl, trivial⟩ ⟨by omega, hr, hb1, ?_, hw⟩ (by show _ - _ < _ - _; omega)
      rw [← sch_set (b := b) (t := t) (by omega)]
      first
        | (rw [nextW, if_pos (by omega)]; exact hb2)
        | (rw [nextW, if_neg (by omega)]; exact hb2)
  ·
    refine WL.nil (WX.then_normal (WC.seq (WC.cond_false rfl (WC.exit (WX.then_exit (WX.then_exit (WX.block_here (?_))))))))
    refine WX.then_normal (WC.seq (WC.region (WL.loadsB Tryd.isAgg163 Tryd.sizeOf163 hb2 rfl (by simp; omega) rfl (?_))))
    refine WL.stores Tryd.sizeOf163 hb1 rfl rfl (by simp; omega) (by intro u hu; obtain ⟨x, _, rfl⟩ := List.mem_map.1 hu; rfl) (by simp; omega) rfl ?_
    intro w_3 hs_3 hn_3 k_3
    have zs_k_3 := k_3.size
    replace hr := hr.chg k_3 (by intro b h1 h2 h3; have h4 : _ = _ := h3; (try dsimp only at h2); exfalso; omega)
    replace hb2 := hb2.chg k_3 (by intro h1; have h2 : _ = _ := h1; exfalso; omega)
    replace hw := hw.chg k_3 (by intro x h1 h2; have h3 : _ = _ := h2; exfalso; omega)
    replace hb1 := hn_3
    refine WL.nil (WX.then_normal (WC.ret (?_)))
    refine WX.ret1c (.inl rfl) Tryd.results113 Tryd.isAgg163 Tryd.sizeOf163 hb1 rfl (by simp; omega) ?_
    have ht64 : t = 64 := by omega
    subst ht64
    refine ⟨_, rfl, ?_, hw⟩
    simp
    omega
end Go.Proofs.YtjeldcjchipdgaaDoor
