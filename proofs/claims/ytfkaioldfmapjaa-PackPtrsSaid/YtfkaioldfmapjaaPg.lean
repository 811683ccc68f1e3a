import Derived.Test.YtfkaioldfmapjaaPf
namespace Go.Proofs.Ytfkaioldfmapjaa
open Go.RowKit Go.HL

/-! a count off the front -/
def ctd (k : Nat) : List UInt8 → Option (Nat × List UInt8)
  | [] => none
  | x :: r => if k = 10 ∨ (k = 9 ∧ 1 < x.toNat) ∨ (0 < k ∧ x.toNat = 0) then none else if x.toNat < 128 then some (x.toNat, r) else (ctd (k + 1) r).map fun p => (x.toNat % 128 + 128 * p.1, p.2)
theorem ctd_bound : ∀ (bs : List UInt8) (k : Nat) {c : Nat} {r : List UInt8}, k ≤ 10 → ctd k bs = some (c, r) → k ≤ 9 ∧ c < 2 ^ (64 - 7 * k) ∧ r.length < bs.length
  | [], k, c, r, _, h => by simp [ctd] at h
  | x :: bs, k, c, r, hk, h => by
    have hx := x.toNat_lt
    unfold ctd at h
    split at h
    · cases h
    · rename_i hn
      split at h
      · rename_i hl
        injection h with h
        injection h with h1 h2
        subst h1; subst h2
        refine ⟨by omega, ?_, by simp⟩
        have h9 : k = 9 ∨ k ≤ 8 := by omega
        rcases h9 with rfl | h9
        · have : x.toNat ≤ 1 := by omega
          omega
        · exact Nat.lt_of_lt_of_le hl (Nat.le_trans (by decide : 128 ≤ 2 ^ 8) (Nat.pow_le_pow_right (by decide) (by omega)))
      · rename_i hl
        obtain ⟨⟨c', r'⟩, h1, h2⟩ := Option.map_eq_some_iff.1 h
        injection h2 with h3 h4
        subst h3; subst h4
        obtain ⟨h5, h6, h7⟩ := ctd_bound bs (k + 1) (by omega) h1
        refine ⟨by omega, ?_, by simp; omega⟩
        have e : 2 ^ (64 - 7 * k) = 128 * 2 ^ (64 - 7 * (k + 1)) := by
          rw [show 64 - 7 * k = (64 - 7 * (k + 1)) + 7 from by omega, Nat.pow_add]
          omega
        rw [e]
        omega
theorem ctd_step {bs : List UInt8} {k : Nat} {x : UInt8} (hx : bs[k]? = some x) : ctd k (bs.drop k) = if k = 10 ∨ (k = 9 ∧ 1 < x.toNat) ∨ (0 < k ∧ x.toNat = 0) then none else if x.toNat < 128 then some (x.toNat, bs.drop (k + 1)) else (ctd (k + 1) (bs.drop (k + 1))).map fun p => (x.toNat % 128 + 128 * p.1, p.2) := by
  have hlt := (List.getElem?_eq_some_iff.1 hx).1
  have e : bs.drop k = x :: bs.drop (k + 1) := by
    rw [List.drop_eq_getElem_cons hlt]
    congr 1
    exact (List.getElem?_eq_some_iff.1 hx).2
  rw [e, ctd]
theorem and127 (x : UInt8) : (x &&& 127).toNat = x.toNat % 128 := by
  have h : ∀ y : Fin 256, (UInt8.ofNat y.1 &&& 127).toNat = (UInt8.ofNat y.1).toNat % 128 := by decide +kernel
  have := h ⟨x.toNat, x.toNat_lt⟩
  simpa using this
theorem or_part {c : UInt64} {x : UInt8} {k : Nat} (hk : k ≤ 9) (hc : c.toNat < 2 ^ (7 * k)) (h9 : k = 9 → x.toNat ≤ 1) : (c ||| ((x &&& 127).toUInt64 <<< UInt64.ofNat (7 * k))).toNat = c.toNat + x.toNat % 128 * 2 ^ (7 * k) ∧ c.toNat + x.toNat % 128 * 2 ^ (7 * k) < 2 ^ (7 * (k + 1)) := by
  have hx := x.toNat_lt
  have hb : x.toNat % 128 * 2 ^ (7 * k) < 2 ^ 64 := by
    have h : k = 9 ∨ k ≤ 8 := by omega
    rcases h with rfl | h
    · have := h9 rfl
      have h3 : x.toNat % 128 ≤ 1 := by omega
      exact Nat.lt_of_le_of_lt (Nat.mul_le_mul_right _ h3) (by decide)
    · have h1 : x.toNat % 128 ≤ 127 := by omega
      have h2 : 2 ^ (7 * k) ≤ 2 ^ 56 := Nat.pow_le_pow_right (by decide) (by omega)
      exact Nat.lt_of_le_of_lt (Nat.mul_le_mul h1 h2) (by decide)
  have h1 : ((x &&& 127).toUInt64 <<< UInt64.ofNat (7 * k)).toNat = x.toNat % 128 * 2 ^ (7 * k) := by
    rw [UInt64.toNat_shiftLeft]
    simp only [UInt64.toNat_ofNat', UInt8.toNat_toUInt64, and127]
    rw [show 7 * k % 2 ^ 64 % 64 = 7 * k from by omega, Nat.shiftLeft_eq, Nat.mod_eq_of_lt hb]
  constructor
  · rw [UInt64.toNat_or, h1, Nat.or_comm, ← Nat.shiftLeft_eq, ← Nat.shiftLeft_add_eq_or_of_lt hc]
    omega
  · rw [show 7 * (k + 1) = 7 * k + 7 from by omega, Nat.pow_add]
    have : x.toNat % 128 ≤ 127 := by omega
    have h5 := Nat.mul_le_mul_right (2 ^ (7 * k)) this
    omega
theorem add_part {u y : UInt64} {x : UInt8} {k : Nat} (hk : k ≤ 9) (hu : u.toNat < 2 ^ (7 * k)) (hy : y.toNat = 2 ^ (7 * k)) (h9 : k = 9 → x.toNat ≤ 1) : (u + x.toUInt64 % 128 * y).toNat = u.toNat + x.toNat % 128 * 2 ^ (7 * k) ∧ u.toNat + x.toNat % 128 * 2 ^ (7 * k) < 2 ^ (7 * (k + 1)) := by
  obtain ⟨h1, h2⟩ := or_part (c := u) (x := x) hk hu h9
  refine ⟨?_, h2⟩
  have hlt := (u ||| ((x &&& 127).toUInt64 <<< UInt64.ofNat (7 * k))).toNat_lt
  rw [h1] at hlt
  rw [UInt64.toNat_add, UInt64.toNat_mul, UInt64.toNat_mod, hy, UInt8.toNat_toUInt64]
  simp only [show (128 : UInt64).toNat = 128 from rfl]
  rw [Nat.mod_eq_of_lt (a := x.toNat % 128 * 2 ^ (7 * k)) (by omega), Nat.mod_eq_of_lt hlt]
/-- what has been taken, with what is to come -/
def ctdI (bs : List UInt8) (k c : Nat) : Prop := ctd 0 bs = (ctd k (bs.drop k)).map fun p => (c + 2 ^ (7 * k) * p.1, p.2)
theorem ctdI_start (bs : List UInt8) : ctdI bs 0 0 := by unfold ctdI; cases h : ctd 0 bs <;> simp [h]
theorem ctdI_bad {bs : List UInt8} {k c : Nat} {x : UInt8} (hi : ctdI bs k c) (hx : bs[k]? = some x) (h : k = 10 ∨ (k = 9 ∧ 1 < x.toNat) ∨ (0 < k ∧ x.toNat = 0)) : ctd 0 bs = none := by
  unfold ctdI at hi
  rw [hi, ctd_step hx, if_pos h]
  rfl
theorem ctdI_end {bs : List UInt8} {k c : Nat} (hi : ctdI bs k c) (h : bs.length ≤ k ∨ k = 10) : ctd 0 bs = none := by
  unfold ctdI at hi
  rw [hi]
  have : ctd k (bs.drop k) = none := by
    rcases h with h | rfl
    · rw [List.drop_eq_nil_of_le h]; rfl
    · cases hd : bs.drop 10 with
      | nil => rfl
      | cons y r => simp [ctd]
  rw [this]
  rfl
theorem ctdI_done {bs : List UInt8} {k c : Nat} {x : UInt8} (hi : ctdI bs k c) (hx : bs[k]? = some x) (h : ¬ (k = 10 ∨ (k = 9 ∧ 1 < x.toNat) ∨ (0 < k ∧ x.toNat = 0))) (hl : x.toNat < 128) : ctd 0 bs = some (c + x.toNat % 128 * 2 ^ (7 * k), bs.drop (k + 1)) := by
  unfold ctdI at hi
  rw [hi, ctd_step hx, if_neg h, if_pos hl, Option.map_some, Nat.mod_eq_of_lt hl, Nat.mul_comm]
theorem ctdI_more {bs : List UInt8} {k c : Nat} {x : UInt8} (hi : ctdI bs k c) (hx : bs[k]? = some x) (h : ¬ (k = 10 ∨ (k = 9 ∧ 1 < x.toNat) ∨ (0 < k ∧ x.toNat = 0))) (hl : ¬ x.toNat < 128) : ctdI bs (k + 1) (c + x.toNat % 128 * 2 ^ (7 * k)) := by
  unfold ctdI at hi ⊢
  rw [hi, ctd_step hx, if_neg h, if_neg hl, Option.map_map]
  congr 1
  funext p
  simp only [Function.comp, Prod.mk.injEq, and_true]
  rw [show 7 * (k + 1) = 7 * k + 7 from by omega, Nat.pow_add, Nat.mul_add, Nat.mul_comm (x.toNat % 128), ← Nat.mul_assoc, Nat.add_assoc]

theorem counted_calls {S : Nat → Prop} {w : World} {ao : Option Addr} {c : Nat} {bs : List UInt8} (hr : RSl S w eb ao c bs) (hl : bs.length ≤ 9223372036854775807) :
    Calls Try.prog 36 [.slice ao bs.length c].toArray w (Ret fun v w' => ((∃ (c : UInt64) (r : List UInt8) (ao' : Option Addr) (c' : Nat), v = .tuple #[v64 c, .slice ao' r.length c', .bool true] ∧ ctd 0 bs = some (c.toNat, r) ∧ RSl S w' eb ao' c' r) ∨ (v = .tuple #[v64 0, .slice none 0 0, .bool false] ∧ ctd 0 bs = none)) ∧ Chg Nob w w') := by
  refine Calls.of_WC Try.func36 rfl Try.ntmps36 (by simp) ?_
  refine WC.seq (WC.region (WL.assign rfl rfl (WL.assign rfl rfl (WL.assign rfl rfl (WL.nil (WX.then_normal (WC.seq (?_))))))))
  refine WC.region (WL.assign rfl rfl (WL.nil (WX.then_normal (WC.seq (WC.seq (WC.region (WL.move rfl rfl (?_))))))))
  refine WL.len Try.underlying24 rfl rfl (WL.move rfl rfl (WL.nil (WX.then_normal (WC.block (?_)))))
  refine WC.loop (σ := Nat × UInt64) (fun s => [(0, .slice ao bs.length c), (8, .slice ao bs.length c), (9, vi bs.length), (5, v64 s.2), (10, vi s.1)])
    (fun s w' => s.1 ≤ 10 ∧ s.1 ≤ bs.length ∧ s.2.toNat < 2 ^ (7 * s.1) ∧ ctdI bs s.1 s.2.toNat ∧ Chg Nob w w') (fun s => 10 - s.1) (0, 0) ⟨rfl, rfl, rfl, rfl, rfl, trivial⟩ ⟨by omega, by simp, by simp, ctdI_start _, Chg.refl _ _⟩ ?_
  rintro ⟨k, u⟩ w1 ⟨hk, hkl, hu, hi, kk⟩
  dsimp only at hk hkl hu hi kk ⊢
  replace hr := hr.pure kk
  refine WC.seq (WC.region (?_))
  refine WL.lss? rfl rfl rfl (fun h11 => ?_) (fun h11 => ?_)
  ·
    refine WL.nil (WX.then_normal (WC.seq (WC.cond_true rfl (WC.skip (WX.then_normal (WC.seq (WC.block (?_))))))))
    refine WC.seq (WC.region (WL.move rfl rfl (?_)))
    obtain ⟨x, hx⟩ : ∃ x, bs[k]? = some x := ⟨_, List.getElem?_eq_getElem (by omega)⟩
    refine WL.indexT Try.underlying24 Try.sizeOf5 hr rfl rfl ⟨hx, rfl⟩ rfl ?_
    intro b_1 o_1 hc_1
    refine WL.load Try.isAgg5 rfl (hc_1 0 _ rfl) rfl (WL.assign rfl rfl (WL.assign rfl rfl (WL.nil (WX.then_normal (WC.seq (WC.seq (WC.region (?_))))))))
    refine WL.move rfl rfl (?_)
    refine WL.eql? rfl rfl rfl (fun h16 => ?_) (fun h16 => ?_)
    ·
      refine WL.move rfl rfl (WL.pass rfl rfl rfl rfl (WL.pass rfl rfl rfl rfl (WL.pass rfl rfl rfl rfl (WL.passU rfl rfl rfl (WL.passU rfl rfl rfl (WL.pass rfl rfl rfl rfl (WL.pickT rfl rfl rfl (?_))))))))
      refine WL.move rfl rfl (WL.pass rfl rfl rfl rfl (WL.pass rfl rfl rfl rfl (WL.pass rfl rfl rfl rfl (WL.passU rfl rfl rfl (WL.passU rfl rfl rfl (WL.pass rfl rfl rfl rfl (WL.pickT rfl rfl rfl (?_))))))))
      refine WL.nil (WX.then_normal (WC.cond_true rfl (WC.seq (WC.region (WL.assign rfl rfl (WL.assign rfl rfl (WL.assign rfl rfl (?_))))))))
      refine WL.nil (WX.then_normal (WC.ret (WX.then_ret (WX.block_ret (WX.then_ret (WX.then_ret (WX.block_ret (?_))))))))
      refine WX.then_ret (?_)
      refine WX.ret3 (.inl rfl) Try.results36 rfl rfl rfl ?_
      first
        | (refine ⟨_, rfl, .inr ⟨rfl, ?_⟩, kk⟩
           first
             | exact ctdI_bad hi hx (by omega)
             | exact ctdI_end hi (by omega))
        | (refine ⟨_, rfl, .inl ⟨_, _, _, _, rfl, ?_, hc⟩, kk⟩
           rw [hor.1]
           rw [List.take_of_length_le (Nat.le_refl _)]
           exact ctdI_done hi hx hbad (by omega))
    ·
      refine WL.move rfl rfl (WL.want rfl rfl rfl (WL.move rfl rfl (WL.want rfl rfl rfl (?_))))
      refine WL.eql? rfl rfl rfl (fun h19 => ?_) (fun h19 => ?_)
      ·
        refine WL.want rfl rfl rfl (WL.move rfl rfl (WL.want rfl rfl rfl (WL.move rfl rfl (WL.want rfl rfl rfl (?_)))))
        refine WL.gtr? rfl rfl rfl (fun h22 => ?_) (fun h22 => ?_)
        ·
          refine WL.want rfl rfl rfl (WL.pickT rfl rfl rfl (WL.pickF rfl rfl rfl (WL.move rfl rfl (WL.pass rfl rfl rfl rfl (WL.pass rfl rfl rfl rfl (WL.pass rfl rfl rfl rfl (WL.passU rfl rfl rfl (?_))))))))
          refine WL.passU rfl rfl rfl (WL.pass rfl rfl rfl rfl (WL.pickT rfl rfl rfl (WL.nil (WX.then_normal (WC.cond_true rfl (WC.seq (WC.region (?_))))))))
          refine WL.assign rfl rfl (WL.assign rfl rfl (WL.assign rfl rfl (WL.nil (WX.then_normal (WC.ret (WX.then_ret (WX.block_ret (?_))))))))
          refine WX.then_ret (WX.then_ret (WX.block_ret (WX.then_ret (?_))))
          refine WX.ret3 (.inl rfl) Try.results36 rfl rfl rfl ?_
          first
            | (refine ⟨_, rfl, .inr ⟨rfl, ?_⟩, kk⟩
               first
                 | exact ctdI_bad hi hx (by omega)
                 | exact ctdI_end hi (by omega))
            | (refine ⟨_, rfl, .inl ⟨_, _, _, _, rfl, ?_, hc⟩, kk⟩
               rw [hor.1]
               rw [List.take_of_length_le (Nat.le_refl _)]
               exact ctdI_done hi hx hbad (by omega))
        ·
          refine WL.want rfl rfl rfl (WL.pickT rfl rfl rfl (WL.pickF rfl rfl rfl (WL.move rfl rfl (WL.want rfl rfl rfl (WL.move rfl rfl (WL.want rfl rfl rfl (?_)))))))
          refine WL.gtr? rfl rfl rfl (fun h27 => ?_) (fun h27 => ?_)
          ·
            refine WL.want rfl rfl rfl (WL.move rfl rfl (WL.want rfl rfl rfl (WL.move rfl rfl (WL.want rfl rfl rfl (?_)))))
            refine WL.eql? rfl rfl rfl (fun h30 => ?_) (fun h30 => ?_)
            ·
              refine WL.want rfl rfl rfl (WL.pickT rfl rfl rfl (WL.pickF rfl rfl rfl (WL.nil (WX.then_normal (WC.cond_true rfl (WC.seq (WC.region (?_))))))))
              refine WL.assign rfl rfl (WL.assign rfl rfl (WL.assign rfl rfl (WL.nil (WX.then_normal (WC.ret (WX.then_ret (WX.block_ret (?_))))))))
              refine WX.then_ret (WX.then_ret (WX.block_ret (WX.then_ret (?_))))
              refine WX.ret3 (.inl rfl) Try.results36 rfl rfl rfl ?_
              first
                | (refine ⟨_, rfl, .inr ⟨rfl, ?_⟩, kk⟩
                   first
                     | exact ctdI_bad hi hx (by omega)
                     | exact ctdI_end hi (by omega))
                | (refine ⟨_, rfl, .inl ⟨_, _, _, _, rfl, ?_, hc⟩, kk⟩
                   rw [hor.1]
                   rw [List.take_of_length_le (Nat.le_refl _)]
                   exact ctdI_done hi hx hbad (by omega))
            ·
              refine WL.want rfl rfl rfl (WL.pickT rfl rfl rfl (WL.pickF rfl rfl rfl (WL.nil (WX.then_normal (WC.cond_false rfl (WC.skip (WX.then_normal (?_))))))))
              refine WC.seq (WC.region (WL.move rfl rfl (WL.move rfl rfl (WL.num rfl rfl (n_and8 _ _ _ 127) rfl (WL.c_u8_u64 Try.underlying5 Try.underlying38 rfl rfl (WL.move rfl rfl (WL.mul64 rfl rfl (by first | omega | (constructor <;> omega)) rfl (?_))))))))
              have hbad : ¬ (k = 10 ∨ (k = 9 ∧ 1 < x.toNat) ∨ (0 < k ∧ x.toNat = 0)) := by omega
              have hor := or_part (c := u) (x := x) (k := k) (by omega) hu (by omega)
              refine WL.shlv (7 * k) rfl rfl ⟨by omega, by omega⟩ rfl ?_
              refine WL.num rfl rfl (n_or64 _ _ _ _) rfl (WL.assign rfl rfl (WL.nil (WX.then_normal (WC.seq (WC.region (WL.move rfl rfl (?_)))))))
              refine WL.lss? rfl rfl rfl (fun h42 => ?_) (fun h42 => ?_)
              ·
                refine WL.nil (WX.then_normal (WC.cond_true rfl (WC.seq (?_))))
                have hc := hr.cut (k + 1) bs.length (by constructor <;> omega)
                refine WC.draw (Nob) [0, 1, 2, 3, 4, 5, 6, 7] [] mixed rfl rfl (fun wd_2 kd_2 zd_2 => ?_)
                have zs_kd_2 := kd_2.size
                replace hr := hr.pure kd_2
                replace kk := kk.pure kd_2
                replace hc := hc.pure kd_2
                apply DQ.step (E' := [(5, _)])
                case ho => rfl
                case hs => exact ⟨rfl, trivial⟩
                case hk => rfl
                case h1 =>
                  intro wq_3 kq_3
                  refine WL.move rfl rfl (?_)
                  refine WL.nil ?_
                  exact WX.one ⟨rfl, by first | exact Chg.refl _ _ | assumption⟩
                apply DQ.step (E' := [(0, _)])
                case ho => rfl
                case hs => exact ⟨rfl, trivial⟩
                case hk => rfl
                case h1 =>
                  intro wq_4 kq_4
                  refine WL.move rfl rfl (?_)
                  refine WL.nil ?_
                  exact WX.one ⟨rfl, by first | exact Chg.refl _ _ | assumption⟩
                apply DQ.step (E' := [(6, _)])
                case ho => rfl
                case hs => exact ⟨rfl, trivial⟩
                case hk => rfl
                case h1 =>
                  intro wq_5 kq_5
                  refine WL.move rfl rfl (?_)
                  refine WL.nil ?_
                  exact WX.one ⟨rfl, by first | exact Chg.refl _ _ | assumption⟩
                apply DQ.step (E' := [(45, _)])
                case ho => rfl
                case hs => exact ⟨rfl, trivial⟩
                case hk => rfl
                case h1 =>
                  intro wq_6 kq_6
                  refine WL.add64 rfl rfl (by first | omega | (constructor <;> omega)) rfl (?_)
                  refine WL.nil ?_
                  exact WX.one ⟨rfl, by first | exact Chg.refl _ _ | assumption⟩
                apply DQ.step (E' := [(44, _), (46, _)])
                case ho => rfl
                case hs => exact ⟨rfl, rfl, trivial⟩
                case hk => rfl
                case h1 =>
                  intro wq_7 kq_7
                  have zs_kq_7 := kq_7.size
                  replace hr := hr.pure kq_7
                  replace kk := kk.pure kq_7
                  replace hc := hc.pure kq_7
                  refine WL.sliceC (l := k + 1) (h := bs.length) (j := .i64) Try.underlying24 Try.sizeOf5 hr rfl (.inl rfl) (.inr ⟨rfl, rfl⟩) (by constructor <;> omega) rfl ?_
                  refine WL.nil ?_
                  exact WX.one ⟨rfl, by first | exact Chg.refl _ _ | assumption⟩
                apply DQ.step (E' := [(43, _)])
                case ho => rfl
                case hs => exact ⟨rfl, trivial⟩
                case hk => rfl
                case h1 =>
                  intro wq_8 kq_8
                  refine WL.assign rfl rfl (?_)
                  refine WL.nil ?_
                  exact WX.one ⟨rfl, by first | exact Chg.refl _ _ | assumption⟩
                apply DQ.step (E' := [(47, _)])
                case ho => rfl
                case hs => exact ⟨rfl, trivial⟩
                case hk => rfl
                case h1 =>
                  intro wq_9 kq_9
                  refine WL.assign rfl rfl (?_)
                  refine WL.nil ?_
                  exact WX.one ⟨rfl, by first | exact Chg.refl _ _ | assumption⟩
                apply DQ.step (E' := [])
                case ho => rfl
                case hs => exact trivial
                case hk => rfl
                case h1 =>
                  intro wq_10 kq_10
                  refine WL.assign rfl rfl (?_)
                  refine WL.nil ?_
                  exact WX.one ⟨rfl, by first | exact Chg.refl _ _ | assumption⟩
                refine DQ.done (fun _ => ?_)
                refine DL.done (fun we_11 ke_11 => ?_)
                have zs_ke_11 := ke_11.size
                replace hr := hr.pure ke_11
                replace kk := kk.pure ke_11
                replace hc := hc.pure ke_11
                refine WX.then_normal (WC.ret (WX.block_ret (WX.then_ret (WX.then_ret (WX.block_ret (WX.then_ret (?_)))))))
                refine WX.ret3 (.inl rfl) Try.results36 rfl rfl rfl ?_
                first
                  | (refine ⟨_, rfl, .inr ⟨rfl, ?_⟩, kk⟩
                     first
                       | exact ctdI_bad hi hx (by omega)
                       | exact ctdI_end hi (by omega))
                  | (refine ⟨_, rfl, .inl ⟨_, _, _, _, rfl, ?_, hc⟩, kk⟩
                     rw [hor.1]
                     rw [List.take_of_length_le (Nat.le_refl _)]
                     exact ctdI_done hi hx hbad (by omega))
              ·
                refine WL.nil (WX.then_normal (WC.cond_false rfl (WC.skip (WX.block_normal (WX.then_normal (WC.region (WL.add64 rfl rfl (by first | omega | (constructor <;> omega)) rfl (?_))))))))
                refine WL.move rfl rfl (WL.nil (?_))
                refine WX.loop_next (k + 1, u ||| ((x &&& 127).toUInt64 <<< UInt64.ofNat (7 * k))) ⟨rfl, rfl, rfl, rfl, rfl, trivial⟩ ⟨by dsimp only; omega, by dsimp only; omega, ?_, ?_, kk⟩ (by show _ - _ < _ - _; omega)
                ·
                  dsimp only
                  rw [hor.1]; exact hor.2
                ·
                  dsimp only
                  rw [hor.1]; exact ctdI_more hi hx hbad (by omega)
          ·
            refine WL.want rfl rfl rfl (WL.move rfl rfl (WL.pass rfl rfl rfl rfl (WL.pass rfl rfl rfl rfl (WL.want rfl rfl rfl (WL.pickF rfl rfl rfl (WL.pickF rfl rfl rfl (WL.nil (?_))))))))
            refine WX.then_normal (WC.cond_false rfl (WC.skip (WX.then_normal (WC.seq (WC.region (WL.move rfl rfl (WL.move rfl rfl (?_))))))))
            refine WL.num rfl rfl (n_and8 _ _ _ 127) rfl (WL.c_u8_u64 Try.underlying5 Try.underlying38 rfl rfl (WL.move rfl rfl (WL.mul64 rfl rfl (by first | omega | (constructor <;> omega)) rfl (?_))))
            have hbad : ¬ (k = 10 ∨ (k = 9 ∧ 1 < x.toNat) ∨ (0 < k ∧ x.toNat = 0)) := by omega
            have hor := or_part (c := u) (x := x) (k := k) (by omega) hu (by omega)
            refine WL.shlv (7 * k) rfl rfl ⟨by omega, by omega⟩ rfl ?_
            refine WL.num rfl rfl (n_or64 _ _ _ _) rfl (WL.assign rfl rfl (WL.nil (WX.then_normal (WC.seq (WC.region (WL.move rfl rfl (?_)))))))
            refine WL.lss? rfl rfl rfl (fun h42 => ?_) (fun h42 => ?_)
            ·
              refine WL.nil (WX.then_normal (WC.cond_true rfl (WC.seq (?_))))
              have hc := hr.cut (k + 1) bs.length (by constructor <;> omega)
              refine WC.draw (Nob) [0, 1, 2, 3, 4, 5, 6, 7] [] mixed rfl rfl (fun wd_2 kd_2 zd_2 => ?_)
              have zs_kd_2 := kd_2.size
              replace hr := hr.pure kd_2
              replace kk := kk.pure kd_2
              replace hc := hc.pure kd_2
              apply DQ.step (E' := [(5, _)])
              case ho => rfl
              case hs => exact ⟨rfl, trivial⟩
              case hk => rfl
              case h1 =>
                intro wq_3 kq_3
                refine WL.move rfl rfl (?_)
                refine WL.nil ?_
                exact WX.one ⟨rfl, by first | exact Chg.refl _ _ | assumption⟩
              apply DQ.step (E' := [(0, _)])
              case ho => rfl
              case hs => exact ⟨rfl, trivial⟩
              case hk => rfl
              case h1 =>
                intro wq_4 kq_4
                refine WL.move rfl rfl (?_)
                refine WL.nil ?_
                exact WX.one ⟨rfl, by first | exact Chg.refl _ _ | assumption⟩
              apply DQ.step (E' := [(6, _)])
              case ho => rfl
              case hs => exact ⟨rfl, trivial⟩
              case hk => rfl
              case h1 =>
                intro wq_5 kq_5
                refine WL.move rfl rfl (?_)
                refine WL.nil ?_
                exact WX.one ⟨rfl, by first | exact Chg.refl _ _ | assumption⟩
              apply DQ.step (E' := [(45, _)])
              case ho => rfl
              case hs => exact ⟨rfl, trivial⟩
              case hk => rfl
              case h1 =>
                intro wq_6 kq_6
                refine WL.add64 rfl rfl (by first | omega | (constructor <;> omega)) rfl (?_)
                refine WL.nil ?_
                exact WX.one ⟨rfl, by first | exact Chg.refl _ _ | assumption⟩
              apply DQ.step (E' := [(44, _), (46, _)])
              case ho => rfl
              case hs => exact ⟨rfl, rfl, trivial⟩
              case hk => rfl
              case h1 =>
                intro wq_7 kq_7
                have zs_kq_7 := kq_7.size
                replace hr := hr.pure kq_7
                replace kk := kk.pure kq_7
                replace hc := hc.pure kq_7
                refine WL.sliceC (l := k + 1) (h := bs.length) (j := .i64) Try.underlying24 Try.sizeOf5 hr rfl (.inl rfl) (.inr ⟨rfl, rfl⟩) (by constructor <;> omega) rfl ?_
                refine WL.nil ?_
                exact WX.one ⟨rfl, by first | exact Chg.refl _ _ | assumption⟩
              apply DQ.step (E' := [(43, _)])
              case ho => rfl
              case hs => exact ⟨rfl, trivial⟩
              case hk => rfl
              case h1 =>
                intro wq_8 kq_8
                refine WL.assign rfl rfl (?_)
                refine WL.nil ?_
                exact WX.one ⟨rfl, by first | exact Chg.refl _ _ | assumption⟩
              apply DQ.step (E' := [(47, _)])
              case ho => rfl
              case hs => exact ⟨rfl, trivial⟩
              case hk => rfl
              case h1 =>
                intro wq_9 kq_9
                refine WL.assign rfl rfl (?_)
                refine WL.nil ?_
                exact WX.one ⟨rfl, by first | exact Chg.refl _ _ | assumption⟩
              apply DQ.step (E' := [])
              case ho => rfl
              case hs => exact trivial
              case hk => rfl
              case h1 =>
                intro wq_10 kq_10
                refine WL.assign rfl rfl (?_)
                refine WL.nil ?_
                exact WX.one ⟨rfl, by first | exact Chg.refl _ _ | assumption⟩
              refine DQ.done (fun _ => ?_)
              refine DL.done (fun we_11 ke_11 => ?_)
              have zs_ke_11 := ke_11.size
              replace hr := hr.pure ke_11
              replace kk := kk.pure ke_11
              replace hc := hc.pure ke_11
              refine WX.then_normal (WC.ret (WX.block_ret (WX.then_ret (WX.then_ret (WX.block_ret (WX.then_ret (?_)))))))
              refine WX.ret3 (.inl rfl) Try.results36 rfl rfl rfl ?_
              first
                | (refine ⟨_, rfl, .inr ⟨rfl, ?_⟩, kk⟩
                   first
                     | exact ctdI_bad hi hx (by omega)
                     | exact ctdI_end hi (by omega))
                | (refine ⟨_, rfl, .inl ⟨_, _, _, _, rfl, ?_, hc⟩, kk⟩
                   rw [hor.1]
                   rw [List.take_of_length_le (Nat.le_refl _)]
                   exact ctdI_done hi hx hbad (by omega))
            ·
              refine WL.nil (WX.then_normal (WC.cond_false rfl (WC.skip (WX.block_normal (WX.then_normal (WC.region (WL.add64 rfl rfl (by first | omega | (constructor <;> omega)) rfl (?_))))))))
              refine WL.move rfl rfl (WL.nil (?_))
              refine WX.loop_next (k + 1, u ||| ((x &&& 127).toUInt64 <<< UInt64.ofNat (7 * k))) ⟨rfl, rfl, rfl, rfl, rfl, trivial⟩ ⟨by dsimp only; omega, by dsimp only; omega, ?_, ?_, kk⟩ (by show _ - _ < _ - _; omega)
              ·
                dsimp only
                rw [hor.1]; exact hor.2
              ·
                dsimp only
                rw [hor.1]; exact ctdI_more hi hx hbad (by omega)
      ·
        refine WL.want rfl rfl rfl (WL.move rfl rfl (WL.pass rfl rfl rfl rfl (WL.pass rfl rfl rfl rfl (WL.want rfl rfl rfl (WL.pickF rfl rfl rfl (WL.pickF rfl rfl rfl (WL.move rfl rfl (?_))))))))
        refine WL.want rfl rfl rfl (WL.move rfl rfl (WL.want rfl rfl rfl (?_)))
        refine WL.gtr? rfl rfl rfl (fun h27 => ?_) (fun h27 => ?_)
        ·
          refine WL.want rfl rfl rfl (WL.move rfl rfl (WL.want rfl rfl rfl (WL.move rfl rfl (WL.want rfl rfl rfl (?_)))))
          refine WL.eql? rfl rfl rfl (fun h30 => ?_) (fun h30 => ?_)
          ·
            refine WL.want rfl rfl rfl (WL.pickT rfl rfl rfl (WL.pickF rfl rfl rfl (WL.nil (WX.then_normal (WC.cond_true rfl (WC.seq (WC.region (?_))))))))
            refine WL.assign rfl rfl (WL.assign rfl rfl (WL.assign rfl rfl (WL.nil (WX.then_normal (WC.ret (WX.then_ret (WX.block_ret (?_))))))))
            refine WX.then_ret (WX.then_ret (WX.block_ret (WX.then_ret (?_))))
            refine WX.ret3 (.inl rfl) Try.results36 rfl rfl rfl ?_
            first
              | (refine ⟨_, rfl, .inr ⟨rfl, ?_⟩, kk⟩
                 first
                   | exact ctdI_bad hi hx (by omega)
                   | exact ctdI_end hi (by omega))
              | (refine ⟨_, rfl, .inl ⟨_, _, _, _, rfl, ?_, hc⟩, kk⟩
                 rw [hor.1]
                 rw [List.take_of_length_le (Nat.le_refl _)]
                 exact ctdI_done hi hx hbad (by omega))
          ·
            refine WL.want rfl rfl rfl (WL.pickT rfl rfl rfl (WL.pickF rfl rfl rfl (WL.nil (WX.then_normal (WC.cond_false rfl (WC.skip (WX.then_normal (?_))))))))
            refine WC.seq (WC.region (WL.move rfl rfl (WL.move rfl rfl (WL.num rfl rfl (n_and8 _ _ _ 127) rfl (WL.c_u8_u64 Try.underlying5 Try.underlying38 rfl rfl (WL.move rfl rfl (WL.mul64 rfl rfl (by first | omega | (constructor <;> omega)) rfl (?_))))))))
            have hbad : ¬ (k = 10 ∨ (k = 9 ∧ 1 < x.toNat) ∨ (0 < k ∧ x.toNat = 0)) := by omega
            have hor := or_part (c := u) (x := x) (k := k) (by omega) hu (by omega)
            refine WL.shlv (7 * k) rfl rfl ⟨by omega, by omega⟩ rfl ?_
            refine WL.num rfl rfl (n_or64 _ _ _ _) rfl (WL.assign rfl rfl (WL.nil (WX.then_normal (WC.seq (WC.region (WL.move rfl rfl (?_)))))))
            refine WL.lss? rfl rfl rfl (fun h42 => ?_) (fun h42 => ?_)
            ·
              refine WL.nil (WX.then_normal (WC.cond_true rfl (WC.seq (?_))))
              have hc := hr.cut (k + 1) bs.length (by constructor <;> omega)
              refine WC.draw (Nob) [0, 1, 2, 3, 4, 5, 6, 7] [] mixed rfl rfl (fun wd_2 kd_2 zd_2 => ?_)
              have zs_kd_2 := kd_2.size
              replace hr := hr.pure kd_2
              replace kk := kk.pure kd_2
              replace hc := hc.pure kd_2
              apply DQ.step (E' := [(5, _)])
              case ho => rfl
              case hs => exact ⟨rfl, trivial⟩
              case hk => rfl
              case h1 =>
                intro wq_3 kq_3
                refine WL.move rfl rfl (?_)
                refine WL.nil ?_
                exact WX.one ⟨rfl, by first | exact Chg.refl _ _ | assumption⟩
              apply DQ.step (E' := [(0, _)])
              case ho => rfl
              case hs => exact ⟨rfl, trivial⟩
              case hk => rfl
              case h1 =>
                intro wq_4 kq_4
                refine WL.move rfl rfl (?_)
                refine WL.nil ?_
                exact WX.one ⟨rfl, by first | exact Chg.refl _ _ | assumption⟩
              apply DQ.step (E' := [(6, _)])
              case ho => rfl
              case hs => exact ⟨rfl, trivial⟩
              case hk => rfl
              case h1 =>
                intro wq_5 kq_5
                refine WL.move rfl rfl (?_)
                refine WL.nil ?_
                exact WX.one ⟨rfl, by first | exact Chg.refl _ _ | assumption⟩
              apply DQ.step (E' := [(45, _)])
              case ho => rfl
              case hs => exact ⟨rfl, trivial⟩
              case hk => rfl
              case h1 =>
                intro wq_6 kq_6
                refine WL.add64 rfl rfl (by first | omega | (constructor <;> omega)) rfl (?_)
                refine WL.nil ?_
                exact WX.one ⟨rfl, by first | exact Chg.refl _ _ | assumption⟩
              apply DQ.step (E' := [(44, _), (46, _)])
              case ho => rfl
              case hs => exact ⟨rfl, rfl, trivial⟩
              case hk => rfl
              case h1 =>
                intro wq_7 kq_7
                have zs_kq_7 := kq_7.size
                replace hr := hr.pure kq_7
                replace kk := kk.pure kq_7
                replace hc := hc.pure kq_7
                refine WL.sliceC (l := k + 1) (h := bs.length) (j := .i64) Try.underlying24 Try.sizeOf5 hr rfl (.inl rfl) (.inr ⟨rfl, rfl⟩) (by constructor <;> omega) rfl ?_
                refine WL.nil ?_
                exact WX.one ⟨rfl, by first | exact Chg.refl _ _ | assumption⟩
              apply DQ.step (E' := [(43, _)])
              case ho => rfl
              case hs => exact ⟨rfl, trivial⟩
              case hk => rfl
              case h1 =>
                intro wq_8 kq_8
                refine WL.assign rfl rfl (?_)
                refine WL.nil ?_
                exact WX.one ⟨rfl, by first | exact Chg.refl _ _ | assumption⟩
              apply DQ.step (E' := [(47, _)])
              case ho => rfl
              case hs => exact ⟨rfl, trivial⟩
              case hk => rfl
              case h1 =>
                intro wq_9 kq_9
                refine WL.assign rfl rfl (?_)
                refine WL.nil ?_
                exact WX.one ⟨rfl, by first | exact Chg.refl _ _ | assumption⟩
              apply DQ.step (E' := [])
              case ho => rfl
              case hs => exact trivial
              case hk => rfl
              case h1 =>
                intro wq_10 kq_10
                refine WL.assign rfl rfl (?_)
                refine WL.nil ?_
                exact WX.one ⟨rfl, by first | exact Chg.refl _ _ | assumption⟩
              refine DQ.done (fun _ => ?_)
              refine DL.done (fun we_11 ke_11 => ?_)
              have zs_ke_11 := ke_11.size
              replace hr := hr.pure ke_11
              replace kk := kk.pure ke_11
              replace hc := hc.pure ke_11
              refine WX.then_normal (WC.ret (WX.block_ret (WX.then_ret (WX.then_ret (WX.block_ret (WX.then_ret (?_)))))))
              refine WX.ret3 (.inl rfl) Try.results36 rfl rfl rfl ?_
              first
                | (refine ⟨_, rfl, .inr ⟨rfl, ?_⟩, kk⟩
                   first
                     | exact ctdI_bad hi hx (by omega)
                     | exact ctdI_end hi (by omega))
                | (refine ⟨_, rfl, .inl ⟨_, _, _, _, rfl, ?_, hc⟩, kk⟩
                   rw [hor.1]
                   rw [List.take_of_length_le (Nat.le_refl _)]
                   exact ctdI_done hi hx hbad (by omega))
            ·
              refine WL.nil (WX.then_normal (WC.cond_false rfl (WC.skip (WX.block_normal (WX.then_normal (WC.region (WL.add64 rfl rfl (by first | omega | (constructor <;> omega)) rfl (?_))))))))
              refine WL.move rfl rfl (WL.nil (?_))
              refine WX.loop_next (k + 1, u ||| ((x &&& 127).toUInt64 <<< UInt64.ofNat (7 * k))) ⟨rfl, rfl, rfl, rfl, rfl, trivial⟩ ⟨by dsimp only; omega, by dsimp only; omega, ?_, ?_, kk⟩ (by show _ - _ < _ - _; omega)
              ·
                dsimp only
                rw [hor.1]; exact hor.2
              ·
                dsimp only
                rw [hor.1]; exact ctdI_more hi hx hbad (by omega)
        ·
          refine WL.want rfl rfl rfl (WL.move rfl rfl (WL.pass rfl rfl rfl rfl (WL.pass rfl rfl rfl rfl (WL.want rfl rfl rfl (WL.pickF rfl rfl rfl (WL.pickF rfl rfl rfl (WL.nil (?_))))))))
          refine WX.then_normal (WC.cond_false rfl (WC.skip (WX.then_normal (WC.seq (WC.region (WL.move rfl rfl (WL.move rfl rfl (?_))))))))
          refine WL.num rfl rfl (n_and8 _ _ _ 127) rfl (WL.c_u8_u64 Try.underlying5 Try.underlying38 rfl rfl (WL.move rfl rfl (WL.mul64 rfl rfl (by first | omega | (constructor <;> omega)) rfl (?_))))
          have hbad : ¬ (k = 10 ∨ (k = 9 ∧ 1 < x.toNat) ∨ (0 < k ∧ x.toNat = 0)) := by omega
          have hor := or_part (c := u) (x := x) (k := k) (by omega) hu (by omega)
          refine WL.shlv (7 * k) rfl rfl ⟨by omega, by omega⟩ rfl ?_
          refine WL.num rfl rfl (n_or64 _ _ _ _) rfl (WL.assign rfl rfl (WL.nil (WX.then_normal (WC.seq (WC.region (WL.move rfl rfl (?_)))))))
          refine WL.lss? rfl rfl rfl (fun h42 => ?_) (fun h42 => ?_)
          ·
            refine WL.nil (WX.then_normal (WC.cond_true rfl (WC.seq (?_))))
            have hc := hr.cut (k + 1) bs.length (by constructor <;> omega)
            refine WC.draw (Nob) [0, 1, 2, 3, 4, 5, 6, 7] [] mixed rfl rfl (fun wd_2 kd_2 zd_2 => ?_)
            have zs_kd_2 := kd_2.size
            replace hr := hr.pure kd_2
            replace kk := kk.pure kd_2
            replace hc := hc.pure kd_2
            apply DQ.step (E' := [(5, _)])
            case ho => rfl
            case hs => exact ⟨rfl, trivial⟩
            case hk => rfl
            case h1 =>
              intro wq_3 kq_3
              refine WL.move rfl rfl (?_)
              refine WL.nil ?_
              exact WX.one ⟨rfl, by first | exact Chg.refl _ _ | assumption⟩
            apply DQ.step (E' := [(0, _)])
            case ho => rfl
            case hs => exact ⟨rfl, trivial⟩
            case hk => rfl
            case h1 =>
              intro wq_4 kq_4
              refine WL.move rfl rfl (?_)
              refine WL.nil ?_
              exact WX.one ⟨rfl, by first | exact Chg.refl _ _ | assumption⟩
            apply DQ.step (E' := [(6, _)])
            case ho => rfl
            case hs => exact ⟨rfl, trivial⟩
            case hk => rfl
            case h1 =>
              intro wq_5 kq_5
              refine WL.move rfl rfl (?_)
              refine WL.nil ?_
              exact WX.one ⟨rfl, by first | exact Chg.refl _ _ | assumption⟩
            apply DQ.step (E' := [(45, _)])
            case ho => rfl
            case hs => exact ⟨rfl, trivial⟩
            case hk => rfl
            case h1 =>
              intro wq_6 kq_6
              refine WL.add64 rfl rfl (by first | omega | (constructor <;> omega)) rfl (?_)
              refine WL.nil ?_
              exact WX.one ⟨rfl, by first | exact Chg.refl _ _ | assumption⟩
            apply DQ.step (E' := [(44, _), (46, _)])
            case ho => rfl
            case hs => exact ⟨rfl, rfl, trivial⟩
            case hk => rfl
            case h1 =>
              intro wq_7 kq_7
              have zs_kq_7 := kq_7.size
              replace hr := hr.pure kq_7
              replace kk := kk.pure kq_7
              replace hc := hc.pure kq_7
              refine WL.sliceC (l := k + 1) (h := bs.length) (j := .i64) Try.underlying24 Try.sizeOf5 hr rfl (.inl rfl) (.inr ⟨rfl, rfl⟩) (by constructor <;> omega) rfl ?_
              refine WL.nil ?_
              exact WX.one ⟨rfl, by first | exact Chg.refl _ _ | assumption⟩
            apply DQ.step (E' := [(43, _)])
            case ho => rfl
            case hs => exact ⟨rfl, trivial⟩
            case hk => rfl
            case h1 =>
              intro wq_8 kq_8
              refine WL.assign rfl rfl (?_)
              refine WL.nil ?_
              exact WX.one ⟨rfl, by first | exact Chg.refl _ _ | assumption⟩
            apply DQ.step (E' := [(47, _)])
            case ho => rfl
            case hs => exact ⟨rfl, trivial⟩
            case hk => rfl
            case h1 =>
              intro wq_9 kq_9
              refine WL.assign rfl rfl (?_)
              refine WL.nil ?_
              exact WX.one ⟨rfl, by first | exact Chg.refl _ _ | assumption⟩
            apply DQ.step (E' := [])
            case ho => rfl
            case hs => exact trivial
            case hk => rfl
            case h1 =>
              intro wq_10 kq_10
              refine WL.assign rfl rfl (?_)
              refine WL.nil ?_
              exact WX.one ⟨rfl, by first | exact Chg.refl _ _ | assumption⟩
            refine DQ.done (fun _ => ?_)
            refine DL.done (fun we_11 ke_11 => ?_)
            have zs_ke_11 := ke_11.size
            replace hr := hr.pure ke_11
            replace kk := kk.pure ke_11
            replace hc := hc.pure ke_11
            refine WX.then_normal (WC.ret (WX.block_ret (WX.then_ret (WX.then_ret (WX.block_ret (WX.then_ret (?_)))))))
            refine WX.ret3 (.inl rfl) Try.results36 rfl rfl rfl ?_
            first
              | (refine ⟨_, rfl, .inr ⟨rfl, ?_⟩, kk⟩
                 first
                   | exact ctdI_bad hi hx (by omega)
                   | exact ctdI_end hi (by omega))
              | (refine ⟨_, rfl, .inl ⟨_, _, _, _, rfl, ?_, hc⟩, kk⟩
                 rw [hor.1]
                 rw [List.take_of_length_le (Nat.le_refl _)]
                 exact ctdI_done hi hx hbad (by omega))
          ·
            refine WL.nil (WX.then_normal (WC.cond_false rfl (WC.skip (WX.block_normal (WX.then_normal (WC.region (WL.add64 rfl rfl (by first | omega | (constructor <;> omega)) rfl (?_))))))))
            refine WL.move rfl rfl (WL.nil (?_))
            refine WX.loop_next (k + 1, u ||| ((x &&& 127).toUInt64 <<< UInt64.ofNat (7 * k))) ⟨rfl, rfl, rfl, rfl, rfl, trivial⟩ ⟨by dsimp only; omega, by dsimp only; omega, ?_, ?_, kk⟩ (by show _ - _ < _ - _; omega)
            ·
              dsimp only
              rw [hor.1]; exact hor.2
            ·
              dsimp only
              rw [hor.1]; exact ctdI_more hi hx hbad (by omega)
  ·
    refine WL.nil (WX.then_normal (WC.seq (WC.cond_false rfl (WC.exit (WX.then_exit (WX.then_exit (WX.block_here (?_))))))))
    refine WX.then_normal (WC.seq (WC.region (WL.assign rfl rfl (WL.assign rfl rfl (WL.assign rfl rfl (WL.nil (WX.then_normal (?_))))))))
    refine WC.ret (?_)
    refine WX.ret3 (.inl rfl) Try.results36 rfl rfl rfl ?_
    first
      | (refine ⟨_, rfl, .inr ⟨rfl, ?_⟩, kk⟩
         first
           | exact ctdI_bad hi hx (by omega)
           | exact ctdI_end hi (by omega))
      | (refine ⟨_, rfl, .inl ⟨_, _, _, _, rfl, ?_, hc⟩, kk⟩
         rw [hor.1]
         rw [List.take_of_length_le (Nat.le_refl _)]
         exact ctdI_done hi hx hbad (by omega))
theorem number_calls {w : World} {s : ByteArray} (hl : s.size ≤ 9223372036854775807) :
    Calls Try.prog 35 [.string s].toArray w (Ret fun v w' => ((∃ (c : UInt64) (r : ByteArray), v = .tuple #[v64 c, .string r, .bool true] ∧ ctd 0 s.data.toList = some (c.toNat, r.data.toList)) ∨ (v = .tuple #[v64 0, .string ⟨#[]⟩, .bool false] ∧ ctd 0 s.data.toList = none)) ∧ Chg Nob w w') := by
  have hsz : s.data.toList.length = s.size := by simp
  refine Calls.of_WC Try.func35 rfl Try.ntmps35 (by simp) ?_
  refine WC.seq (WC.region (WL.assign rfl rfl (WL.assign rfl rfl (WL.assign rfl rfl (WL.nil (WX.then_normal (WC.seq (?_))))))))
  refine WC.region (WL.assign rfl rfl (WL.assign rfl rfl (WL.nil (WX.then_normal (WC.seq (WC.seq (WC.region (?_))))))))
  refine WL.assign rfl rfl (WL.nil (WX.then_normal (WC.block (?_))))
  refine WC.loop (σ := Nat × UInt64 × UInt64) (fun q => [(0, .string s), (5, v64 q.2.1), (6, v64 q.2.2), (7, vi q.1)])
    (fun q w' => q.1 ≤ 10 ∧ q.1 ≤ s.size ∧ q.2.1.toNat < 2 ^ (7 * q.1) ∧ (q.1 ≤ 9 → q.2.2.toNat = 2 ^ (7 * q.1)) ∧ ctdI s.data.toList q.1 q.2.1.toNat ∧ Chg Nob w w') (fun q => 10 - q.1) (0, 0, 1) ⟨rfl, rfl, rfl, rfl, trivial⟩ ⟨by omega, by simp, by simp, by simp, ctdI_start _, Chg.refl _ _⟩ ?_
  rintro ⟨k, u, y⟩ w1 ⟨hk, hkl, hu, hy, hi, kk⟩
  dsimp only at hk hkl hu hy hi kk ⊢
  refine WC.seq (WC.seq (WC.region (WL.move rfl rfl (WL.move rfl rfl (WL.lens Try.underlying9 rfl rfl (?_))))))
  refine WL.lss? rfl rfl rfl (fun h12 => ?_) (fun h12 => ?_)
  ·
    refine WL.move rfl rfl (WL.want rfl rfl rfl (WL.move rfl rfl (WL.want rfl rfl rfl (?_))))
    refine WL.lss? rfl rfl rfl (fun h15 => ?_) (fun h15 => ?_)
    ·
      refine WL.pickT rfl rfl rfl (WL.nil (WX.then_normal (WC.cond_true rfl (WC.skip (WX.then_normal (WC.seq (WC.block (?_))))))))
      refine WC.seq (WC.region (WL.move rfl rfl (WL.move rfl rfl (?_))))
      obtain ⟨x, hx⟩ : ∃ x, s.data.toList[k]? = some x := ⟨_, List.getElem?_eq_getElem (by omega)⟩
      have hxl := x.toNat_lt
      refine WL.sindex Try.underlying9 rfl rfl _ rfl _ hx rfl ?_
      refine WL.c_u8_u64 Try.underlying5 Try.underlying38 rfl rfl (WL.assign rfl rfl (WL.nil (WX.then_normal (WC.seq (WC.seq (WC.region (WL.move rfl rfl (?_))))))))
      refine WL.eql? rfl rfl rfl (fun h24 => ?_) (fun h24 => ?_)
      ·
        refine WL.move rfl rfl (WL.want rfl rfl rfl (WL.move rfl rfl (WL.want rfl rfl rfl (?_))))
        refine WL.gtr? rfl rfl rfl (fun h27 => ?_) (fun h27 => ?_)
        ·
          refine WL.pickT rfl rfl rfl (WL.move rfl rfl (WL.pass rfl rfl rfl rfl (WL.pass rfl rfl rfl rfl (WL.pass rfl rfl rfl rfl (WL.passU rfl rfl rfl (WL.passU rfl rfl rfl (WL.pass rfl rfl rfl rfl (?_))))))))
          refine WL.pickT rfl rfl rfl (WL.nil (WX.then_normal (WC.cond_true rfl (WC.seq (WC.region (WL.assign rfl rfl (WL.assign rfl rfl (?_))))))))
          refine WL.assign rfl rfl (WL.nil (WX.then_normal (WC.ret (WX.then_ret (WX.block_ret (WX.then_ret (WX.then_ret (?_))))))))
          refine WX.block_ret (WX.then_ret (?_))
          refine WX.ret3 (.inl rfl) Try.results35 rfl rfl rfl ?_
          (try simp only [UInt8.toNat_toUInt64] at *)
          first
            | (refine ⟨_, rfl, .inr ⟨rfl, ?_⟩, kk⟩
               first
                 | exact ctdI_end hi (by omega)
                 | exact ctdI_bad hi hx (by omega))
            | (have hbad : ¬ (k = 10 ∨ (k = 9 ∧ 1 < x.toNat) ∨ (0 < k ∧ x.toNat = 0)) := by omega
               obtain ⟨ha1, ha2⟩ := add_part (x := x) (by omega) hu (hy (by omega)) (by omega)
               refine ⟨_, rfl, .inl ⟨_, _, rfl, ?_⟩, kk⟩
               rw [ha1, ctdI_done hi hx hbad (by omega)]
               congr 2
               simp
               rw [List.take_of_length_le (by simp)])
        ·
          refine WL.pickT rfl rfl rfl (WL.move rfl rfl (WL.want rfl rfl rfl (WL.move rfl rfl (WL.want rfl rfl rfl (?_)))))
          refine WL.gtr? rfl rfl rfl (fun h31 => ?_) (fun h31 => ?_)
          ·
            refine WL.want rfl rfl rfl (WL.move rfl rfl (WL.want rfl rfl rfl (WL.move rfl rfl (WL.want rfl rfl rfl (?_)))))
            refine WL.eql? rfl rfl rfl (fun h34 => ?_) (fun h34 => ?_)
            ·
              refine WL.want rfl rfl rfl (WL.pickT rfl rfl rfl (WL.pickF rfl rfl rfl (WL.nil (WX.then_normal (WC.cond_true rfl (WC.seq (WC.region (?_))))))))
              refine WL.assign rfl rfl (WL.assign rfl rfl (WL.assign rfl rfl (WL.nil (WX.then_normal (WC.ret (WX.then_ret (WX.block_ret (?_))))))))
              refine WX.then_ret (WX.then_ret (WX.block_ret (WX.then_ret (?_))))
              refine WX.ret3 (.inl rfl) Try.results35 rfl rfl rfl ?_
              (try simp only [UInt8.toNat_toUInt64] at *)
              first
                | (refine ⟨_, rfl, .inr ⟨rfl, ?_⟩, kk⟩
                   first
                     | exact ctdI_end hi (by omega)
                     | exact ctdI_bad hi hx (by omega))
                | (have hbad : ¬ (k = 10 ∨ (k = 9 ∧ 1 < x.toNat) ∨ (0 < k ∧ x.toNat = 0)) := by omega
                   obtain ⟨ha1, ha2⟩ := add_part (x := x) (by omega) hu (hy (by omega)) (by omega)
                   refine ⟨_, rfl, .inl ⟨_, _, rfl, ?_⟩, kk⟩
                   rw [ha1, ctdI_done hi hx hbad (by omega)]
                   congr 2
                   simp
                   rw [List.take_of_length_le (by simp)])
            ·
              refine WL.want rfl rfl rfl (WL.pickT rfl rfl rfl (WL.pickF rfl rfl rfl (WL.nil (WX.then_normal (WC.cond_false rfl (WC.skip (WX.then_normal (?_))))))))
              refine WC.seq (WC.region (WL.move rfl rfl (WL.move rfl rfl (WL.num rfl rfl (n_rem64 _ _ _ 128 (by decide)) rfl (WL.move rfl rfl (WL.num rfl rfl (n_mul64 _ _ _ _) rfl (WL.num rfl rfl (n_add64 _ _ _ _) rfl (?_))))))))
              refine WL.assign rfl rfl (WL.nil (WX.then_normal (WC.seq (WC.region (WL.move rfl rfl (WL.num rfl rfl (n_mul64 _ _ _ 128) rfl (WL.assign rfl rfl (?_))))))))
              refine WL.nil (WX.then_normal (WC.seq (WC.region (WL.move rfl rfl (?_)))))
              refine WL.lss? rfl rfl rfl (fun h46 => ?_) (fun h46 => ?_)
              ·
                refine WL.nil (WX.then_normal (WC.cond_true rfl (WC.seq (?_))))
                refine WC.draw (Nob) [0, 1, 2, 3, 4, 5, 6, 7] [] mixed rfl rfl (fun wd_1 kd_1 zd_1 => ?_)
                have zs_kd_1 := kd_1.size
                replace kk := kk.pure kd_1
                apply DQ.step (E' := [(5, _)])
                case ho => rfl
                case hs => exact ⟨rfl, trivial⟩
                case hk => rfl
                case h1 =>
                  intro wq_2 kq_2
                  refine WL.move rfl rfl (?_)
                  refine WL.nil ?_
                  exact WX.one ⟨rfl, by first | exact Chg.refl _ _ | assumption⟩
                apply DQ.step (E' := [(0, _)])
                case ho => rfl
                case hs => exact ⟨rfl, trivial⟩
                case hk => rfl
                case h1 =>
                  intro wq_3 kq_3
                  refine WL.move rfl rfl (?_)
                  refine WL.nil ?_
                  exact WX.one ⟨rfl, by first | exact Chg.refl _ _ | assumption⟩
                apply DQ.step (E' := [(7, _)])
                case ho => rfl
                case hs => exact ⟨rfl, trivial⟩
                case hk => rfl
                case h1 =>
                  intro wq_4 kq_4
                  refine WL.move rfl rfl (?_)
                  refine WL.nil ?_
                  exact WX.one ⟨rfl, by first | exact Chg.refl _ _ | assumption⟩
                apply DQ.step (E' := [(49, _)])
                case ho => rfl
                case hs => exact ⟨rfl, trivial⟩
                case hk => rfl
                case h1 =>
                  intro wq_5 kq_5
                  refine WL.add64 rfl rfl (by first | omega | (constructor <;> omega)) rfl (?_)
                  refine WL.nil ?_
                  exact WX.one ⟨rfl, by first | exact Chg.refl _ _ | assumption⟩
                apply DQ.step (E' := [(48, _), (50, _)])
                case ho => rfl
                case hs => exact ⟨rfl, rfl, trivial⟩
                case hk => rfl
                case h1 =>
                  intro wq_6 kq_6
                  have zs_kq_6 := kq_6.size
                  replace kk := kk.pure kq_6
                  refine WL.sslice (l := k + 1) (h := s.size) (j := .i64) Try.underlying9 rfl (.inl rfl) (.inr ⟨rfl, rfl⟩) (by constructor <;> omega) rfl ?_
                  refine WL.nil ?_
                  exact WX.one ⟨rfl, by first | exact Chg.refl _ _ | assumption⟩
                apply DQ.step (E' := [(47, _)])
                case ho => rfl
                case hs => exact ⟨rfl, trivial⟩
                case hk => rfl
                case h1 =>
                  intro wq_7 kq_7
                  refine WL.assign rfl rfl (?_)
                  refine WL.nil ?_
                  exact WX.one ⟨rfl, by first | exact Chg.refl _ _ | assumption⟩
                apply DQ.step (E' := [(51, _)])
                case ho => rfl
                case hs => exact ⟨rfl, trivial⟩
                case hk => rfl
                case h1 =>
                  intro wq_8 kq_8
                  refine WL.assign rfl rfl (?_)
                  refine WL.nil ?_
                  exact WX.one ⟨rfl, by first | exact Chg.refl _ _ | assumption⟩
                apply DQ.step (E' := [])
                case ho => rfl
                case hs => exact trivial
                case hk => rfl
                case h1 =>
                  intro wq_9 kq_9
                  refine WL.assign rfl rfl (?_)
                  refine WL.nil ?_
                  exact WX.one ⟨rfl, by first | exact Chg.refl _ _ | assumption⟩
                refine DQ.done (fun _ => ?_)
                refine DL.done (fun we_10 ke_10 => ?_)
                have zs_ke_10 := ke_10.size
                replace kk := kk.pure ke_10
                refine WX.then_normal (WC.ret (WX.block_ret (WX.then_ret (WX.then_ret (WX.block_ret (WX.then_ret (?_)))))))
                refine WX.ret3 (.inl rfl) Try.results35 rfl rfl rfl ?_
                (try simp only [UInt8.toNat_toUInt64] at *)
                first
                  | (refine ⟨_, rfl, .inr ⟨rfl, ?_⟩, kk⟩
                     first
                       | exact ctdI_end hi (by omega)
                       | exact ctdI_bad hi hx (by omega))
                  | (have hbad : ¬ (k = 10 ∨ (k = 9 ∧ 1 < x.toNat) ∨ (0 < k ∧ x.toNat = 0)) := by omega
                     obtain ⟨ha1, ha2⟩ := add_part (x := x) (by omega) hu (hy (by omega)) (by omega)
                     refine ⟨_, rfl, .inl ⟨_, _, rfl, ?_⟩, kk⟩
                     rw [ha1, ctdI_done hi hx hbad (by omega)]
                     congr 2
                     simp
                     rw [List.take_of_length_le (by simp)])
              ·
                refine WL.nil (WX.then_normal (WC.cond_false rfl (WC.skip (WX.block_normal (WX.then_normal (WC.region (WL.move rfl rfl (?_))))))))
                refine WL.add64 rfl rfl (by first | omega | (constructor <;> omega)) rfl (WL.assign rfl rfl (WL.nil (?_)))
                have hbad : ¬ (k = 10 ∨ (k = 9 ∧ 1 < x.toNat) ∨ (0 < k ∧ x.toNat = 0)) := by simp only [UInt8.toNat_toUInt64] at *; omega
                obtain ⟨ha1, ha2⟩ := add_part (x := x) (by omega) hu (hy (by omega)) (by simp only [UInt8.toNat_toUInt64] at *; omega)
                refine WX.loop_next (k + 1, u + x.toUInt64 % 128 * y, y * 128) ⟨rfl, rfl, rfl, rfl, trivial⟩ ⟨by dsimp only; omega, by dsimp only; omega, ?_, ?_, ?_, kk⟩ (by show _ - _ < _ - _; omega)
                ·
                  dsimp only
                  rw [ha1]; exact ha2
                ·
                  dsimp only
                  intro h9
                  rw [UInt64.toNat_mul, hy (by omega), show 7 * (k + 1) = 7 * k + 7 from by omega, Nat.pow_add]
                  have h2 : 2 ^ (7 * k) ≤ 2 ^ 56 := Nat.pow_le_pow_right (by decide) (by omega)
                  rw [Nat.mod_eq_of_lt]
                  ·
                    rfl
                  ·
                    exact Nat.lt_of_le_of_lt (Nat.mul_le_mul_right 128 h2) (by decide)
                ·
                  dsimp only
                  rw [ha1]; exact ctdI_more hi hx hbad (by simp only [UInt8.toNat_toUInt64] at *; omega)
          ·
            refine WL.want rfl rfl rfl (WL.move rfl rfl (WL.pass rfl rfl rfl rfl (WL.pass rfl rfl rfl rfl (WL.want rfl rfl rfl (WL.pickF rfl rfl rfl (WL.pickF rfl rfl rfl (WL.nil (?_))))))))
            refine WX.then_normal (WC.cond_false rfl (WC.skip (WX.then_normal (WC.seq (WC.region (WL.move rfl rfl (WL.move rfl rfl (?_))))))))
            refine WL.num rfl rfl (n_rem64 _ _ _ 128 (by decide)) rfl (WL.move rfl rfl (WL.num rfl rfl (n_mul64 _ _ _ _) rfl (WL.num rfl rfl (n_add64 _ _ _ _) rfl (WL.assign rfl rfl (WL.nil (WX.then_normal (WC.seq (?_))))))))
            refine WC.region (WL.move rfl rfl (WL.num rfl rfl (n_mul64 _ _ _ 128) rfl (WL.assign rfl rfl (WL.nil (WX.then_normal (WC.seq (WC.region (?_))))))))
            refine WL.move rfl rfl (?_)
            refine WL.lss? rfl rfl rfl (fun h46 => ?_) (fun h46 => ?_)
            ·
              refine WL.nil (WX.then_normal (WC.cond_true rfl (WC.seq (?_))))
              refine WC.draw (Nob) [0, 1, 2, 3, 4, 5, 6, 7] [] mixed rfl rfl (fun wd_1 kd_1 zd_1 => ?_)
              have zs_kd_1 := kd_1.size
              replace kk := kk.pure kd_1
              apply DQ.step (E' := [(5, _)])
              case ho => rfl
              case hs => exact ⟨rfl, trivial⟩
              case hk => rfl
              case h1 =>
                intro wq_2 kq_2
                refine WL.move rfl rfl (?_)
                refine WL.nil ?_
                exact WX.one ⟨rfl, by first | exact Chg.refl _ _ | assumption⟩
              apply DQ.step (E' := [(0, _)])
              case ho => rfl
              case hs => exact ⟨rfl, trivial⟩
              case hk => rfl
              case h1 =>
                intro wq_3 kq_3
                refine WL.move rfl rfl (?_)
                refine WL.nil ?_
                exact WX.one ⟨rfl, by first | exact Chg.refl _ _ | assumption⟩
              apply DQ.step (E' := [(7, _)])
              case ho => rfl
              case hs => exact ⟨rfl, trivial⟩
              case hk => rfl
              case h1 =>
                intro wq_4 kq_4
                refine WL.move rfl rfl (?_)
                refine WL.nil ?_
                exact WX.one ⟨rfl, by first | exact Chg.refl _ _ | assumption⟩
              apply DQ.step (E' := [(49, _)])
              case ho => rfl
              case hs => exact ⟨rfl, trivial⟩
              case hk => rfl
              case h1 =>
                intro wq_5 kq_5
                refine WL.add64 rfl rfl (by first | omega | (constructor <;> omega)) rfl (?_)
                refine WL.nil ?_
                exact WX.one ⟨rfl, by first | exact Chg.refl _ _ | assumption⟩
              apply DQ.step (E' := [(48, _), (50, _)])
              case ho => rfl
              case hs => exact ⟨rfl, rfl, trivial⟩
              case hk => rfl
              case h1 =>
                intro wq_6 kq_6
                have zs_kq_6 := kq_6.size
                replace kk := kk.pure kq_6
                refine WL.sslice (l := k + 1) (h := s.size) (j := .i64) Try.underlying9 rfl (.inl rfl) (.inr ⟨rfl, rfl⟩) (by constructor <;> omega) rfl ?_
                refine WL.nil ?_
                exact WX.one ⟨rfl, by first | exact Chg.refl _ _ | assumption⟩
              apply DQ.step (E' := [(47, _)])
              case ho => rfl
              case hs => exact ⟨rfl, trivial⟩
              case hk => rfl
              case h1 =>
                intro wq_7 kq_7
                refine WL.assign rfl rfl (?_)
                refine WL.nil ?_
                exact WX.one ⟨rfl, by first | exact Chg.refl _ _ | assumption⟩
              apply DQ.step (E' := [(51, _)])
              case ho => rfl
              case hs => exact ⟨rfl, trivial⟩
              case hk => rfl
              case h1 =>
                intro wq_8 kq_8
                refine WL.assign rfl rfl (?_)
                refine WL.nil ?_
                exact WX.one ⟨rfl, by first | exact Chg.refl _ _ | assumption⟩
              apply DQ.step (E' := [])
              case ho => rfl
              case hs => exact trivial
              case hk => rfl
              case h1 =>
                intro wq_9 kq_9
                refine WL.assign rfl rfl (?_)
                refine WL.nil ?_
                exact WX.one ⟨rfl, by first | exact Chg.refl _ _ | assumption⟩
              refine DQ.done (fun _ => ?_)
              refine DL.done (fun we_10 ke_10 => ?_)
              have zs_ke_10 := ke_10.size
              replace kk := kk.pure ke_10
              refine WX.then_normal (WC.ret (WX.block_ret (WX.then_ret (WX.then_ret (WX.block_ret (WX.then_ret (?_)))))))
              refine WX.ret3 (.inl rfl) Try.results35 rfl rfl rfl ?_
              (try simp only [UInt8.toNat_toUInt64] at *)
              first
                | (refine ⟨_, rfl, .inr ⟨rfl, ?_⟩, kk⟩
                   first
                     | exact ctdI_end hi (by omega)
                     | exact ctdI_bad hi hx (by omega))
                | (have hbad : ¬ (k = 10 ∨ (k = 9 ∧ 1 < x.toNat) ∨ (0 < k ∧ x.toNat = 0)) := by omega
                   obtain ⟨ha1, ha2⟩ := add_part (x := x) (by omega) hu (hy (by omega)) (by omega)
                   refine ⟨_, rfl, .inl ⟨_, _, rfl, ?_⟩, kk⟩
                   rw [ha1, ctdI_done hi hx hbad (by omega)]
                   congr 2
                   simp
                   rw [List.take_of_length_le (by simp)])
            ·
              refine WL.nil (WX.then_normal (WC.cond_false rfl (WC.skip (WX.block_normal (WX.then_normal (WC.region (WL.move rfl rfl (?_))))))))
              refine WL.add64 rfl rfl (by first | omega | (constructor <;> omega)) rfl (WL.assign rfl rfl (WL.nil (?_)))
              have hbad : ¬ (k = 10 ∨ (k = 9 ∧ 1 < x.toNat) ∨ (0 < k ∧ x.toNat = 0)) := by simp only [UInt8.toNat_toUInt64] at *; omega
              obtain ⟨ha1, ha2⟩ := add_part (x := x) (by omega) hu (hy (by omega)) (by simp only [UInt8.toNat_toUInt64] at *; omega)
              refine WX.loop_next (k + 1, u + x.toUInt64 % 128 * y, y * 128) ⟨rfl, rfl, rfl, rfl, trivial⟩ ⟨by dsimp only; omega, by dsimp only; omega, ?_, ?_, ?_, kk⟩ (by show _ - _ < _ - _; omega)
              ·
                dsimp only
                rw [ha1]; exact ha2
              ·
                dsimp only
                intro h9
                rw [UInt64.toNat_mul, hy (by omega), show 7 * (k + 1) = 7 * k + 7 from by omega, Nat.pow_add]
                have h2 : 2 ^ (7 * k) ≤ 2 ^ 56 := Nat.pow_le_pow_right (by decide) (by omega)
                rw [Nat.mod_eq_of_lt]
                ·
                  rfl
                ·
                  exact Nat.lt_of_le_of_lt (Nat.mul_le_mul_right 128 h2) (by decide)
              ·
                dsimp only
                rw [ha1]; exact ctdI_more hi hx hbad (by simp only [UInt8.toNat_toUInt64] at *; omega)
      ·
        refine WL.move rfl rfl (WL.pass rfl rfl rfl rfl (WL.pass rfl rfl rfl rfl (WL.pickF rfl rfl rfl (WL.move rfl rfl (WL.want rfl rfl rfl (WL.move rfl rfl (WL.want rfl rfl rfl (?_))))))))
        refine WL.gtr? rfl rfl rfl (fun h31 => ?_) (fun h31 => ?_)
        ·
          refine WL.want rfl rfl rfl (WL.move rfl rfl (WL.want rfl rfl rfl (WL.move rfl rfl (WL.want rfl rfl rfl (?_)))))
          refine WL.eql? rfl rfl rfl (fun h34 => ?_) (fun h34 => ?_)
          ·
            refine WL.want rfl rfl rfl (WL.pickT rfl rfl rfl (WL.pickF rfl rfl rfl (WL.nil (WX.then_normal (WC.cond_true rfl (WC.seq (WC.region (?_))))))))
            refine WL.assign rfl rfl (WL.assign rfl rfl (WL.assign rfl rfl (WL.nil (WX.then_normal (WC.ret (WX.then_ret (WX.block_ret (?_))))))))
            refine WX.then_ret (WX.then_ret (WX.block_ret (WX.then_ret (?_))))
            refine WX.ret3 (.inl rfl) Try.results35 rfl rfl rfl ?_
            (try simp only [UInt8.toNat_toUInt64] at *)
            first
              | (refine ⟨_, rfl, .inr ⟨rfl, ?_⟩, kk⟩
                 first
                   | exact ctdI_end hi (by omega)
                   | exact ctdI_bad hi hx (by omega))
              | (have hbad : ¬ (k = 10 ∨ (k = 9 ∧ 1 < x.toNat) ∨ (0 < k ∧ x.toNat = 0)) := by omega
                 obtain ⟨ha1, ha2⟩ := add_part (x := x) (by omega) hu (hy (by omega)) (by omega)
                 refine ⟨_, rfl, .inl ⟨_, _, rfl, ?_⟩, kk⟩
                 rw [ha1, ctdI_done hi hx hbad (by omega)]
                 congr 2
                 simp
                 rw [List.take_of_length_le (by simp)])
          ·
            refine WL.want rfl rfl rfl (WL.pickT rfl rfl rfl (WL.pickF rfl rfl rfl (WL.nil (WX.then_normal (WC.cond_false rfl (WC.skip (WX.then_normal (?_))))))))
            refine WC.seq (WC.region (WL.move rfl rfl (WL.move rfl rfl (WL.num rfl rfl (n_rem64 _ _ _ 128 (by decide)) rfl (WL.move rfl rfl (WL.num rfl rfl (n_mul64 _ _ _ _) rfl (WL.num rfl rfl (n_add64 _ _ _ _) rfl (?_))))))))
            refine WL.assign rfl rfl (WL.nil (WX.then_normal (WC.seq (WC.region (WL.move rfl rfl (WL.num rfl rfl (n_mul64 _ _ _ 128) rfl (WL.assign rfl rfl (?_))))))))
            refine WL.nil (WX.then_normal (WC.seq (WC.region (WL.move rfl rfl (?_)))))
            refine WL.lss? rfl rfl rfl (fun h46 => ?_) (fun h46 => ?_)
            ·
              refine WL.nil (WX.then_normal (WC.cond_true rfl (WC.seq (?_))))
              refine WC.draw (Nob) [0, 1, 2, 3, 4, 5, 6, 7] [] mixed rfl rfl (fun wd_1 kd_1 zd_1 => ?_)
              have zs_kd_1 := kd_1.size
              replace kk := kk.pure kd_1
              apply DQ.step (E' := [(5, _)])
              case ho => rfl
              case hs => exact ⟨rfl, trivial⟩
              case hk => rfl
              case h1 =>
                intro wq_2 kq_2
                refine WL.move rfl rfl (?_)
                refine WL.nil ?_
                exact WX.one ⟨rfl, by first | exact Chg.refl _ _ | assumption⟩
              apply DQ.step (E' := [(0, _)])
              case ho => rfl
              case hs => exact ⟨rfl, trivial⟩
              case hk => rfl
              case h1 =>
                intro wq_3 kq_3
                refine WL.move rfl rfl (?_)
                refine WL.nil ?_
                exact WX.one ⟨rfl, by first | exact Chg.refl _ _ | assumption⟩
              apply DQ.step (E' := [(7, _)])
              case ho => rfl
              case hs => exact ⟨rfl, trivial⟩
              case hk => rfl
              case h1 =>
                intro wq_4 kq_4
                refine WL.move rfl rfl (?_)
                refine WL.nil ?_
                exact WX.one ⟨rfl, by first | exact Chg.refl _ _ | assumption⟩
              apply DQ.step (E' := [(49, _)])
              case ho => rfl
              case hs => exact ⟨rfl, trivial⟩
              case hk => rfl
              case h1 =>
                intro wq_5 kq_5
                refine WL.add64 rfl rfl (by first | omega | (constructor <;> omega)) rfl (?_)
                refine WL.nil ?_
                exact WX.one ⟨rfl, by first | exact Chg.refl _ _ | assumption⟩
              apply DQ.step (E' := [(48, _), (50, _)])
              case ho => rfl
              case hs => exact ⟨rfl, rfl, trivial⟩
              case hk => rfl
              case h1 =>
                intro wq_6 kq_6
                have zs_kq_6 := kq_6.size
                replace kk := kk.pure kq_6
                refine WL.sslice (l := k + 1) (h := s.size) (j := .i64) Try.underlying9 rfl (.inl rfl) (.inr ⟨rfl, rfl⟩) (by constructor <;> omega) rfl ?_
                refine WL.nil ?_
                exact WX.one ⟨rfl, by first | exact Chg.refl _ _ | assumption⟩
              apply DQ.step (E' := [(47, _)])
              case ho => rfl
              case hs => exact ⟨rfl, trivial⟩
              case hk => rfl
              case h1 =>
                intro wq_7 kq_7
                refine WL.assign rfl rfl (?_)
                refine WL.nil ?_
                exact WX.one ⟨rfl, by first | exact Chg.refl _ _ | assumption⟩
              apply DQ.step (E' := [(51, _)])
              case ho => rfl
              case hs => exact ⟨rfl, trivial⟩
              case hk => rfl
              case h1 =>
                intro wq_8 kq_8
                refine WL.assign rfl rfl (?_)
                refine WL.nil ?_
                exact WX.one ⟨rfl, by first | exact Chg.refl _ _ | assumption⟩
              apply DQ.step (E' := [])
              case ho => rfl
              case hs => exact trivial
              case hk => rfl
              case h1 =>
                intro wq_9 kq_9
                refine WL.assign rfl rfl (?_)
                refine WL.nil ?_
                exact WX.one ⟨rfl, by first | exact Chg.refl _ _ | assumption⟩
              refine DQ.done (fun _ => ?_)
              refine DL.done (fun we_10 ke_10 => ?_)
              have zs_ke_10 := ke_10.size
              replace kk := kk.pure ke_10
              refine WX.then_normal (WC.ret (WX.block_ret (WX.then_ret (WX.then_ret (WX.block_ret (WX.then_ret (?_)))))))
              refine WX.ret3 (.inl rfl) Try.results35 rfl rfl rfl ?_
              (try simp only [UInt8.toNat_toUInt64] at *)
              first
                | (refine ⟨_, rfl, .inr ⟨rfl, ?_⟩, kk⟩
                   first
                     | exact ctdI_end hi (by omega)
                     | exact ctdI_bad hi hx (by omega))
                | (have hbad : ¬ (k = 10 ∨ (k = 9 ∧ 1 < x.toNat) ∨ (0 < k ∧ x.toNat = 0)) := by omega
                   obtain ⟨ha1, ha2⟩ := add_part (x := x) (by omega) hu (hy (by omega)) (by omega)
                   refine ⟨_, rfl, .inl ⟨_, _, rfl, ?_⟩, kk⟩
                   rw [ha1, ctdI_done hi hx hbad (by omega)]
                   congr 2
                   simp
                   rw [List.take_of_length_le (by simp)])
            ·
              refine WL.nil (WX.then_normal (WC.cond_false rfl (WC.skip (WX.block_normal (WX.then_normal (WC.region (WL.move rfl rfl (?_))))))))
              refine WL.add64 rfl rfl (by first | omega | (constructor <;> omega)) rfl (WL.assign rfl rfl (WL.nil (?_)))
              have hbad : ¬ (k = 10 ∨ (k = 9 ∧ 1 < x.toNat) ∨ (0 < k ∧ x.toNat = 0)) := by simp only [UInt8.toNat_toUInt64] at *; omega
              obtain ⟨ha1, ha2⟩ := add_part (x := x) (by omega) hu (hy (by omega)) (by simp only [UInt8.toNat_toUInt64] at *; omega)
              refine WX.loop_next (k + 1, u + x.toUInt64 % 128 * y, y * 128) ⟨rfl, rfl, rfl, rfl, trivial⟩ ⟨by dsimp only; omega, by dsimp only; omega, ?_, ?_, ?_, kk⟩ (by show _ - _ < _ - _; omega)
              ·
                dsimp only
                rw [ha1]; exact ha2
              ·
                dsimp only
                intro h9
                rw [UInt64.toNat_mul, hy (by omega), show 7 * (k + 1) = 7 * k + 7 from by omega, Nat.pow_add]
                have h2 : 2 ^ (7 * k) ≤ 2 ^ 56 := Nat.pow_le_pow_right (by decide) (by omega)
                rw [Nat.mod_eq_of_lt]
                ·
                  rfl
                ·
                  exact Nat.lt_of_le_of_lt (Nat.mul_le_mul_right 128 h2) (by decide)
              ·
                dsimp only
                rw [ha1]; exact ctdI_more hi hx hbad (by simp only [UInt8.toNat_toUInt64] at *; omega)
        ·
          refine WL.want rfl rfl rfl (WL.move rfl rfl (WL.pass rfl rfl rfl rfl (WL.pass rfl rfl rfl rfl (WL.want rfl rfl rfl (WL.pickF rfl rfl rfl (WL.pickF rfl rfl rfl (WL.nil (?_))))))))
          refine WX.then_normal (WC.cond_false rfl (WC.skip (WX.then_normal (WC.seq (WC.region (WL.move rfl rfl (WL.move rfl rfl (?_))))))))
          refine WL.num rfl rfl (n_rem64 _ _ _ 128 (by decide)) rfl (WL.move rfl rfl (WL.num rfl rfl (n_mul64 _ _ _ _) rfl (WL.num rfl rfl (n_add64 _ _ _ _) rfl (WL.assign rfl rfl (WL.nil (WX.then_normal (WC.seq (?_))))))))
          refine WC.region (WL.move rfl rfl (WL.num rfl rfl (n_mul64 _ _ _ 128) rfl (WL.assign rfl rfl (WL.nil (WX.then_normal (WC.seq (WC.region (?_))))))))
          refine WL.move rfl rfl (?_)
          refine WL.lss? rfl rfl rfl (fun h46 => ?_) (fun h46 => ?_)
          ·
            refine WL.nil (WX.then_normal (WC.cond_true rfl (WC.seq (?_))))
            refine WC.draw (Nob) [0, 1, 2, 3, 4, 5, 6, 7] [] mixed rfl rfl (fun wd_1 kd_1 zd_1 => ?_)
            have zs_kd_1 := kd_1.size
            replace kk := kk.pure kd_1
            apply DQ.step (E' := [(5, _)])
            case ho => rfl
            case hs => exact ⟨rfl, trivial⟩
            case hk => rfl
            case h1 =>
              intro wq_2 kq_2
              refine WL.move rfl rfl (?_)
              refine WL.nil ?_
              exact WX.one ⟨rfl, by first | exact Chg.refl _ _ | assumption⟩
            apply DQ.step (E' := [(0, _)])
            case ho => rfl
            case hs => exact ⟨rfl, trivial⟩
            case hk => rfl
            case h1 =>
              intro wq_3 kq_3
              refine WL.move rfl rfl (?_)
              refine WL.nil ?_
              exact WX.one ⟨rfl, by first | exact Chg.refl _ _ | assumption⟩
            apply DQ.step (E' := [(7, _)])
            case ho => rfl
            case hs => exact ⟨rfl, trivial⟩
            case hk => rfl
            case h1 =>
              intro wq_4 kq_4
              refine WL.move rfl rfl (?_)
              refine WL.nil ?_
              exact WX.one ⟨rfl, by first | exact Chg.refl _ _ | assumption⟩
            apply DQ.step (E' := [(49, _)])
            case ho => rfl
            case hs => exact ⟨rfl, trivial⟩
            case hk => rfl
            case h1 =>
              intro wq_5 kq_5
              refine WL.add64 rfl rfl (by first | omega | (constructor <;> omega)) rfl (?_)
              refine WL.nil ?_
              exact WX.one ⟨rfl, by first | exact Chg.refl _ _ | assumption⟩
            apply DQ.step (E' := [(48, _), (50, _)])
            case ho => rfl
            case hs => exact ⟨rfl, rfl, trivial⟩
            case hk => rfl
            case h1 =>
              intro wq_6 kq_6
              have zs_kq_6 := kq_6.size
              replace kk := kk.pure kq_6
              refine WL.sslice (l := k + 1) (h := s.size) (j := .i64) Try.underlying9 rfl (.inl rfl) (.inr ⟨rfl, rfl⟩) (by constructor <;> omega) rfl ?_
              refine WL.nil ?_
              exact WX.one ⟨rfl, by first | exact Chg.refl _ _ | assumption⟩
            apply DQ.step (E' := [(47, _)])
            case ho => rfl
            case hs => exact ⟨rfl, trivial⟩
            case hk => rfl
            case h1 =>
              intro wq_7 kq_7
              refine WL.assign rfl rfl (?_)
              refine WL.nil ?_
              exact WX.one ⟨rfl, by first | exact Chg.refl _ _ | assumption⟩
            apply DQ.step (E' := [(51, _)])
            case ho => rfl
            case hs => exact ⟨rfl, trivial⟩
            case hk => rfl
            case h1 =>
              intro wq_8 kq_8
              refine WL.assign rfl rfl (?_)
              refine WL.nil ?_
              exact WX.one ⟨rfl, by first | exact Chg.refl _ _ | assumption⟩
            apply DQ.step (E' := [])
            case ho => rfl
            case hs => exact trivial
            case hk => rfl
            case h1 =>
              intro wq_9 kq_9
              refine WL.assign rfl rfl (?_)
              refine WL.nil ?_
              exact WX.one ⟨rfl, by first | exact Chg.refl _ _ | assumption⟩
            refine DQ.done (fun _ => ?_)
            refine DL.done (fun we_10 ke_10 => ?_)
            have zs_ke_10 := ke_10.size
            replace kk := kk.pure ke_10
            refine WX.then_normal (WC.ret (WX.block_ret (WX.then_ret (WX.then_ret (WX.block_ret (WX.then_ret (?_)))))))
            refine WX.ret3 (.inl rfl) Try.results35 rfl rfl rfl ?_
            (try simp only [UInt8.toNat_toUInt64] at *)
            first
              | (refine ⟨_, rfl, .inr ⟨rfl, ?_⟩, kk⟩
                 first
                   | exact ctdI_end hi (by omega)
                   | exact ctdI_bad hi hx (by omega))
              | (have hbad : ¬ (k = 10 ∨ (k = 9 ∧ 1 < x.toNat) ∨ (0 < k ∧ x.toNat = 0)) := by omega
                 obtain ⟨ha1, ha2⟩ := add_part (x := x) (by omega) hu (hy (by omega)) (by omega)
                 refine ⟨_, rfl, .inl ⟨_, _, rfl, ?_⟩, kk⟩
                 rw [ha1, ctdI_done hi hx hbad (by omega)]
                 congr 2
                 simp
                 rw [List.take_of_length_le (by simp)])
          ·
            refine WL.nil (WX.then_normal (WC.cond_false rfl (WC.skip (WX.block_normal (WX.then_normal (WC.region (WL.move rfl rfl (?_))))))))
            refine WL.add64 rfl rfl (by first | omega | (constructor <;> omega)) rfl (WL.assign rfl rfl (WL.nil (?_)))
            have hbad : ¬ (k = 10 ∨ (k = 9 ∧ 1 < x.toNat) ∨ (0 < k ∧ x.toNat = 0)) := by simp only [UInt8.toNat_toUInt64] at *; omega
            obtain ⟨ha1, ha2⟩ := add_part (x := x) (by omega) hu (hy (by omega)) (by simp only [UInt8.toNat_toUInt64] at *; omega)
            refine WX.loop_next (k + 1, u + x.toUInt64 % 128 * y, y * 128) ⟨rfl, rfl, rfl, rfl, trivial⟩ ⟨by dsimp only; omega, by dsimp only; omega, ?_, ?_, ?_, kk⟩ (by show _ - _ < _ - _; omega)
            ·
              dsimp only
              rw [ha1]; exact ha2
            ·
              dsimp only
              intro h9
              rw [UInt64.toNat_mul, hy (by omega), show 7 * (k + 1) = 7 * k + 7 from by omega, Nat.pow_add]
              have h2 : 2 ^ (7 * k) ≤ 2 ^ 56 := Nat.pow_le_pow_right (by decide) (by omega)
              rw [Nat.mod_eq_of_lt]
              ·
                rfl
              ·
                exact Nat.lt_of_le_of_lt (Nat.mul_le_mul_right 128 h2) (by decide)
            ·
              dsimp only
              rw [ha1]; exact ctdI_more hi hx hbad (by simp only [UInt8.toNat_toUInt64] at *; omega)
    ·
      refine WL.pickT rfl rfl rfl (WL.nil (WX.then_normal (WC.cond_false rfl (WC.exit (WX.then_exit (WX.then_exit (WX.block_here (?_))))))))
      refine WX.then_normal (WC.seq (WC.region (WL.assign rfl rfl (WL.assign rfl rfl (WL.assign rfl rfl (WL.nil (WX.then_normal (?_))))))))
      refine WC.ret (?_)
      refine WX.ret3 (.inl rfl) Try.results35 rfl rfl rfl ?_
      (try simp only [UInt8.toNat_toUInt64] at *)
      first
        | (refine ⟨_, rfl, .inr ⟨rfl, ?_⟩, kk⟩
           first
             | exact ctdI_end hi (by omega)
             | exact ctdI_bad hi hx (by omega))
        | (have hbad : ¬ (k = 10 ∨ (k = 9 ∧ 1 < x.toNat) ∨ (0 < k ∧ x.toNat = 0)) := by omega
           obtain ⟨ha1, ha2⟩ := add_part (x := x) (by omega) hu (hy (by omega)) (by omega)
           refine ⟨_, rfl, .inl ⟨_, _, rfl, ?_⟩, kk⟩
           rw [ha1, ctdI_done hi hx hbad (by omega)]
           congr 2
           simp
           rw [List.take_of_length_le (by simp)])
  ·
    refine WL.move rfl rfl (WL.pass rfl rfl rfl rfl (WL.pass rfl rfl rfl rfl (WL.pickF rfl rfl rfl (WL.nil (WX.then_normal (WC.cond_false rfl (WC.exit (?_))))))))
    refine WX.then_exit (WX.then_exit (WX.block_here (WX.then_normal (WC.seq (WC.region (WL.assign rfl rfl (WL.assign rfl rfl (?_))))))))
    refine WL.assign rfl rfl (WL.nil (WX.then_normal (WC.ret (?_))))
    refine WX.ret3 (.inl rfl) Try.results35 rfl rfl rfl ?_
    (try simp only [UInt8.toNat_toUInt64] at *)
    first
      | (refine ⟨_, rfl, .inr ⟨rfl, ?_⟩, kk⟩
         first
           | exact ctdI_end hi (by omega)
           | exact ctdI_bad hi hx (by omega))
      | (have hbad : ¬ (k = 10 ∨ (k = 9 ∧ 1 < x.toNat) ∨ (0 < k ∧ x.toNat = 0)) := by omega
         obtain ⟨ha1, ha2⟩ := add_part (x := x) (by omega) hu (hy (by omega)) (by omega)
         refine ⟨_, rfl, .inl ⟨_, _, rfl, ?_⟩, kk⟩
         rw [ha1, ctdI_done hi hx hbad (by omega)]
         congr 2
         simp
         rw [List.take_of_length_le (by simp)])
end Go.Proofs.Ytfkaioldfmapjaa
