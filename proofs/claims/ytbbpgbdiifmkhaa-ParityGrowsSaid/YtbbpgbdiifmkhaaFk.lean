import Derived.Test.YtbbpgbdiifmkhaaGd
namespace Go.HL
open Go.RowKit
/-! the document's products, bit by bit -/
def bit (b : UInt8) (k : Nat) : UInt8 := (b >>> UInt8.ofNat k) &&& 1
/-- the first i bits from the top -/
def bAt (b : UInt8) : Nat → UInt8
  | 0 => 0
  | i + 1 => xt (bAt b i) ^^^ bit b (7 - i)
set_option maxRecDepth 100000 in
theorem bAt_all : ∀ n : Fin 256, bAt (UInt8.ofNat n.1) 8 = UInt8.ofNat n.1 := by decide +kernel
theorem bAt_end (b : UInt8) : bAt b 8 = b := fin_all (p := fun b => bAt b 8 = b) bAt_all b
theorem xt_nat (q : UInt8) : (256 ≤ q.toNat * 2 → (q.toNat * 2) ^^^ 285 = (xt q).toNat) ∧ (q.toNat * 2 < 256 → q.toNat * 2 = (xt q).toNat) :=
  fin_all (p := fun q => (256 ≤ q.toNat * 2 → (q.toNat * 2) ^^^ 285 = (xt q).toNat) ∧ (q.toNat * 2 < 256 → q.toNat * 2 = (xt q).toNat)) (by decide +kernel) q
theorem mul_xt2 (a x : UInt8) : mul a (xt x) = xt (mul a x) := by
  by_cases ha : a = 0
  · subst ha; rw [mul_zero_l, mul_zero_l]; rfl
  · rw [mul_xt ha, mul_xt ha]
    generalize L a = k
    induction k with
    | zero => rfl
    | succ k ih => rw [xtN, ih]; rfl
theorem bit_one {b : UInt8} {k : Nat} (h : ((bit b k).toNat : Int) = 1) : bit b k = 1 := UInt8.toNat_inj.1 (by have h0 : (1 : UInt8).toNat = 1 := rfl; omega)
theorem bit_all : ∀ n : Fin 256, ((UInt8.ofNat n.1) &&& 1) = 0 ∨ ((UInt8.ofNat n.1) &&& 1) = 1 := by decide +kernel
theorem bit_zero {b : UInt8} {k : Nat} (h : ¬ ((bit b k).toNat : Int) = 1) : bit b k = 0 := by
  rcases fin_all (p := fun x => x &&& 1 = 0 ∨ x &&& 1 = 1) bit_all (b >>> UInt8.ofNat k) with h1 | h1
  · exact h1
  · exact absurd (show ((bit b k).toNat : Int) = 1 by rw [show bit b k = 1 from h1]; rfl) h
theorem step_one {a b : UInt8} {i : Nat} (h : ((bit b (7 - i)).toNat : Int) = 1) : (xt (mul a (bAt b i))).toNat ^^^ a.toNat = (mul a (bAt b (i + 1))).toNat := by
  rw [bAt, bit_one h, mul_xor, mul_one, mul_xt2, UInt8.toNat_xor]
theorem step_zero {a b : UInt8} {i : Nat} (h : ¬ ((bit b (7 - i)).toNat : Int) = 1) : (xt (mul a (bAt b i))).toNat = (mul a (bAt b (i + 1))).toNat := by
  rw [bAt, bit_zero h, mul_xor, mul_zero_r, mul_xt2, UInt8.xor_zero]
theorem inv_only {a x : UInt8} (h : mul a x = 1) : a ≠ 0 ∧ x = inv a := by
  have ha : a ≠ 0 := by
    rintro rfl
    rw [mul_zero_l] at h
    exact absurd h (by decide)
  refine ⟨ha, ?_⟩
  have h1 := mul_assoc (inv a) a x
  rw [h, mul_one, mul_comm (inv a) a, mul_inv ha, mul_comm 1 x, mul_one] at h1
  exact h1.symm
def pAt (a : UInt8) : Nat → UInt8
  | 0 => 1
  | i + 1 => mul (pAt a i) a
theorem pAt_ne {a : UInt8} (ha : a ≠ 0) (i : Nat) : pAt a i = G (L a * i) := by
  induction i with
  | zero => rw [Nat.mul_zero, G_zero]; rfl
  | succ i ih => rw [pAt, ih, mul_G (G_ne _) ha, L_G, ← G_mod, Nat.mod_add_mod, G_mod, Nat.mul_succ]
theorem pAt_zero (i : Nat) : pAt 0 (i + 1) = 0 := by rw [pAt, mul_zero_r]
end Go.HL
namespace Go.Proofs.Ytbbpgbdiifmkhaa
open Go.RowKit Go.HL

theorem powR_pos {a : UInt8} (ha : a ≠ 0) (m : Nat) : powR a (m : Int) = (G (L a * m), 0) := by
  rw [powR, if_neg (by omega)]
  by_cases hm : (m : Int) = 0
  · rw [if_pos hm, show m = 0 from by omega, Nat.mul_zero, G_zero]
  · rw [if_neg hm, if_neg ha, Int.toNat_natCast, G, Nat.mul_mod, Nat.mul_mod (L a) m, Nat.mod_mod]
theorem powR_zero (m : Nat) : powR 0 (m : Int) = (if m = 0 then 1 else 0, 0) := by
  rw [powR, if_neg (by omega)]
  by_cases hm : m = 0
  · rw [if_pos (by omega), if_pos hm]
  · rw [if_neg (by omega), if_pos rfl, if_neg hm]
set_option maxHeartbeats 1000000 in
theorem refMul_calls (a b : UInt8) (w : World) : Calls Try.prog 25 [v8 a, v8 b].toArray w (Ret fun v w' => v = v8 (mul a b) ∧ Chg Nob w w') := by
  have hw := Chg.refl Nob w
  refine Calls.of_WC Try.func25 rfl Try.ntmps25 (by simp) ?_
  refine WC.seq (WC.region (WL.assign rfl rfl (WL.nil (WX.then_normal (WC.seq (WC.region (WL.assign rfl rfl (?_))))))))
  refine WL.nil (WX.then_normal (WC.seq (WC.seq (WC.region (WL.assign rfl rfl (WL.nil (WX.then_normal (?_))))))))
  refine WC.block (?_)
  refine WC.loop (σ := Nat) (fun i => [(0, v8 a), (1, v8 b), (5, vi ((mul a (bAt b i)).toNat : Nat)), (6, vi (7 - (i : Int)))])
    (fun i w' => i ≤ 8 ∧ Chg Nob w w') (fun i => 8 - i) 0 ⟨rfl, rfl, by rw [show bAt b 0 = 0 from rfl, mul_zero_r]; rfl, rfl, trivial⟩ ⟨Nat.zero_le _, hw⟩ ?_
  clear hw
  rintro i w2 ⟨hi, hw⟩
  obtain ⟨q, hq⟩ : ∃ q, q = mul a (bAt b i) := ⟨_, rfl⟩
  have hql := q.toNat_lt
  have hal := a.toNat_lt
  have hxl := (xt q).toNat_lt
  have hxn := xt_nat q
  rw [← hq]
  refine WC.seq (WC.seq (WC.region (WL.move rfl rfl (?_))))
  refine WL.geq? rfl rfl rfl (fun h8 => ?_) (fun h8 => ?_)
  ·
    refine WL.nil (WX.then_normal (WC.cond_true rfl (WC.skip (WX.then_normal (WC.seq (WC.block (WC.seq (?_))))))))
    refine WC.region (WL.move rfl rfl (?_))
    refine WL.mul64 rfl rfl (by constructor <;> omega) rfl ?_
    rw [show (q.toNat : Int) * 2 = ((q.toNat * 2 : Nat) : Int) from by omega]
    refine WL.assign rfl rfl (WL.nil (WX.then_normal (WC.seq (WC.seq (WC.region (WL.move rfl rfl (?_)))))))
    refine WL.geq? rfl rfl rfl (fun h14 => ?_) (fun h14 => ?_)
    ·
      have e2 := hxn.1 (by omega)
      refine WL.nil (WX.then_normal (WC.cond_true rfl (WC.region (WL.move rfl rfl (?_)))))
      refine WL.num rfl rfl (n_xori _ _ (q.toNat * 2) 285 (by omega) (by decide)) rfl ?_
      rw [e2]
      refine WL.assign rfl rfl (WL.nil (WX.then_normal (WC.seq (WC.region (WL.move rfl rfl (?_))))))
      refine WL.move rfl rfl ?_
      rw [show (7 - (i : Int)) = ((7 - i : Nat) : Int) from by omega]
      refine WL.num rfl rfl (n_shr8 _ _ b .i64 (7 - i) (by omega)) rfl ?_
      refine WL.num rfl rfl (n_and8 _ _ _ 1) rfl ?_
      rw [show (b >>> UInt8.ofNat (7 - i)) &&& 1 = bit b (7 - i) from rfl]
      refine WL.eql? rfl rfl rfl (fun h21 => ?_) (fun h21 => ?_)
      ·
        refine WL.nil (WX.then_normal (WC.cond_true rfl (WC.region (WL.move rfl rfl (WL.move rfl rfl (WL.c_u8_i64 Try.underlying5 Try.underlying3 rfl rfl (?_)))))))
        refine WL.num rfl rfl (n_xori _ _ (xt q).toNat a.toNat (by omega) (by omega)) rfl ?_
        refine WL.assign rfl rfl (WL.nil (WX.block_normal (WX.then_normal (WC.region (WL.move rfl rfl (WL.sub64 rfl rfl (by first | omega | (constructor <;> omega)) rfl (WL.assign rfl rfl (?_))))))))
        refine WL.nil (?_)
        have e6 : 7 - ((i + 1 : Nat) : Int) = ((7 - i : Nat) : Int) - 1 := by omega
        first
          | (have e5 := step_one (a := a) (b := b) (i := i) h21
             rw [← hq] at e5
             refine WX.loop_next (i + 1) ⟨rfl, rfl, ?_, ?_, trivial⟩ ⟨by omega, hw⟩ (by show _ - _ < _ - _; omega)
             ·
               rw [← e5]; rfl
             ·
               rw [e6]; rfl)
          | (have e5 := step_zero (a := a) (b := b) (i := i) h21
             rw [← hq] at e5
             refine WX.loop_next (i + 1) ⟨rfl, rfl, ?_, ?_, trivial⟩ ⟨by omega, hw⟩ (by show _ - _ < _ - _; omega)
             ·
               rw [← e5]; rfl
             ·
               rw [e6]; rfl)
      ·
        refine WL.nil (WX.then_normal (WC.cond_false rfl (WC.skip (WX.block_normal (WX.then_normal (WC.region (WL.move rfl rfl (?_))))))))
        refine WL.sub64 rfl rfl (by first | omega | (constructor <;> omega)) rfl (WL.assign rfl rfl (WL.nil (?_)))
        have e6 : 7 - ((i + 1 : Nat) : Int) = ((7 - i : Nat) : Int) - 1 := by omega
        first
          | (have e5 := step_one (a := a) (b := b) (i := i) h21
             rw [← hq] at e5
             refine WX.loop_next (i + 1) ⟨rfl, rfl, ?_, ?_, trivial⟩ ⟨by omega, hw⟩ (by show _ - _ < _ - _; omega)
             ·
               rw [← e5]; rfl
             ·
               rw [e6]; rfl)
          | (have e5 := step_zero (a := a) (b := b) (i := i) h21
             rw [← hq] at e5
             refine WX.loop_next (i + 1) ⟨rfl, rfl, ?_, ?_, trivial⟩ ⟨by omega, hw⟩ (by show _ - _ < _ - _; omega)
             ·
               rw [← e5]; rfl
             ·
               rw [e6]; rfl)
    ·
      have e2 := hxn.2 (by omega)
      rw [e2]
      refine WL.nil (WX.then_normal (WC.cond_false rfl (WC.skip (WX.then_normal (WC.seq (WC.region (WL.move rfl rfl (?_))))))))
      refine WL.move rfl rfl ?_
      rw [show (7 - (i : Int)) = ((7 - i : Nat) : Int) from by omega]
      refine WL.num rfl rfl (n_shr8 _ _ b .i64 (7 - i) (by omega)) rfl ?_
      refine WL.num rfl rfl (n_and8 _ _ _ 1) rfl ?_
      rw [show (b >>> UInt8.ofNat (7 - i)) &&& 1 = bit b (7 - i) from rfl]
      refine WL.eql? rfl rfl rfl (fun h21 => ?_) (fun h21 => ?_)
      ·
        refine WL.nil (WX.then_normal (WC.cond_true rfl (WC.region (WL.move rfl rfl (WL.move rfl rfl (WL.c_u8_i64 Try.underlying5 Try.underlying3 rfl rfl (?_)))))))
        refine WL.num rfl rfl (n_xori _ _ (xt q).toNat a.toNat (by omega) (by omega)) rfl ?_
        refine WL.assign rfl rfl (WL.nil (WX.block_normal (WX.then_normal (WC.region (WL.move rfl rfl (WL.sub64 rfl rfl (by first | omega | (constructor <;> omega)) rfl (WL.assign rfl rfl (?_))))))))
        refine WL.nil (?_)
        have e6 : 7 - ((i + 1 : Nat) : Int) = ((7 - i : Nat) : Int) - 1 := by omega
        first
          | (have e5 := step_one (a := a) (b := b) (i := i) h21
             rw [← hq] at e5
             refine WX.loop_next (i + 1) ⟨rfl, rfl, ?_, ?_, trivial⟩ ⟨by omega, hw⟩ (by show _ - _ < _ - _; omega)
             ·
               rw [← e5]; rfl
             ·
               rw [e6]; rfl)
          | (have e5 := step_zero (a := a) (b := b) (i := i) h21
             rw [← hq] at e5
             refine WX.loop_next (i + 1) ⟨rfl, rfl, ?_, ?_, trivial⟩ ⟨by omega, hw⟩ (by show _ - _ < _ - _; omega)
             ·
               rw [← e5]; rfl
             ·
               rw [e6]; rfl)
      ·
        refine WL.nil (WX.then_normal (WC.cond_false rfl (WC.skip (WX.block_normal (WX.then_normal (WC.region (WL.move rfl rfl (?_))))))))
        refine WL.sub64 rfl rfl (by first | omega | (constructor <;> omega)) rfl (WL.assign rfl rfl (WL.nil (?_)))
        have e6 : 7 - ((i + 1 : Nat) : Int) = ((7 - i : Nat) : Int) - 1 := by omega
        first
          | (have e5 := step_one (a := a) (b := b) (i := i) h21
             rw [← hq] at e5
             refine WX.loop_next (i + 1) ⟨rfl, rfl, ?_, ?_, trivial⟩ ⟨by omega, hw⟩ (by show _ - _ < _ - _; omega)
             ·
               rw [← e5]; rfl
             ·
               rw [e6]; rfl)
          | (have e5 := step_zero (a := a) (b := b) (i := i) h21
             rw [← hq] at e5
             refine WX.loop_next (i + 1) ⟨rfl, rfl, ?_, ?_, trivial⟩ ⟨by omega, hw⟩ (by show _ - _ < _ - _; omega)
             ·
               rw [← e5]; rfl
             ·
               rw [e6]; rfl)
  ·
    refine WL.nil (WX.then_normal (WC.cond_false rfl (WC.exit (WX.then_exit (WX.then_exit (WX.block_here (WX.then_normal (?_))))))))
    refine WC.seq (WC.region (WL.move rfl rfl (?_)))
    have h8 : i = 8 := by omega
    refine WL.c_i64_u8 Try.underlying3 Try.underlying5 rfl rfl ?_
    rw [b8X (show q.toNat < 256 by omega), UInt8.ofNat_toNat, hq, h8, bAt_end]
    refine WL.assign rfl rfl (WL.nil (WX.then_normal (WC.ret (?_))))
    refine WX.ret1 (.inl rfl) Try.results25 rfl ?_
    exact ⟨_, rfl, rfl, hw⟩
theorem refPow_calls (a : UInt8) (n : Int) (w : World) (hn : -9223372036854775808 ≤ n ∧ n ≤ 9223372036854775807) : Calls Try.prog 30 [v8 a, vi n].toArray w (Ret fun v w' => v = .tuple #[v8 (powR a n).1, vi (powR a n).2] ∧ Chg Nob w w') := by
  have hw := Chg.refl Nob w
  refine Calls.of_WC Try.func30 rfl Try.ntmps30 (by simp) ?_
  refine WC.seq (WC.region (WL.assign rfl rfl (WL.assign rfl rfl (WL.nil (WX.then_normal (WC.seq (WC.seq (?_))))))))
  refine WC.region (WL.move rfl rfl (?_))
  refine WL.lss? rfl rfl rfl (fun h9 => ?_) (fun h9 => ?_)
  ·
    refine WL.nil (WX.then_normal (WC.cond_true rfl (WC.seq (WC.region (WL.assign rfl rfl (WL.assign rfl rfl (WL.nil (?_))))))))
    refine WX.then_normal (WC.ret (WX.then_ret (?_)))
    refine WX.ret2 (.inl rfl) Try.results30 rfl rfl ?_
    first
      | (have hi2 : i = m % 255 + 1 := by omega
         subst hi2
         refine ⟨_, rfl, ?_, hw⟩
         by_cases ha : a = 0
         ·
           subst ha
           rw [powR_zero, if_neg (by omega), pAt_zero]
         ·
           rw [powR_pos ha, pAt_ne ha, ← G_mod, ← G_mod (L a * (m + 1)), Nat.mul_mod, Nat.mul_mod (L a) (m + 1), Nat.mod_add_mod])
      | (refine ⟨_, rfl, ?_, hw⟩
         rw [powR, if_pos h9]
         rfl)
      | (refine ⟨_, rfl, ?_, hw⟩
         rw [powR, if_neg (by omega), if_pos h11]
         rfl)
  ·
    refine WL.nil (WX.then_normal (WC.cond_false rfl (WC.skip (WX.then_normal (WC.seq (WC.seq (WC.region (?_))))))))
    refine WL.move rfl rfl (?_)
    refine WL.eql? rfl rfl rfl (fun h11 => ?_) (fun h11 => ?_)
    ·
      refine WL.nil (WX.then_normal (WC.cond_true rfl (WC.seq (WC.region (WL.assign rfl rfl (WL.assign rfl rfl (WL.nil (?_))))))))
      refine WX.then_normal (WC.ret (WX.then_ret (?_)))
      refine WX.ret2 (.inl rfl) Try.results30 rfl rfl ?_
      first
        | (have hi2 : i = m % 255 + 1 := by omega
           subst hi2
           refine ⟨_, rfl, ?_, hw⟩
           by_cases ha : a = 0
           ·
             subst ha
             rw [powR_zero, if_neg (by omega), pAt_zero]
           ·
             rw [powR_pos ha, pAt_ne ha, ← G_mod, ← G_mod (L a * (m + 1)), Nat.mul_mod, Nat.mul_mod (L a) (m + 1), Nat.mod_add_mod])
        | (refine ⟨_, rfl, ?_, hw⟩
           rw [powR, if_pos h9]
           rfl)
        | (refine ⟨_, rfl, ?_, hw⟩
           rw [powR, if_neg (by omega), if_pos h11]
           rfl)
    ·
      refine WL.nil (WX.then_normal (WC.cond_false rfl (WC.skip (WX.then_normal (WC.seq (WC.region (WL.assign rfl rfl (?_))))))))
      refine WL.nil (WX.then_normal (WC.seq (WC.seq (WC.region (WL.assign rfl rfl (WL.nil (WX.then_normal (?_))))))))
      refine WC.block (?_)
      obtain ⟨m, rfl⟩ : ∃ m : Nat, n = ((m + 1 : Nat) : Int) := ⟨n.toNat - 1, by omega⟩
      refine WC.loop (σ := Nat) (fun i => [(0, v8 a), (1, vi ((m + 1 : Nat) : Int)), (6, v8 (pAt a i)), (7, vi i)])
        (fun i w' => i ≤ m % 255 + 1 ∧ Chg Nob w w') (fun i => 256 - i) 0 ⟨rfl, rfl, rfl, rfl, trivial⟩ ⟨Nat.zero_le _, hw⟩ ?_
      clear hw
      rintro i w2 ⟨hi, hw⟩
      have hm := Nat.mod_lt m (show 255 > 0 by decide)
      refine WC.seq (WC.seq (WC.region (WL.move rfl rfl (WL.move rfl rfl (?_)))))
      refine WL.sub64 rfl rfl (by constructor <;> omega) rfl ?_
      rw [show (((m + 1 : Nat) : Int) - 1) = (m : Int) from by omega]
      refine WL.rem64i rfl rfl (by omega) rfl ?_
      rw [show ((m : Int) % 255) = ((m % 255 : Nat) : Int) from by omega]
      refine WL.add64 rfl rfl (by first | omega | (constructor <;> omega)) rfl (?_)
      refine WL.lss? rfl rfl rfl (fun h17 => ?_) (fun h17 => ?_)
      ·
        refine WL.nil (WX.then_normal (WC.cond_true rfl (WC.skip (WX.then_normal (WC.seq (WC.block (WC.region (?_))))))))
        refine WL.move rfl rfl (WL.move rfl rfl (?_))
        refine WL.call eg_25 rfl rfl (refMul_calls (pAt a i) a _) ?_
        rintro v w1 ⟨rfl, k⟩
        have zs_k := k.size
        replace hw := hw.pure k
        refine WL.assign rfl rfl (WL.nil (WX.block_normal (WX.then_normal (WC.region (WL.move rfl rfl (WL.add64 rfl rfl (by first | omega | (constructor <;> omega)) rfl (WL.assign rfl rfl (?_))))))))
        refine WL.nil (?_)
        exact WX.loop_next (i + 1) ⟨rfl, rfl, rfl, rfl, trivial⟩ ⟨by omega, hw⟩ (by show _ - _ < _ - _; omega)
      ·
        refine WL.nil (WX.then_normal (WC.cond_false rfl (WC.exit (WX.then_exit (WX.then_exit (WX.block_here (WX.then_normal (?_))))))))
        refine WC.seq (WC.region (WL.move rfl rfl (WL.assign rfl rfl (WL.assign rfl rfl (WL.nil (WX.then_normal (WC.ret (?_))))))))
        refine WX.ret2 (.inl rfl) Try.results30 rfl rfl ?_
        first
          | (have hi2 : i = m % 255 + 1 := by omega
             subst hi2
             refine ⟨_, rfl, ?_, hw⟩
             by_cases ha : a = 0
             ·
               subst ha
               rw [powR_zero, if_neg (by omega), pAt_zero]
             ·
               rw [powR_pos ha, pAt_ne ha, ← G_mod, ← G_mod (L a * (m + 1)), Nat.mul_mod, Nat.mul_mod (L a) (m + 1), Nat.mod_add_mod])
          | (refine ⟨_, rfl, ?_, hw⟩
             rw [powR, if_pos h9]
             rfl)
          | (refine ⟨_, rfl, ?_, hw⟩
             rw [powR, if_neg (by omega), if_pos h11]
             rfl)
end Go.Proofs.Ytbbpgbdiifmkhaa
