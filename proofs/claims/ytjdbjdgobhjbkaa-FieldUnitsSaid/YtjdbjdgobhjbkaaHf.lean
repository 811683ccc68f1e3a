import Derived.Test.YtjdbjdgobhjbkaaHe
namespace Go.HL
open Go.RowKit

/-! the operations of whole numbers without a sign are Lean's own -/
theorem wrap8 (n : Nat) : IntKind.u8.wrap (n : Int) = ((UInt8.ofNat n).toNat : Int) := by simp [IntKind.wrap, IntKind.bits, IntKind.signed]
theorem wrap32 (n : Nat) : IntKind.u32.wrap (n : Int) = ((UInt32.ofNat n).toNat : Int) := by simp [IntKind.wrap, IntKind.bits, IntKind.signed]
theorem wrap64 (n : Nat) : IntKind.u64.wrap (n : Int) = ((UInt64.ofNat n).toNat : Int) := by simp [IntKind.wrap, IntKind.bits, IntKind.signed]
section
variable {P : Program} (t : TypeId) (w : World)
theorem bv8 (a : UInt8) : BitVec.ofInt 8 (a.toNat : Int) = a.toBitVec := by
  apply BitVec.eq_of_toNat_eq; simp
theorem bv32 (a : UInt32) : BitVec.ofInt 32 (a.toNat : Int) = a.toBitVec := by
  apply BitVec.eq_of_toNat_eq; simp
theorem bv64 (a : UInt64) : BitVec.ofInt 64 (a.toNat : Int) = a.toBitVec := by
  apply BitVec.eq_of_toNat_eq; simp
theorem n_or8 (a b : UInt8) : (binOp .or t (v8 a) (v8 b)).run P w = .ok (v8 (a ||| b)) w := by
  simp only [binOp, Op.intBits, IntKind.bits, bv8]; simp [wrap8]; rfl
theorem n_and8 (a b : UInt8) : (binOp .and t (v8 a) (v8 b)).run P w = .ok (v8 (a &&& b)) w := by
  simp only [binOp, Op.intBits, IntKind.bits, bv8]; simp [wrap8]; rfl
theorem n_xor8 (a b : UInt8) : (binOp .xor t (v8 a) (v8 b)).run P w = .ok (v8 (a ^^^ b)) w := by
  simp only [binOp, Op.intBits, IntKind.bits, bv8]; simp [wrap8]; rfl
theorem n_or32 (a b : UInt32) : (binOp .or t (v32 a) (v32 b)).run P w = .ok (v32 (a ||| b)) w := by
  simp only [binOp, Op.intBits, IntKind.bits, bv32]; simp [wrap32]; rfl
theorem n_and32 (a b : UInt32) : (binOp .and t (v32 a) (v32 b)).run P w = .ok (v32 (a &&& b)) w := by
  simp only [binOp, Op.intBits, IntKind.bits, bv32]; simp [wrap32]; rfl
theorem n_xor32 (a b : UInt32) : (binOp .xor t (v32 a) (v32 b)).run P w = .ok (v32 (a ^^^ b)) w := by
  simp only [binOp, Op.intBits, IntKind.bits, bv32]; simp [wrap32]; rfl
theorem n_or64 (a b : UInt64) : (binOp .or t (v64 a) (v64 b)).run P w = .ok (v64 (a ||| b)) w := by
  simp only [binOp, Op.intBits, IntKind.bits, bv64]; simp [wrap64]; rfl
theorem n_and64 (a b : UInt64) : (binOp .and t (v64 a) (v64 b)).run P w = .ok (v64 (a &&& b)) w := by
  simp only [binOp, Op.intBits, IntKind.bits, bv64]; simp [wrap64]; rfl
theorem n_xor64 (a b : UInt64) : (binOp .xor t (v64 a) (v64 b)).run P w = .ok (v64 (a ^^^ b)) w := by
  simp only [binOp, Op.intBits, IntKind.bits, bv64]; simp [wrap64]; rfl
theorem n_add8 (a b : UInt8) : (binOp .add t (v8 a) (v8 b)).run P w = .ok (v8 (a + b)) w := by
  simp only [binOp, Op.intArith]; simp [IntKind.wrap, IntKind.bits, IntKind.signed]
theorem n_add32 (a b : UInt32) : (binOp .add t (v32 a) (v32 b)).run P w = .ok (v32 (a + b)) w := by
  simp only [binOp, Op.intArith]; simp [IntKind.wrap, IntKind.bits, IntKind.signed]
theorem n_add64 (a b : UInt64) : (binOp .add t (v64 a) (v64 b)).run P w = .ok (v64 (a + b)) w := by
  simp only [binOp, Op.intArith]; simp [IntKind.wrap, IntKind.bits, IntKind.signed]
theorem n_mul64 (a b : UInt64) : (binOp .mul t (v64 a) (v64 b)).run P w = .ok (v64 (a * b)) w := by
  simp only [binOp, Op.intArith]; simp [IntKind.wrap, IntKind.bits, IntKind.signed]
theorem n_mul32 (a b : UInt32) : (binOp .mul t (v32 a) (v32 b)).run P w = .ok (v32 (a * b)) w := by
  simp only [binOp, Op.intArith]; simp [IntKind.wrap, IntKind.bits, IntKind.signed]
theorem n_sub64 (a b : UInt64) : (binOp .sub t (v64 a) (v64 b)).run P w = .ok (v64 (a - b)) w := by
  simp only [binOp, Op.intArith]; simp [IntKind.wrap, IntKind.bits, IntKind.signed]
  have h1 := a.toNat_lt
  have h2 := b.toNat_lt
  rw [UInt64.toNat_sub]
  omega
/-- to the right by a count that is known -/
theorem n_shr64 (a : UInt64) (k : IntKind) (n : Nat) (hn : n < 64) : (binOp .shr t (v64 a) (.int k (n : Int))).run P w = .ok (v64 (a >>> UInt64.ofNat n)) w := by
  have h1 : ¬ ((n : Int) < 0) := by omega
  have h2 : min n 64 = n := by omega
  simp only [binOp, Op.shift, if_neg h1, IntKind.bits, Int.toNat_natCast, h2]
  simp
  congr 2
  rw [show ((2 : Int) ^ n) = ((2 ^ n : Nat) : Int) from by simp, ← Int.ofNat_fdiv, Nat.mod_eq_of_lt hn, ← Nat.shiftRight_eq_div_pow]
  rfl
theorem n_shr32 (a : UInt32) (k : IntKind) (n : Nat) (hn : n < 32) : (binOp .shr t (v32 a) (.int k (n : Int))).run P w = .ok (v32 (a >>> UInt32.ofNat n)) w := by
  have h1 : ¬ ((n : Int) < 0) := by omega
  have h2 : min n 32 = n := by omega
  simp only [binOp, Op.shift, if_neg h1, IntKind.bits, Int.toNat_natCast, h2]
  simp
  congr 2
  rw [show ((2 : Int) ^ n) = ((2 ^ n : Nat) : Int) from by simp, ← Int.ofNat_fdiv, Nat.mod_eq_of_lt hn, ← Nat.shiftRight_eq_div_pow]
  rfl
theorem n_shr8 (a : UInt8) (k : IntKind) (n : Nat) (hn : n < 8) : (binOp .shr t (v8 a) (.int k (n : Int))).run P w = .ok (v8 (a >>> UInt8.ofNat n)) w := by
  have h1 : ¬ ((n : Int) < 0) := by omega
  have h2 : min n 8 = n := by omega
  simp only [binOp, Op.shift, if_neg h1, IntKind.bits, Int.toNat_natCast, h2]
  simp
  congr 2
  rw [show ((2 : Int) ^ n) = ((2 ^ n : Nat) : Int) from by simp, ← Int.ofNat_fdiv, Nat.mod_eq_of_lt hn, ← Nat.shiftRight_eq_div_pow]
  rfl
theorem n_shl64 (a : UInt64) (k : IntKind) (n : Nat) (hn : n < 64) : (binOp .shl t (v64 a) (.int k (n : Int))).run P w = .ok (v64 (a <<< UInt64.ofNat n)) w := by
  have h1 : ¬ ((n : Int) < 0) := by omega
  have h2 : min n 64 = n := by omega
  simp only [binOp, Op.shift, if_neg h1, IntKind.bits, Int.toNat_natCast, h2]
  simp [IntKind.wrap, IntKind.bits, IntKind.signed]
  congr 2
  rw [Nat.mod_eq_of_lt hn, show ((2 : Int) ^ n) = ((2 ^ n : Nat) : Int) from by simp, ← Int.natCast_mul, ← Nat.shiftLeft_eq]
  rfl
theorem n_shl32 (a : UInt32) (k : IntKind) (n : Nat) (hn : n < 32) : (binOp .shl t (v32 a) (.int k (n : Int))).run P w = .ok (v32 (a <<< UInt32.ofNat n)) w := by
  have h1 : ¬ ((n : Int) < 0) := by omega
  have h2 : min n 32 = n := by omega
  simp only [binOp, Op.shift, if_neg h1, IntKind.bits, Int.toNat_natCast, h2]
  simp [IntKind.wrap, IntKind.bits, IntKind.signed]
  congr 2
  rw [Nat.mod_eq_of_lt hn, show ((2 : Int) ^ n) = ((2 ^ n : Nat) : Int) from by simp, ← Int.natCast_mul, ← Nat.shiftLeft_eq]
  rfl
theorem n_shri64 (x : Int) (k : IntKind) (n : Nat) (hn : n < 64) : (binOp .shr t (vi x) (.int k (n : Int))).run P w = .ok (vi (x / 2 ^ n)) w := by
  have h1 : ¬ ((n : Int) < 0) := by omega
  have h2 : min n 64 = n := by omega
  simp only [binOp, Op.shift, if_neg h1, IntKind.bits, Int.toNat_natCast, h2]
  have h3 : x.fdiv (2 ^ n) = x / 2 ^ n := Int.fdiv_eq_ediv_of_nonneg _ (Int.le_of_lt (Int.pow_pos (by decide)))
  rw [h3]
  rfl
theorem n_rem64 (a b : UInt64) (hb : b.toNat ≠ 0) : (binOp .rem t (v64 a) (v64 b)).run P w = .ok (v64 (a % b)) w := by
  have : ¬ ((b.toNat : Int) = 0) := by omega
  simp only [binOp, Op.intDiv, if_neg this]; simp [this]
  congr 2
theorem n_quo64 (a b : UInt64) (hb : b.toNat ≠ 0) : (binOp .quo t (v64 a) (v64 b)).run P w = .ok (v64 (a / b)) w := by
  have : ¬ ((b.toNat : Int) = 0) := by omega
  have h2 : ((a.toNat : Int).tdiv (b.toNat : Int)) = ((a.toNat / b.toNat : Nat) : Int) := rfl
  have h3 : (UInt64.ofNat (a.toNat / b.toNat)) = a / b := by
    apply UInt64.toNat_inj.1
    simp
    exact Nat.lt_of_le_of_lt (Nat.div_le_self _ _) a.toNat_lt
  simp only [binOp, Op.intDiv, if_neg this, h2, wrap64, h3]; simp
end

/-! conversions -/
/-- an int as a byte -/
def B8 (n : Int) : UInt8 := UInt8.ofNat (n % 256).toNat
def B32 (n : Int) : UInt32 := UInt32.ofNat (n % 4294967296).toNat
def B64 (n : Int) : UInt64 := UInt64.ofNat (n % 18446744073709551616).toNat
theorem B64_nat {n : Nat} (h : n < 18446744073709551616) : (B64 (n : Int)).toNat = n := by simp [B64]; omega
theorem wrap8_B (n : Int) : IntKind.u8.wrap n = ((B8 n).toNat : Int) := by
  simp [IntKind.wrap, IntKind.bits, IntKind.signed, B8]; omega
theorem wrap32_B (n : Int) : IntKind.u32.wrap n = ((B32 n).toNat : Int) := by
  simp [IntKind.wrap, IntKind.bits, IntKind.signed, B32]; omega
theorem wrap64_B (n : Int) : IntKind.u64.wrap n = ((B64 n).toNat : Int) := by
  simp [IntKind.wrap, IntKind.bits, IntKind.signed, B64]; omega
section
variable {P : Program} {ops : Array Oper} {Q : Exit → Act → World → Prop} {N : Nat} {E : Env} {w : World} {rest : List Oper}
  {d : Nat} {ty : TypeId} {pos : String} {af : Array Edge} {src dst : TypeId} {x : Operand}
theorem WL.c_i64_u8 {n : Int} (hk : P.underlying src = some (.int .i64)) (ht : P.underlying dst = some (.int .u8)) (hx : ev E x = some (vi n)) (hd : Nat.blt d N = true) (h : WL P ops Q N rest ((d, v8 (B8 n)) :: E) w) : WL P ops Q N (⟨some d, .convert src dst x, ty, pos, af, none⟩ :: rest) E w :=
  WL.conv hk ht hx hd (by rw [wrap8_B]; exact h)
theorem WL.c_i64_u32 {n : Int} (hk : P.underlying src = some (.int .i64)) (ht : P.underlying dst = some (.int .u32)) (hx : ev E x = some (vi n)) (hd : Nat.blt d N = true) (h : WL P ops Q N rest ((d, v32 (B32 n)) :: E) w) : WL P ops Q N (⟨some d, .convert src dst x, ty, pos, af, none⟩ :: rest) E w :=
  WL.conv hk ht hx hd (by rw [wrap32_B]; exact h)
theorem WL.c_i64_u64 {n : Int} (hk : P.underlying src = some (.int .i64)) (ht : P.underlying dst = some (.int .u64)) (hx : ev E x = some (vi n)) (hd : Nat.blt d N = true) (h : WL P ops Q N rest ((d, v64 (B64 n)) :: E) w) : WL P ops Q N (⟨some d, .convert src dst x, ty, pos, af, none⟩ :: rest) E w :=
  WL.conv hk ht hx hd (by rw [wrap64_B]; exact h)
theorem WL.c_u8_i64 {b : UInt8} (hk : P.underlying src = some (.int .u8)) (ht : P.underlying dst = some (.int .i64)) (hx : ev E x = some (v8 b)) (hd : Nat.blt d N = true) (h : WL P ops Q N rest ((d, vi b.toNat) :: E) w) : WL P ops Q N (⟨some d, .convert src dst x, ty, pos, af, none⟩ :: rest) E w :=
  WL.conv hk ht hx hd (by rw [wrap_i64 (by have := b.toNat_lt; omega)]; exact h)
theorem WL.c_u8_u64 {b : UInt8} (hk : P.underlying src = some (.int .u8)) (ht : P.underlying dst = some (.int .u64)) (hx : ev E x = some (v8 b)) (hd : Nat.blt d N = true) (h : WL P ops Q N rest ((d, v64 b.toUInt64) :: E) w) : WL P ops Q N (⟨some d, .convert src dst x, ty, pos, af, none⟩ :: rest) E w :=
  WL.conv hk ht hx hd (by rw [wrap64, show UInt64.ofNat b.toNat = b.toUInt64 from by simp]; exact h)
theorem WL.c_u8_u32 {b : UInt8} (hk : P.underlying src = some (.int .u8)) (ht : P.underlying dst = some (.int .u32)) (hx : ev E x = some (v8 b)) (hd : Nat.blt d N = true) (h : WL P ops Q N rest ((d, v32 b.toUInt32) :: E) w) : WL P ops Q N (⟨some d, .convert src dst x, ty, pos, af, none⟩ :: rest) E w :=
  WL.conv hk ht hx hd (by rw [wrap32, show UInt32.ofNat b.toNat = b.toUInt32 from by simp]; exact h)
theorem WL.c_u8_u8 {b : UInt8} (hk : P.underlying src = some (.int .u8)) (ht : P.underlying dst = some (.int .u8)) (hx : ev E x = some (v8 b)) (hd : Nat.blt d N = true) (h : WL P ops Q N rest ((d, v8 b) :: E) w) : WL P ops Q N (⟨some d, .convert src dst x, ty, pos, af, none⟩ :: rest) E w :=
  WL.conv hk ht hx hd (by rw [wrap8]; simpa using h)
theorem WL.c_u64_u8 {b : UInt64} (hk : P.underlying src = some (.int .u64)) (ht : P.underlying dst = some (.int .u8)) (hx : ev E x = some (v64 b)) (hd : Nat.blt d N = true) (h : WL P ops Q N rest ((d, v8 b.toUInt8) :: E) w) : WL P ops Q N (⟨some d, .convert src dst x, ty, pos, af, none⟩ :: rest) E w :=
  WL.conv hk ht hx hd (by rw [wrap8, show UInt8.ofNat b.toNat = b.toUInt8 from rfl]; exact h)
theorem WL.c_u32_u8 {b : UInt32} (hk : P.underlying src = some (.int .u32)) (ht : P.underlying dst = some (.int .u8)) (hx : ev E x = some (v32 b)) (hd : Nat.blt d N = true) (h : WL P ops Q N rest ((d, v8 b.toUInt8) :: E) w) : WL P ops Q N (⟨some d, .convert src dst x, ty, pos, af, none⟩ :: rest) E w :=
  WL.conv hk ht hx hd (by rw [wrap8, show UInt8.ofNat b.toNat = b.toUInt8 from rfl]; exact h)
theorem WL.c_u64_i64 {b : UInt64} (hk : P.underlying src = some (.int .u64)) (ht : P.underlying dst = some (.int .i64)) (hx : ev E x = some (v64 b)) (hd : Nat.blt d N = true) (h : WL P ops Q N rest ((d, vi (IntKind.i64.wrap b.toNat)) :: E) w) : WL P ops Q N (⟨some d, .convert src dst x, ty, pos, af, none⟩ :: rest) E w :=
  WL.conv hk ht hx hd h
theorem WL.c_i64_i64 {n : Int} (hk : P.underlying src = some (.int .i64)) (ht : P.underlying dst = some (.int .i64)) (hx : ev E x = some (vi n)) (hb : -9223372036854775808 ≤ n ∧ n ≤ 9223372036854775807) (hd : Nat.blt d N = true) (h : WL P ops Q N rest ((d, vi n) :: E) w) : WL P ops Q N (⟨some d, .convert src dst x, ty, pos, af, none⟩ :: rest) E w :=
  WL.conv hk ht hx hd (by rw [wrap_i64 hb]; exact h)
end
end Go.HL
