import Derived.Test.YtjdbjdgobhjbkaaHo
namespace Go.HL
open Go.RowKit
/-! more on ints, arrays that lie within a block -/
section
variable {P : Program}
theorem xor_int (a b : Nat) (ha : a < 4611686018427387904) (hb : b < 4611686018427387904) : IntKind.i64.wrap ((BitVec.ofInt 64 (a : Int) ^^^ BitVec.ofInt 64 (b : Int)).toNat : Int) = ((a ^^^ b : Nat) : Int) := by
  have e1 : BitVec.ofInt 64 (a : Int) = BitVec.ofNat 64 a := by simp
  have e2 : BitVec.ofInt 64 (b : Int) = BitVec.ofNat 64 b := by simp
  have h3 : a ^^^ b < 2 ^ 62 := Nat.xor_lt_two_pow (by omega) (by omega)
  rw [e1, e2, BitVec.toNat_xor, BitVec.toNat_ofNat, BitVec.toNat_ofNat, Nat.mod_eq_of_lt (by omega), Nat.mod_eq_of_lt (by omega)]
  exact wrap_i64 (by omega)
theorem n_xori (t : TypeId) (w : World) (a b : Nat) (ha : a < 4611686018427387904) (hb : b < 4611686018427387904) : (binOp .xor t (vi a) (vi b)).run P w = .ok (vi ((a ^^^ b : Nat) : Int)) w := by
  rw [← xor_int a b ha hb]
  simp only [binOp, Op.intBits, IntKind.bits]
  simp only [ne_eq, not_true_eq_false, if_false, Sem.run_pure]
  rfl
theorem n_shli (t : TypeId) (w : World) (a n : Nat) (hn : n < 62) (ha : a * 2 ^ n < 4611686018427387904) (k : IntKind) : (binOp .shl t (vi a) (.int k (n : Int))).run P w = .ok (vi ((a * 2 ^ n : Nat) : Int)) w := by
  have h1 : ¬ ((n : Int) < 0) := by omega
  have h2 : min n 64 = n := by omega
  simp only [binOp, Op.shift, if_neg h1, IntKind.bits, Int.toNat_natCast, h2]
  have h3 : (a : Int) * 2 ^ n = ((a * 2 ^ n : Nat) : Int) := by simp
  rw [h3, wrap_i64 (by omega)]
  rfl
end
section
variable {P : Program} {ops : Array Oper} {Q : Exit → Act → World → Prop} {N : Nat} {E : Env} {w : World} {rest : List Oper} {d : Nat} {ty : TypeId} {pos : String} {af : Array Edge} {t T tb : TypeId} {x y : Operand}
theorem WL.indexArrO {b o n : Nat} {k : IntKind} {i : Int} (j : Nat) (ht : P.underlying t = some (.array n T)) (hs : ∀ w, (sizeOf T).run P w = .ok 1 w) (hx : ev E x = some (.pointer (some ⟨b, o, none⟩))) (hy : ev E y = some (.int k i)) (hi : i = (j : Int) ∧ j < n) (hd : Nat.blt d N = true)
    (h : WL P ops Q N rest ((d, .pointer (some ⟨b, o + j, none⟩)) :: E) w) : WL P ops Q N (⟨some d, .indexAddr t x y, ty, pos, af, none⟩ :: rest) E w :=
  WL.run _ w (fun a ha => by
    obtain ⟨rfl, hj⟩ := hi
    have h2 : ((j : Int) < (n : Int)) := by omega
    simp [execOp, ev_eval ha hx, ev_eval ha hy, Instr.indexAt, asIntOf, run_underlying ht, hs, Instr.sureAddr, hj, Addr.add_lit]) hd h
end
end Go.HL
