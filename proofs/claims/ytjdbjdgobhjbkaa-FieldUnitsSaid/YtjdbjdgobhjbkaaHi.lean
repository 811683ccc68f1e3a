import Derived.Laws.StructEq
import Derived.Test.YtjdbjdgobhjbkaaHh
namespace Go.HL
open Go.RowKit

/-! more operations: the other side of a number, bits of ints, structs that are compared -/
section
variable {P : Program} {ops : Array Oper} {Q : Exit → Act → World → Prop} {N : Nat} {E : Env} {w : World} {rest : List Oper}
  {d : Nat} {ty : TypeId} {pos : String} {af : Array Edge} {t tb : TypeId} {x y : Operand}
theorem WL.neg64 {n : Int} (hx : ev E x = some (vi n)) (hb : -9223372036854775808 ≤ -n ∧ -n ≤ 9223372036854775807) (hd : Nat.blt d N = true) (h : WL P ops Q N rest ((d, vi (-n)) :: E) w) :
    WL P ops Q N (⟨some d, .unOp .neg t x, ty, pos, af, none⟩ :: rest) E w :=
  WL.run _ w (fun a ha => by simp [execOp, ev_eval ha hx, Op.unary, Op.intArith, wrap_i64 hb]) hd h
theorem xor_negb (a b : Nat) (hb : b < 2) (ha : a < 9223372036854775808) : IntKind.i64.wrap ((BitVec.ofInt 64 (a : Int) ^^^ BitVec.ofInt 64 (-(b : Int))).toNat : Int) = if b = 1 then -(a : Int) - 1 else (a : Int) := by
  have h1 : b = 0 ∨ b = 1 := by omega
  rcases h1 with rfl | rfl
  · simp
    rw [Int.emod_eq_of_lt (by omega) (by omega)]
    exact wrap_i64 (by omega)
  · have e : BitVec.ofInt 64 (-((1 : Nat) : Int)) = BitVec.allOnes 64 := by decide
    have e2 : BitVec.ofInt 64 (a : Int) = BitVec.ofNat 64 a := by simp
    rw [e, e2, BitVec.xor_allOnes, BitVec.toNat_not, BitVec.toNat_ofNat, Nat.mod_eq_of_lt (by omega)]
    simp only [if_true, IntKind.wrap, IntKind.bits, IntKind.signed]
    simp
    omega
theorem n_xornegb (t : TypeId) (w : World) (a b : Nat) (hb : b < 2) (ha : a < 9223372036854775808) : (binOp .xor t (vi a) (vi (-(b : Int)))).run P w = .ok (vi (if b = 1 then -(a : Int) - 1 else (a : Int))) w := by
  rw [← xor_negb a b hb ha]
  simp only [binOp, Op.intBits, IntKind.bits]
  simp only [ne_eq, not_true_eq_false, if_false, Sem.run_pure]
  rfl
/-- a number without a sign that an int holds -/
theorem WL.c_u64_i64s {src dst : TypeId} {b : UInt64} {n : Nat} (hk : P.underlying src = some (.int .u64)) (ht : P.underlying dst = some (.int .i64)) (hx : ev E x = some (v64 b)) (hb : b.toNat = n ∧ n ≤ 9223372036854775807) (hd : Nat.blt d N = true) (h : WL P ops Q N rest ((d, vi n) :: E) w) : WL P ops Q N (⟨some d, .convert src dst x, ty, pos, af, none⟩ :: rest) E w :=
  WL.conv hk ht hx hd (by rw [wrap_i64 (by omega), hb.1]; exact h)
/-- to the left by a count that stands in an int -/
theorem WL.shlv {a : UInt64} {m : Int} (n : Nat) (hx : ev E x = some (v64 a)) (hy : ev E y = some (vi m)) (hm : m = (n : Int) ∧ n < 64) (hd : Nat.blt d N = true) (h : WL P ops Q N rest ((d, v64 (a <<< UInt64.ofNat n)) :: E) w) : WL P ops Q N (⟨some d, .binOp .shl t x y tb, ty, pos, af, none⟩ :: rest) E w :=
  WL.num hx hy (by rw [hm.1]; exact n_shl64 _ _ _ _ n hm.2) hd h
theorem WL.shrv {a : UInt64} {m : Int} (n : Nat) (hx : ev E x = some (v64 a)) (hy : ev E y = some (vi m)) (hm : m = (n : Int) ∧ n < 64) (hd : Nat.blt d N = true) (h : WL P ops Q N rest ((d, v64 (a >>> UInt64.ofNat n)) :: E) w) : WL P ops Q N (⟨some d, .binOp .shr t x y tb, ty, pos, af, none⟩ :: rest) E w :=
  WL.num hx hy (by rw [hm.1]; exact n_shr64 _ _ _ _ n hm.2) hd h
theorem WL.quo64i {m n : Int} (hx : ev E x = some (vi m)) (hy : ev E y = some (vi n)) (hb : 0 ≤ m ∧ m ≤ 9223372036854775807 ∧ 0 < n) (hd : Nat.blt d N = true) (h : WL P ops Q N rest ((d, vi (m / n)) :: E) w) : WL P ops Q N (⟨some d, .binOp .quo t x y tb, ty, pos, af, none⟩ :: rest) E w :=
  WL.quok hx hy (by omega) hd (by
    have e : m.tdiv n = m / n := Int.tdiv_eq_ediv_of_nonneg hb.1
    have h1 : 0 ≤ m / n := Int.ediv_nonneg hb.1 (by omega)
    have h2 : m / n ≤ m := Int.ediv_le_self _ hb.1
    rw [e, wrap_i64 (by omega)]
    exact h)
theorem WL.rem64i {m n : Int} (hx : ev E x = some (vi m)) (hy : ev E y = some (vi n)) (hb : 0 ≤ m ∧ 0 < n) (hd : Nat.blt d N = true) (h : WL P ops Q N rest ((d, vi (m % n)) :: E) w) : WL P ops Q N (⟨some d, .binOp .rem t x y tb, ty, pos, af, none⟩ :: rest) E w :=
  WL.remk hx hy (by omega) hd (by
    have e : m.tmod n = m % n := Int.tmod_eq_emod_of_nonneg hb.1
    rw [e]
    exact h)
theorem WL.aeql {xs ys : Array Value} {b : Bool} (hg : P.eqGuardType P.depth t = false) (he : ∀ w, (Op.equalIn 10000 t (.agg xs) (.agg ys)).run P w = .ok b w) (hx : ev E x = some (.agg xs)) (hy : ev E y = some (.agg ys)) (hd : Nat.blt d N = true) (h : WL P ops Q N rest ((d, .bool b) :: E) w) :
    WL P ops Q N (⟨some d, .binOp .eql t x y tb, ty, pos, af, none⟩ :: rest) E w :=
  WL.run _ w (fun a ha => by simp [execOp, ev_eval ha hx, ev_eval ha hy, run_eqGuard_agg _ _ _ _ _ _ _ hg, run_eql_struct, he]) hd h
theorem WL.aneq {xs ys : Array Value} {p : Prop} [Decidable p] (hg : P.eqGuardType P.depth t = false) (he : ∀ w, (Op.equalIn 10000 t (.agg xs) (.agg ys)).run P w = .ok (decide p) w) (hx : ev E x = some (.agg xs)) (hy : ev E y = some (.agg ys)) (hd : Nat.blt d N = true) (h : WL P ops Q N rest ((d, .bool (decide (¬ p))) :: E) w) :
    WL P ops Q N (⟨some d, .binOp .neq t x y tb, ty, pos, af, none⟩ :: rest) E w :=
  WL.run _ w (fun a ha => by simp [execOp, ev_eval ha hx, ev_eval ha hy, run_eqGuard_agg _ _ _ _ _ _ _ hg, run_neq_struct, he]) hd h
theorem WL.aeql? {xs ys : Array Value} {p : Prop} [Decidable p] (hg : P.eqGuardType P.depth t = false) (he : ∀ w, (Op.equalIn 10000 t (.agg xs) (.agg ys)).run P w = .ok (decide p) w) (hx : ev E x = some (.agg xs)) (hy : ev E y = some (.agg ys)) (hd : Nat.blt d N = true) (ht : p → WL P ops Q N rest ((d, .bool true) :: E) w) (hf : ¬ p → WL P ops Q N rest ((d, .bool false) :: E) w) :
    WL P ops Q N (⟨some d, .binOp .eql t x y tb, ty, pos, af, none⟩ :: rest) E w :=
  WL.aeql hg he hx hy hd (by by_cases h : p; · simpa [h] using ht h
                             · simpa [h] using hf h)
theorem WL.aneq? {xs ys : Array Value} {p : Prop} [Decidable p] (hg : P.eqGuardType P.depth t = false) (he : ∀ w, (Op.equalIn 10000 t (.agg xs) (.agg ys)).run P w = .ok (decide p) w) (hx : ev E x = some (.agg xs)) (hy : ev E y = some (.agg ys)) (hd : Nat.blt d N = true) (ht : ¬ p → WL P ops Q N rest ((d, .bool true) :: E) w) (hf : p → WL P ops Q N rest ((d, .bool false) :: E) w) :
    WL P ops Q N (⟨some d, .binOp .neq t x y tb, ty, pos, af, none⟩ :: rest) E w :=
  WL.aneq hg he hx hy hd (by by_cases h : p; · simpa [h] using hf h
                             · simpa [h] using ht h)
end

/-! the fields of structs that are compared -/
section
variable {P : Program} {d : Nat} {xs ys : Array Value} {f : Field} {fs : List Field} {a b : Value} {r s : Bool} {w : World}
theorem eqf_nil : (Op.eqFields d xs ys []).run P w = .ok true w := by simp [Op.eqFields]
theorem eqf_cons (hn : (f.name == "_") = false) (ha : (part f.type xs f.offset).run P w = .ok a w) (hb : (part f.type ys f.offset).run P w = .ok b w) (he : (Op.equalIn d f.type a b).run P w = .ok r w) (hr : (Op.eqFields d xs ys fs).run P w = .ok s w) : (Op.eqFields d xs ys (f :: fs)).run P w = .ok (r && s) w := by
  have hn' : f.name ≠ "_" := by simpa using hn
  rw [Op.eqFields]
  simp only [if_pos hn', Sem.run_bind, ha, hb, he, Result.andThen_ok]
  cases r
  · simp
  · simpa using hr
theorem eqA_of {t : TypeId} {fs : Array Field} (hu : P.underlying t = some (.struct fs)) (hp : P.stoodInHeld t = false) (h : (Op.eqFields d xs ys fs.toList).run P w = .ok r w) : (Op.equalIn (d + 1) t (.agg xs) (.agg ys)).run P w = .ok r w := by
  have hf : P.fieldsOf t = fs := by simp [Program.fieldsOf, hu]
  rw [run_equalIn_struct (P := P) w d t xs ys (by rw [hf]; exact hu) hp, hf]
  exact h
theorem part1 {t : TypeId} {cs : List Value} {o : Nat} {v : Value} (hs : ∀ w, (sizeOf t).run P w = .ok 1 w) (hg : ∀ w, (isAgg t).run P w = .ok false w) (hv : cs[o]? = some v) : (part t cs.toArray o).run P w = .ok v w := by
  simp [part, hs, hg, hv]
end
end Go.HL
