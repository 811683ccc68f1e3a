import Derived.Laws.StructEq
import Derived.Laws.Small
import Derived.Laws.MakeOwn
import Derived.Laws.Cover3
import Derived.Test.YtjdbjdgobhjbkaaRows
import Derived.MapKept
import Derived.Test.YtjdbjdgobhjbkaaQFieldApart1
namespace Go.HL
open Go.RowKit

/-! more operations: the other side of a number, bits of ints, structs that are compared -/
section
variable {P : Program} {ops : Array Oper} {Q : Exit → Act → World → Prop} {N : Nat} {E : Env} {w : World} {rest : List Oper}
  {d : Nat} {ty : TypeId} {pos : String} {af : Array Edge} {t tb : TypeId} {x y : Operand}
theorem WL.neg64 {n : Int} (hx : ev E x = some (vi n)) (hb : -9223372036854775808 ≤ -n ∧ -n ≤ 9223372036854775807) (hd : Nat.blt d N = true) (h : WL P ops Q N rest ((d, vi (-n)) :: E) w) :
    WL P ops Q N (⟨some d, .unOp .neg t x, ty, pos, af, none⟩ :: rest) E w :=
  WL.run _ w (fun a ha => by simp [execOp, ev_eval ha hx, Op.unary, Op.intArith, wrap_i64 hb]) hd h
theorem xor_negb (a b : Nat) (hb : b < 2) (ha : a < 9223372036854775808) : IntKind.i64.wrap ((BitVec.ofInt 64 (a : Int) ^^^ BitVec.ofInt 64 (-(b : Int))).toNat : Int) = if b = 1 then -(a : Int) - 1 else (a : Int) := by
  have h1 : b = 0 ∨ b = 1 := by omega
  rcases h1 with rfl | rfl
  · simp
    rw [Int.emod_eq_of_lt (by omega) (by omega)]
    exact wrap_i64 (by omega)
  · have e : BitVec.ofInt 64 (-((1 : Nat) : Int)) = BitVec.allOnes 64 := by decide
    have e2 : BitVec.ofInt 64 (a : Int) = BitVec.ofNat 64 a := by simp
    rw [e, e2, BitVec.xor_allOnes, BitVec.toNat_not, BitVec.toNat_ofNat, Nat.mod_eq_of_lt (by omega)]
    simp only [if_true, IntKind.wrap, IntKind.bits, IntKind.signed]
    simp
    omega
theorem n_xornegb (t : TypeId) (w : World) (a b : Nat) (hb : b < 2) (ha : a < 9223372036854775808) : (binOp .xor t (vi a) (vi (-(b : Int)))).run P w = .ok (vi (if b = 1 then -(a : Int) - 1 else (a : Int))) w := by
  rw [← xor_negb a b hb ha]
  simp only [binOp, Op.intBits, IntKind.bits]
  simp only [ne_eq, not_true_eq_false, if_false, Sem.run_pure]
  rfl
/-- a number without a sign that an int holds -/
theorem WL.c_u64_i64s {src dst : TypeId} {b : UInt64} {n : Nat} (hk : P.underlying src = some (.int .u64)) (ht : P.underlying dst = some (.int .i64)) (hx : ev E x = some (v64 b)) (hb : b.toNat = n ∧ n ≤ 9223372036854775807) (hd : Nat.blt d N = true) (h : WL P ops Q N rest ((d, vi n) :: E) w) : WL P ops Q N (⟨some d, .convert src dst x, ty, pos, af, none⟩ :: rest) E w :=
  WL.conv hk ht hx hd (by rw [wrap_i64 (by omega), hb.1]; exact h)
/-- to the left by a count that stands in an int -/
theorem WL.shlv {a : UInt64} {m : Int} (n : Nat) (hx : ev E x = some (v64 a)) (hy : ev E y = some (vi m)) (hm : m = (n : Int) ∧ n < 64) (hd : Nat.blt d N = true) (h : WL P ops Q N rest ((d, v64 (a <<< UInt64.ofNat n)) :: E) w) : WL P ops Q N (⟨some d, .binOp .shl t x y tb, ty, pos, af, none⟩ :: rest) E w :=
  WL.num hx hy (by rw [hm.1]; exact n_shl64 _ _ _ _ n hm.2) hd h
theorem WL.shrv {a : UInt64} {m : Int} (n : Nat) (hx : ev E x = some (v64 a)) (hy : ev E y = some (vi m)) (hm : m = (n : Int) ∧ n < 64) (hd : Nat.blt d N = true) (h : WL P ops Q N rest ((d, v64 (a >>> UInt64.ofNat n)) :: E) w) : WL P ops Q N (⟨some d, .binOp .shr t x y tb, ty, pos, af, none⟩ :: rest) E w :=
  WL.num hx hy (by rw [hm.1]; exact n_shr64 _ _ _ _ n hm.2) hd h
theorem WL.quo64i {m n : Int} (hx : ev E x = some (vi m)) (hy : ev E y = some (vi n)) (hb : 0 ≤ m ∧ m ≤ 9223372036854775807 ∧ 0 < n) (hd : Nat.blt d N = true) (h : WL P ops Q N rest ((d, vi (m / n)) :: E) w) : WL P ops Q N (⟨some d, .binOp .quo t x y tb, ty, pos, af, none⟩ :: rest) E w :=
  WL.quok hx hy (by omega) hd (by
    have e : m.tdiv n = m / n := Int.tdiv_eq_ediv_of_nonneg hb.1
    have h1 : 0 ≤ m / n := Int.ediv_nonneg hb.1 (by omega)
    have h2 : m / n ≤ m := Int.ediv_le_self _ hb.1
    rw [e, wrap_i64 (by omega)]
    exact h)
theorem WL.rem64i {m n : Int} (hx : ev E x = some (vi m)) (hy : ev E y = some (vi n)) (hb : 0 ≤ m ∧ 0 < n) (hd : Nat.blt d N = true) (h : WL P ops Q N rest ((d, vi (m % n)) :: E) w) : WL P ops Q N (⟨some d, .binOp .rem t x y tb, ty, pos, af, none⟩ :: rest) E w :=
  WL.remk hx hy (by omega) hd (by
    have e : m.tmod n = m % n := Int.tmod_eq_emod_of_nonneg hb.1
    rw [e]
    exact h)
theorem WL.aeql {xs ys : Array Value} {b : Bool} (hg : P.eqGuardType P.depth t = false) (he : ∀ w, (Op.equalIn 10000 t (.agg xs) (.agg ys)).run P w = .ok b w) (hx : ev E x = some (.agg xs)) (hy : ev E y = some (.agg ys)) (hd : Nat.blt d N = true) (h : WL P ops Q N rest ((d, .bool b) :: E) w) :
    WL P ops Q N (⟨some d, .binOp .eql t x y tb, ty, pos, af, none⟩ :: rest) E w :=
  WL.run _ w (fun a ha => by simp [execOp, ev_eval ha hx, ev_eval ha hy, run_eqGuard_agg _ _ _ _ _ _ _ hg, run_eql_struct, he]) hd h
theorem WL.aneq {xs ys : Array Value} {p : Prop} [Decidable p] (hg : P.eqGuardType P.depth t = false) (he : ∀ w, (Op.equalIn 10000 t (.agg xs) (.agg ys)).run P w = .ok (decide p) w) (hx : ev E x = some (.agg xs)) (hy : ev E y = some (.agg ys)) (hd : Nat.blt d N = true) (h : WL P ops Q N rest ((d, .bool (decide (¬ p))) :: E) w) :
    WL P ops Q N (⟨some d, .binOp .neq t x y tb, ty, pos, af, none⟩ :: rest) E w :=
  WL.run _ w (fun a ha => by simp [execOp, ev_eval ha hx, ev_eval ha hy, run_eqGuard_agg _ _ _ _ _ _ _ hg, run_neq_struct, he]) hd h
theorem WL.aeql? {xs ys : Array Value} {p : Prop} [Decidable p] (hg : P.eqGuardType P.depth t = false) (he : ∀ w, (Op.equalIn 10000 t (.agg xs) (.agg ys)).run P w = .ok (decide p) w) (hx : ev E x = some (.agg xs)) (hy : ev E y = some (.agg ys)) (hd : Nat.blt d N = true) (ht : p → WL P ops Q N rest ((d, .bool true) :: E) w) (hf : ¬ p → WL P ops Q N rest ((d, .bool false) :: E) w) :
    WL P ops Q N (⟨some d, .binOp .eql t x y tb, ty, pos, af, none⟩ :: rest) E w :=
  WL.aeql hg he hx hy hd (by by_cases h : p; · simpa [h] using ht h
                             · simpa [h] using hf h)
theorem WL.aneq? {xs ys : Array Value} {p : Prop} [Decidable p] (hg : P.eqGuardType P.depth t = false) (he : ∀ w, (Op.equalIn 10000 t (.agg xs) (.agg ys)).run P w = .ok (decide p) w) (hx : ev E x = some (.agg xs)) (hy : ev E y = some (.agg ys)) (hd : Nat.blt d N = true) (ht : ¬ p → WL P ops Q N rest ((d, .bool true) :: E) w) (hf : p → WL P ops Q N rest ((d, .bool false) :: E) w) :
    WL P ops Q N (⟨some d, .binOp .neq t x y tb, ty, pos, af, none⟩ :: rest) E w :=
  WL.aneq hg he hx hy hd (by by_cases h : p; · simpa [h] using hf h
                             · simpa [h] using ht h)
end

/-! the fields of structs that are compared -/
section
variable {P : Program} {d : Nat} {xs ys : Array Value} {f : Field} {fs : List Field} {a b : Value} {r s : Bool} {w : World}
theorem eqf_nil : (Op.eqFields d xs ys []).run P w = .ok true w := by simp [Op.eqFields]
theorem eqf_cons (hn : (f.name == "_") = false) (ha : (part f.type xs f.offset).run P w = .ok a w) (hb : (part f.type ys f.offset).run P w = .ok b w) (he : (Op.equalIn d f.type a b).run P w = .ok r w) (hr : (Op.eqFields d xs ys fs).run P w = .ok s w) : (Op.eqFields d xs ys (f :: fs)).run P w = .ok (r && s) w := by
  have hn' : f.name ≠ "_" := by simpa using hn
  rw [Op.eqFields]
  simp only [if_pos hn', Sem.run_bind, ha, hb, he, Result.andThen_ok]
  cases r
  · simp
  · simpa using hr
theorem eqA_of {t : TypeId} {fs : Array Field} (hu : P.underlying t = some (.struct fs)) (hp : P.stoodInHeld t = false) (h : (Op.eqFields d xs ys fs.toList).run P w = .ok r w) : (Op.equalIn (d + 1) t (.agg xs) (.agg ys)).run P w = .ok r w := by
  have hf : P.fieldsOf t = fs := by simp [Program.fieldsOf, hu]
  rw [run_equalIn_struct (P := P) w d t xs ys (by rw [hf]; exact hu) hp, hf]
  exact h
theorem part1 {t : TypeId} {cs : List Value} {o : Nat} {v : Value} (hs : ∀ w, (sizeOf t).run P w = .ok 1 w) (hg : ∀ w, (isAgg t).run P w = .ok false w) (hv : cs[o]? = some v) : (part t cs.toArray o).run P w = .ok v w := by
  simp [part, hs, hg, hv]
end
end Go.HL
namespace Go.HL
open Go.RowKit
section
variable {P : Program} {ops : Array Oper} {Q : Exit → Act → World → Prop} {N : Nat} {E : Env} {w : World} {rest : List Oper}
  {d : Nat} {ty : TypeId} {pos : String} {af : Array Edge} {t tb : TypeId} {x y : Operand}
theorem WL.beql {a b : Bool} (ht : P.underlying t = some .bool) (hx : ev E x = some (.bool a)) (hy : ev E y = some (.bool b)) (hd : Nat.blt d N = true) (h : WL P ops Q N rest ((d, .bool (a == b)) :: E) w) :
    WL P ops Q N (⟨some d, .binOp .eql t x y tb, ty, pos, af, none⟩ :: rest) E w :=
  WL.run _ w (fun c ha => by simp [execOp, ev_eval ha hx, ev_eval ha hy, eqGuard, binOp, run_equal_bool w t a b ht]) hd h
theorem WL.bneq {a b : Bool} (ht : P.underlying t = some .bool) (hx : ev E x = some (.bool a)) (hy : ev E y = some (.bool b)) (hd : Nat.blt d N = true) (h : WL P ops Q N rest ((d, .bool (!(a == b))) :: E) w) :
    WL P ops Q N (⟨some d, .binOp .neq t x y tb, ty, pos, af, none⟩ :: rest) E w :=
  WL.run _ w (fun c ha => by simp [execOp, ev_eval ha hx, ev_eval ha hy, eqGuard, binOp, run_equal_bool w t a b ht]) hd h
theorem WL.bneqF {a b : Bool} (ht : P.underlying t = some .bool) (hx : ev E x = some (.bool a)) (hy : ev E y = some (.bool b)) (hab : a = b) (hd : Nat.blt d N = true) (h : WL P ops Q N rest ((d, .bool false) :: E) w) :
    WL P ops Q N (⟨some d, .binOp .neq t x y tb, ty, pos, af, none⟩ :: rest) E w :=
  WL.bneq ht hx hy hd (by subst hab; simpa using h)
theorem WL.maxi {k : IntKind} {m n : Int} {ats : Array TypeId} (hx : ev E x = some (.int k m)) (hy : ev E y = some (.int k n)) (hd : Nat.blt d N = true) (h : WL P ops Q N rest ((d, .int k (if n > m then n else m)) :: E) w) :
    WL P ops Q N (⟨some d, .call ⟨.builtin .max, #[x, y], ats⟩, ty, pos, af, none⟩ :: rest) E w :=
  WL.run _ w (fun c ha => by simp [execOp, resolve, invoke, builtin, ev_eval ha hx, ev_eval ha hy, run_max_int2]) hd h
theorem WL.mini {k : IntKind} {m n : Int} {ats : Array TypeId} (hx : ev E x = some (.int k m)) (hy : ev E y = some (.int k n)) (hd : Nat.blt d N = true) (h : WL P ops Q N rest ((d, .int k (if n < m then n else m)) :: E) w) :
    WL P ops Q N (⟨some d, .call ⟨.builtin .min, #[x, y], ats⟩, ty, pos, af, none⟩ :: rest) E w :=
  WL.run _ w (fun c ha => by simp [execOp, resolve, invoke, builtin, ev_eval ha hx, ev_eval ha hy, run_min_int2]) hd h
end
end Go.HL
namespace Go.HL
open Go.RowKit
section
variable {P : Program} {ops : Array Oper} {Q : Exit → Act → World → Prop} {N : Nat} {E : Env} {w : World} {rest : List Oper}
  {d : Nat} {ty : TypeId} {pos : String} {af : Array Edge} {t tb : TypeId} {x y : Operand}
/-- a whole block is read -/
theorem WL.loadsB {e : TypeId} {b k : Nat} {cs : List Value} (ha : ∀ w, (isAgg t).run P w = .ok true w) (hs : ∀ w, (sizeOf t).run P w = .ok k w) (hb : Blk w b e cs) (hx : ev E x = some (.pointer (some ⟨b, 0, none⟩))) (hk : cs.length = k) (hd : Nat.blt d N = true) (h : WL P ops Q N rest ((d, .agg cs.toArray) :: E) w) :
    WL P ops Q N (⟨some d, .load t x, ty, pos, af, none⟩ :: rest) E w :=
  WL.loads cs ha hs hx (fun j v hj => by rw [Nat.zero_add]; exact hb.cell hj) hk hd h
variable {fn : Func} {R : Ending → World → Prop}
theorem run_loadVarB {T e : TypeId} {b k : Nat} {cs : List Value} (ha : ∀ w, (isAgg T).run P w = .ok true w) (hs : ∀ w, (sizeOf T).run P w = .ok k w) (hb : Blk w b e cs) (hk : cs.length = k) : (loadVar T ⟨b, 0, none⟩).run P w = .ok (.agg cs.toArray) w := by
  have hl := run_loadCells_list (P := P) w ⟨b, 0, none⟩ cs (fun j v hj => by rw [Addr.add_lit, Nat.zero_add]; exact hb.cell hj)
  rw [hk] at hl
  simp [loadVar, ha, hs, hl]
theorem WX.ret1c {x : Exit} (hx : x = .ret ∨ x = .normal) {t T e : TypeId} {b k : Nat} {cs : List Value} (h : fn.results = #[.cell t T]) (ha : ∀ w, (isAgg T).run P w = .ok true w) (hs : ∀ w, (sizeOf T).run P w = .ok k w) (hb : Blk w b e cs) (hv : E.lookup t = some (.pointer (some ⟨b, 0, none⟩))) (hk : cs.length = k)
    (hR : R (.returned (.agg cs.toArray)) w) : WX (bodyPost P fn R) x N E w :=
  WX.retOf hx _ (fun a hh => by
    have h1 := getD_of hh hv
    simp only [Array.getD_eq_getD_getElem?] at h1
    have h2 := run_loadVarB ha hs hb hk
    simp [results, h, h1, asAddr, h2]) hR
theorem WX.ret2c {x : Exit} (hx : x = .ret ∨ x = .normal) {t u T e : TypeId} {b k : Nat} {cs : List Value} {v : Value} (h : fn.results = #[.cell t T, .tmp u]) (ha : ∀ w, (isAgg T).run P w = .ok true w) (hs : ∀ w, (sizeOf T).run P w = .ok k w) (hb : Blk w b e cs) (hv : E.lookup t = some (.pointer (some ⟨b, 0, none⟩))) (hk : cs.length = k)
    (hu : E.lookup u = some v) (hR : R (.returned (.tuple #[.agg cs.toArray, v])) w) : WX (bodyPost P fn R) x N E w :=
  WX.retOf hx _ (fun a hh => by
    have h1 := getD_of hh hv
    have h3 := getD_of hh hu
    simp only [Array.getD_eq_getD_getElem?] at h1 h3
    have h2 := run_loadVarB ha hs hb hk
    simp [results, h, h1, h3, asAddr, h2]) hR
end
end Go.HL
namespace Go.HL
open Go.RowKit

/-! arrays, rows made of zeros, slices that are nil, marks -/
section
variable {P : Program} {ops : Array Oper} {Q : Exit → Act → World → Prop} {N : Nat} {E : Env} {w : World} {rest : List Oper}
  {d : Nat} {ty : TypeId} {pos : String} {af : Array Edge} {t tb T : TypeId} {x y : Operand} {α : Type} {e : Enc α} {S : Nat → Prop}
theorem WL.nilCheck {ad : Addr} (hx : ev E x = some (.pointer (some ad))) (hd : Nat.blt d N = true) (h : WL P ops Q N rest ((d, .pointer (some ad)) :: E) w) : WL P ops Q N (⟨some d, .nilCheck x, ty, pos, af, none⟩ :: rest) E w :=
  WL.run _ w (fun a ha => by simp [execOp, ev_eval ha hx]) hd h
/-- a place in an array of one-cell elements that begins its block -/
theorem WL.indexArr {b n : Nat} {k : IntKind} {i : Int} (j : Nat) (ht : P.underlying t = some (.array n T)) (hs : ∀ w, (sizeOf T).run P w = .ok 1 w) (hx : ev E x = some (.pointer (some ⟨b, 0, none⟩))) (hy : ev E y = some (.int k i)) (hi : i = (j : Int) ∧ j < n) (hd : Nat.blt d N = true)
    (h : WL P ops Q N rest ((d, .pointer (some ⟨b, j, none⟩)) :: E) w) : WL P ops Q N (⟨some d, .indexAddr t x y, ty, pos, af, none⟩ :: rest) E w :=
  WL.run _ w (fun a ha => by
    obtain ⟨rfl, hj⟩ := hi
    have h2 : ((j : Int) < (n : Int)) := by omega
    simp [execOp, ev_eval ha hx, ev_eval ha hy, Instr.indexAt, asIntOf, run_underlying ht, hs, Instr.sureAddr, hj, Addr.add_lit]) hd h
/-- an element of an array that is a value -/
theorem WL.indexV {n : Nat} {k : IntKind} {i : Int} {cs : List Value} {v : Value} (j : Nat) (ht : P.underlying t = some (.array n T)) (hs : ∀ w, (sizeOf T).run P w = .ok 1 w) (hg : ∀ w, (isAgg T).run P w = .ok false w) (hx : ev E x = some (.agg cs.toArray)) (hy : ev E y = some (.int k i)) (hi : i = (j : Int) ∧ j < n) (hv : cs[j]? = some v) (hd : Nat.blt d N = true)
    (h : WL P ops Q N rest ((d, v) :: E) w) : WL P ops Q N (⟨some d, .index t x y, ty, pos, af, none⟩ :: rest) E w :=
  WL.run _ w (fun a ha => by
    obtain ⟨rfl, hj⟩ := hi
    simp [execOp, ev_eval ha hx, ev_eval ha hy, Instr.index, asIntOf, run_underlying ht, hs, hg, part, hj, hv]) hd h
theorem WL.isNil {T : TypeId} {ao : Option Addr} {n c : Nat} (ht : P.underlying t = some (.slice T)) (hx : ev E x = some (.slice ao n c)) (hy : ev E y = some (.slice none 0 0)) (hd : Nat.blt d N = true) (h : WL P ops Q N rest ((d, .bool ao.isNone) :: E) w) :
    WL P ops Q N (⟨some d, .binOp .eql t x y tb, ty, pos, af, none⟩ :: rest) E w :=
  WL.run _ w (fun a ha => by simp [execOp, ev_eval ha hx, ev_eval ha hy, eqGuard, binOp, run_equal_slice_nil w t T ao n c ht]) hd h
theorem WL.notNil {T : TypeId} {ao : Option Addr} {n c : Nat} (ht : P.underlying t = some (.slice T)) (hx : ev E x = some (.slice ao n c)) (hy : ev E y = some (.slice none 0 0)) (hd : Nat.blt d N = true) (h : WL P ops Q N rest ((d, .bool (!ao.isNone)) :: E) w) :
    WL P ops Q N (⟨some d, .binOp .neq t x y tb, ty, pos, af, none⟩ :: rest) E w :=
  WL.run _ w (fun a ha => by simp [execOp, ev_eval ha hx, ev_eval ha hy, eqGuard, binOp, run_equal_slice_nil w t T ao n c ht]) hd h
theorem WL.isNil? {T : TypeId} {ao : Option Addr} {n c : Nat} (ht : P.underlying t = some (.slice T)) (hx : ev E x = some (.slice ao n c)) (hy : ev E y = some (.slice none 0 0)) (hd : Nat.blt d N = true) (hT : ao = none → WL P ops Q N rest ((d, .bool true) :: E) w) (hf : ao ≠ none → WL P ops Q N rest ((d, .bool false) :: E) w) :
    WL P ops Q N (⟨some d, .binOp .eql t x y tb, ty, pos, af, none⟩ :: rest) E w :=
  WL.isNil ht hx hy hd (by cases ao with
    | none => exact hT rfl
    | some a => exact hf (by simp))
/-- the complement -/
theorem WL.not32 {b : UInt32} (hx : ev E x = some (v32 b)) (hd : Nat.blt d N = true) (h : WL P ops Q N rest ((d, v32 (~~~b)) :: E) w) : WL P ops Q N (⟨some d, .unOp .xor t x, ty, pos, af, none⟩ :: rest) E w :=
  WL.run _ w (fun a ha => by
    have e1 : IntKind.u32.max = ((4294967295 : UInt32).toNat : Int) := by decide
    have e2 : (Op.intBits .xor .u32 ((4294967295 : UInt32).toNat : Int) (b.toNat : Int)).run P w = .ok (v32 ((4294967295 : UInt32) ^^^ b)) w := by
      have := n_xor32 (P := P) 0 w 4294967295 b
      simpa [binOp] using this
    have e3 : (4294967295 : UInt32) ^^^ b = ~~~b := by
      apply UInt32.toBitVec_inj.1
      show 4294967295#32 ^^^ b.toBitVec = ~~~b.toBitVec
      rw [← BitVec.allOnes_xor]
      rfl
    rw [e3] at e2
    have e4 : (Op.intBits .xor .u32 4294967295 (b.toNat : Int)).run P w = .ok (v32 (~~~b)) w := e2
    simp only [execOp, ev_eval ha hx, Op.unary, show IntKind.u32.signed = false from rfl, e1]
    simp [e4]) hd h
theorem WL.shl32v {a : UInt32} {m : Int} {k : IntKind} (n : Nat) (hx : ev E x = some (v32 a)) (hy : ev E y = some (.int k m)) (hm : m = (n : Int) ∧ n < 32) (hd : Nat.blt d N = true) (h : WL P ops Q N rest ((d, v32 (a <<< UInt32.ofNat n)) :: E) w) : WL P ops Q N (⟨some d, .binOp .shl t x y tb, ty, pos, af, none⟩ :: rest) E w :=
  WL.num hx hy (by rw [hm.1]; exact n_shl32 _ _ _ _ n hm.2) hd h
theorem WL.shr32v {a : UInt32} {m : Int} {k : IntKind} (n : Nat) (hx : ev E x = some (v32 a)) (hy : ev E y = some (.int k m)) (hm : m = (n : Int) ∧ n < 32) (hd : Nat.blt d N = true) (h : WL P ops Q N rest ((d, v32 (a >>> UInt32.ofNat n)) :: E) w) : WL P ops Q N (⟨some d, .binOp .shr t x y tb, ty, pos, af, none⟩ :: rest) E w :=
  WL.num hx hy (by rw [hm.1]; exact n_shr32 _ _ _ _ n hm.2) hd h
/-- a row of zeros -/
theorem make_cells (z : Array Value) (z0 : α) (n c : Nat) (hz : z.toList = e.f z0) (hnc : n ≤ c) : (madeCells z (c * e.sz)).toList.take (n * e.sz) = e.all (List.replicate n z0) := by
  have hsz : z.size = e.sz := by rw [← e.len z0, ← hz, Array.length_toList]
  have hp := e.pos
  apply List.ext_getElem?
  intro j
  have hlen : (e.all (List.replicate n z0)).length = n * e.sz := by rw [Enc.all_len]; simp
  by_cases hj : j < n * e.sz
  · have hjc : j < c * e.sz := Nat.lt_of_lt_of_le hj (Nat.mul_le_mul_right _ hnc)
    have hq : j % e.sz < e.sz := Nat.mod_lt _ hp
    have hd : j / e.sz < n := Nat.div_lt_of_lt_mul (by rw [Nat.mul_comm]; exact hj)
    have h1 := e.all_at (xs := List.replicate n z0) (j := j / e.sz) (x := z0) (by simp [hd]) hq
    rw [show j / e.sz * e.sz + j % e.sz = j from by rw [Nat.mul_comm]; exact Nat.div_add_mod j e.sz] at h1
    rw [h1, List.getElem?_take_of_lt hj]
    simp only [madeCells, Array.getElem?_toList, Array.getElem?_map, Array.getElem?_range, hjc, if_true, Option.map_some, hsz]
    have h2 : j % e.sz < z.size := by omega
    rw [← hz, Array.getElem?_toList, Array.getElem?_eq_getElem h2]
    simp [h2]
  · rw [List.getElem?_eq_none (by simp; omega), List.getElem?_eq_none (by omega)]
theorem WL.make {lo hi : Operand} {kl kc : IntKind} {l c : Int} {bytes : Nat} {z : Value} (z0 : α) (n m : Nat) (ht : P.underlying t = some (.slice T)) (hinfo : (P.info? T).map (fun i => (i.zero, i.size, i.bytes)) = some (some z, e.sz, bytes)) (hz : z.cells.toList = e.f z0)
    (hl : ev E lo = some (.int kl l)) (hc : ev E hi = some (.int kc c)) (hn : l = (n : Int) ∧ c = (m : Int) ∧ n ≤ m) (hb : bytes * m ≤ 140737488355328 ∧ m ≤ 9223372036854775807) (hd : Nat.blt d N = true)
    (h : ∀ g w', Row (w.heap.size ≤ ·) w' T e (some ⟨g, 0, none⟩) m (List.replicate n z0) → Chg Nob w w' → w'.heap.size = w.heap.size + 1 → g = w.heap.size → WL P ops Q N rest ((d, .slice (some ⟨g, 0, none⟩) (List.replicate n z0).length m) :: E) w') :
    WL P ops Q N (⟨some d, .makeSlice t lo hi, ty, pos, af, none⟩ :: rest) E w := by
  obtain ⟨i, hi1, h1, h2, h3⟩ := info_parts hinfo
  obtain ⟨rfl, rfl, hnm⟩ := hn
  have hbb : (bytes : Int) * (m : Int) ≤ 281474976710656 := by
    have : ((bytes * m : Nat) : Int) ≤ 281474976710656 := by omega
    rwa [Int.natCast_mul] at this
  have hr := run_make (P := P) w t T i z ht hi1 h1 kl kc (n : Int) (m : Int) (by omega) (by omega) (by rw [h3]; exact hbb) (by omega)
  simp only [Int.toNat_natCast, h2] at hr
  refine WL.run (.slice (some ⟨w.heap.size, 0, none⟩) n m) (w.alloc (.cells (madeCells z.cells (m * e.sz)) T)) (fun a ha => by simp [execOp, ev_eval ha hl, ev_eval ha hc, hr]) hd ?_
  have hsz : (madeCells z.cells (m * e.sz)).size = m * e.sz := by simp [madeCells]
  have := h w.heap.size (w.alloc (.cells (madeCells z.cells (m * e.sz)) T)) ⟨fun a ea => by injection ea with ea; subst ea; exact Nat.le_refl _, ?_⟩ (Chg.alloc _ _) (by simp) rfl
  · simpa using this
  · refine ⟨by rw [Enc.all_len], by simpa using hnm, .inr ⟨w.heap.size, _, (0, 0), rfl, ?_, ?_, ?_, hsz, ?_⟩⟩
    · show (w.heap.push _)[w.heap.size]? = _
      simp
    · intro j _ hh; omega
    · simpa [maxLen] using hb.2
    · rw [List.length_replicate]
      exact make_cells _ _ _ _ hz hnm
/-- bytes of the call's own turned to bytes: a mark is laid behind their end -/
theorem WL.mark {ao : Option Addr} {c : Nat} {xs : List UInt8} (ht : P.underlying t = some (.slice T)) (hT : P.underlying T = some (.int .u8)) (hr : Row S w T eb ao c xs) (hne : xs ≠ []) (hx : ev E x = some (.slice ao xs.length c)) (hd : Nat.blt d N = true)
    (h : ∀ w', RSl S w' eb ao c xs → Chg (fun b => Eqb ao b ∧ S b) w w' → w'.heap.size = w.heap.size → WL P ops Q N rest ((d, .slice ao xs.length c) :: E) w') :
    WL P ops Q N (⟨some d, .convert t t x, ty, pos, af, none⟩ :: rest) E w := by
  cases ao with
  | none => exact absurd hr.rsl.none_nil hne
  | some a =>
    rcases hr.own.2.2 with ⟨h0, _⟩ | ⟨g, cur, fr, ea, hg, hfr, hcm, hcs, htk⟩
    · cases h0
    · injection ea with ea
      subst ea
      have hsh : w.shape? g = some (T, cur.size) := by simp [World.shape?, hg]
      have hmark : (markStringish ⟨g, 0, none⟩).run P w = .ok () (w.freeze ⟨g, cur.size, none⟩ 1) := by
        simp [markStringish, hsh]
      have hfz : (w.freeze ⟨g, cur.size, none⟩ 1).heap[g]? = some (.cells cur T (if fr.1 == fr.2 then (cur.size, cur.size + 1) else (min fr.1 cur.size, max fr.2 (cur.size + 1)))) := by
        simp only [World.freeze]
        rw [if_neg (by decide)]
        simp only [Array.getElem?_modify, hg, if_true, Option.map_some]
      have hk : Chg (fun b => Eqb (some (⟨g, 0, none⟩ : Addr)) b ∧ S b) w (w.freeze ⟨g, cur.size, none⟩ 1) := by
        have hS : S g := hr.at_ _ rfl
        refine ⟨rfl, rfl, rfl, by simp [World.freeze], fun k hk hm => ?_⟩
        have hne : k ≠ g := fun e => hm ⟨⟨_, rfl, e⟩, e ▸ hS⟩
        simp only [World.freeze]
        rw [if_neg (by decide)]
        rw [Array.getElem?_modify, if_neg (fun e => hne e.symm)]
      refine WL.run _ (w.freeze ⟨g, cur.size, none⟩ 1) (fun a ha => ?_) hd (h _ ⟨fun _ => hr.at_, hr.own.cap, hr.own.1, fun j u hj => ?_⟩ hk (by simp [World.freeze]))
      · simp [execOp, ev_eval ha hx, convert, run_underlying ht, run_underlying hT, hmark]
      · obtain ⟨b, off, e1, hc⟩ := hr.rsl.sl.2 j u hj
        injection e1 with e1
        injection e1 with e1 e2
        subst e1; subst e2
        refine ⟨_, _, rfl, ?_⟩
        unfold World.cell? at hc ⊢
        simp only [hg, hfz] at hc ⊢
        exact hc
end
end Go.HL
namespace Go.HL
open Go.RowKit
section
variable {P : Program} {ops : Array Oper} {Q : Exit → Act → World → Prop} {N : Nat} {E : Env} {w : World} {rest : List Oper}
  {d : Nat} {ty : TypeId} {pos : String} {af : Array Edge} {t tb T : TypeId}
/-- an array whose elements are all written out, each of one cell -/
theorem WL.buildArr {n : Nat} {ps : List (Nat × Operand)} {z : Value} (vs : List Value) (ht : P.underlying t = some (.array n T)) (hs : ∀ w, (sizeOf T).run P w = .ok 1 w) (hz : ∀ w, (zeroValue t).run P w = .ok z w) (hzs : z.cells.size = n)
    (hx : evp E 0 ps = some vs) (hn : vs.length = n) (hv1 : ∀ v ∈ vs, v.cells = #[v]) (hd : Nat.blt d N = true)
    (h : WL P ops Q N rest ((d, .agg vs.toArray) :: E) w) : WL P ops Q N (⟨some d, .build t ps.toArray, ty, pos, af, none⟩ :: rest) E w :=
  WL.run _ w (fun a ha => by
    obtain ⟨h1, h2⟩ := evp_eval ha hx
    have hf := fill_enum 1 vs 0 z.cells (fun v hv => by rw [hv1 v hv]; rfl) (by rw [hzs, ← hn]; omega)
    have hflat : vs.flatMap (·.cells.toList) = vs := by
      clear hx hn h h2 h1 hf
      induction vs with
      | nil => rfl
      | cons v r ih => rw [List.flatMap_cons, hv1 v (by simp), ih (fun u hu => hv1 u (by simp [hu]))]; rfl
    rw [hflat] at hf
    simp only [Nat.zero_mul, List.take_zero, List.nil_append, Nat.mul_one] at hf
    simp [execOp, h1, Instr.build, hz, run_underlying ht, hs, hf]) hd h
theorem map_at {α β : Type} {xs : List α} {j : Nat} {x : α} (f : α → β) (h : xs[j]? = some x) : (xs.map f)[j]? = some (f x) := by simp [h]
end
end Go.HL
namespace Go.HL
open Go.RowKit
section
variable {P : Program} (t : TypeId) (w : World)
theorem n_quo8 (a b : UInt8) (hb : b.toNat ≠ 0) : (binOp .quo t (v8 a) (v8 b)).run P w = .ok (v8 (a / b)) w := by
  have : ¬ ((b.toNat : Int) = 0) := by omega
  have h2 : ((a.toNat : Int).tdiv (b.toNat : Int)) = ((a.toNat / b.toNat : Nat) : Int) := rfl
  have h3 : (UInt8.ofNat (a.toNat / b.toNat)) = a / b := by
    apply UInt8.toNat_inj.1
    simp
    exact Nat.lt_of_le_of_lt (Nat.div_le_self _ _) a.toNat_lt
  simp only [binOp, Op.intDiv, if_neg this, h2, wrap8, h3]; simp
theorem n_rem8 (a b : UInt8) (hb : b.toNat ≠ 0) : (binOp .rem t (v8 a) (v8 b)).run P w = .ok (v8 (a % b)) w := by
  have : ¬ ((b.toNat : Int) = 0) := by omega
  simp only [binOp, Op.intDiv, if_neg this]; simp [this]
  congr 2
end
section
variable {P : Program} {ops : Array Oper} {Q : Exit → Act → World → Prop} {N : Nat} {E : Env} {w : World} {rest : List Oper} {ty : TypeId} {pos : String} {af : Array Edge} {α : Type} {e : Enc α} {S : Nat → Prop} {t T : TypeId} {x y : Operand}
theorem all_set (e : Enc α) (h1 : e.sz = 1) {z : α} {v : Value} (hz : e.f z = [v]) : ∀ (xs : List α) (j : Nat), e.all (xs.set j z) = (e.all xs).set j v
  | [], j => by simp [Enc.all]
  | x :: r, 0 => by
    have hl := e.len x
    rw [h1] at hl
    obtain ⟨u, hu⟩ := List.length_eq_one_iff.1 hl
    simp [Enc.all, hz, hu]
  | x :: r, j + 1 => by
    have hl := e.len x
    rw [h1] at hl
    obtain ⟨u, hu⟩ := List.length_eq_one_iff.1 hl
    have ih := all_set e h1 hz r j
    simp only [Enc.all] at ih
    simp [Enc.all, hu, ih]
theorem Row.place0 {T : TypeId} {ao : Option Addr} {c : Nat} {xs : List α} {j : Nat} (hr : Row S w T e ao c xs) (hz : j < xs.length) : ∃ g, ao = some ⟨g, 0, none⟩ := by
  rcases hr.own.2.2 with ⟨rfl, _⟩ | ⟨g, _, _, rfl, _⟩
  · have := hr.rsl.none_nil
    subst this
    simp at hz
  · exact ⟨g, rfl⟩
theorem WL.storeRow {g o c : Nat} {xs : List α} {z : α} {v : Value} (j : Nat) (hs : ∀ w, (sizeOf t).run P w = .ok 1 w) (hr : Row S w T e (some ⟨g, 0, none⟩) c xs) (h1 : e.sz = 1) (hz : e.f z = [v]) (hx : ev E x = some (.pointer (some ⟨g, o, none⟩))) (ho : o = j) (hj : j < xs.length) (hy : ev E y = some v)
    (h : ∀ w', w'.heap.size = w.heap.size → Row S w' T e (some ⟨g, 0, none⟩) c (xs.set j z) → Chg (· = g) w w' → WL P ops Q N rest E w') :
    WL P ops Q N (⟨none, .store t x y, ty, pos, af, none⟩ :: rest) E w := by
  subst ho
  have hv1 : v.oneCell' = true := e.one z v (by rw [hz]; simp)
  have hr' := hr
  obtain ⟨hat, hlen, hcap, hc | ⟨g', cur, fr, hg', hg, hfr, hmax, hsz, htk⟩⟩ := hr
  · cases hc.1
  · cases hg'
    rw [h1] at hsz htk hlen
    simp only [Nat.mul_one] at hsz htk hlen
    have hoc : o < cur.size := by omega
    refine WL.run0 (w.setCell ⟨g, o, none⟩ v) (fun a hh => by
      have hst : (Go.store ⟨g, o, none⟩ v).run P w = .ok () (w.setCell ⟨g, o, none⟩ v) := by
        rw [run_store P w _ v _ hv1]
        have h3 := hfr o hoc
        have hcell : w.cell? ⟨g, o, none⟩ = some (cur[o]'hoc) := by rw [cell_of_row w g o cur T fr hg, Array.getElem?_eq_getElem hoc]
        have hfz : w.frozen? ⟨g, o, none⟩ = false := by
          simp only [World.frozen?, hg]
          simp
          intro hh
          exact Nat.le_of_not_lt (fun hlt => h3 ⟨hh, hlt⟩)
        simp [hcell, hfz]
      have hc1 : v.cells = #[v] := by cases v <;> simp_all [Value.oneCell', Value.cells]
      simp [execOp, ev_eval hh hx, ev_eval hh hy, Instr.storeAt, Instr.sureAddr, storeVar, hs, hc1, storeCells, Addr.add_lit, hst]) (h _ (by simp) ?_ (Chg.setCell w ⟨g, o, none⟩ v))
    have hnew : (w.setCell ⟨g, o, none⟩ v).heap[g]? = some (.cells (cur.setIfInBounds o v) T fr) := by
      simp only [World.setCell, Array.getElem?_modify, hg, if_true, Option.map_some]
      simp
    refine ⟨hat, by rw [all_set e h1 hz, List.length_set, List.length_set, h1, Nat.mul_one]; exact hlen, by simpa using hcap, .inr ⟨g, cur.setIfInBounds o v, fr, rfl, hnew, by simpa using hfr, hmax, by rw [h1, Nat.mul_one]; simpa using hsz, ?_⟩⟩
    rw [all_set e h1 hz, h1, List.length_set, Nat.mul_one, ← htk, Array.toList_setIfInBounds, List.take_set]
end
end Go.HL
namespace Go.HL
open Go.RowKit
section
variable {P : Program} {ops : Array Oper} {Q : Exit → Act → World → Prop} {N : Nat} {E : Env} {w : World} {rest : List Oper} {ty : TypeId} {pos : String} {af : Array Edge} {d : Nat} {α : Type} {e : Enc α} {S : Nat → Prop} {t T : TypeId} {x y : Operand}
/-- a block as a slice from its head on -/
theorem RSl.ofBlk {g c : Nat} {zs : List α} (h : Blk w g T (e.all zs)) (hc : zs.length ≤ c) : RSl (· = g) w e (some ⟨g, 0, none⟩) c zs :=
  ⟨fun _ a ea => by injection ea with ea; subst ea; rfl, hc, by rw [Enc.all_len], fun j u hu => ⟨g, 0, rfl, by rw [Nat.zero_add]; exact h.cell hu⟩⟩
theorem WL.makeB {lo hi : Operand} {kl kc : IntKind} {l c : Int} {bytes : Nat} {z : Value} (z0 : α) (n m : Nat) (ht : P.underlying t = some (.slice T)) (hinfo : (P.info? T).map (fun i => (i.zero, i.size, i.bytes)) = some (some z, e.sz, bytes)) (hz : z.cells.toList = e.f z0)
    (hl : ev E lo = some (.int kl l)) (hc : ev E hi = some (.int kc c)) (hn : l = (n : Int) ∧ c = (m : Int) ∧ n ≤ m) (hb : bytes * m ≤ 140737488355328 ∧ m ≤ 9223372036854775807) (hd : Nat.blt d N = true)
    (h : ∀ g w', Blk w' g T (e.all (List.replicate m z0)) → Chg Nob w w' → w'.heap.size = w.heap.size + 1 → g = w.heap.size → WL P ops Q N rest ((d, .slice (some ⟨g, 0, none⟩) n m) :: E) w') :
    WL P ops Q N (⟨some d, .makeSlice t lo hi, ty, pos, af, none⟩ :: rest) E w := by
  obtain ⟨i, hi1, h1, h2, h3⟩ := info_parts hinfo
  obtain ⟨rfl, rfl, hnm⟩ := hn
  have hbb : (bytes : Int) * (m : Int) ≤ 281474976710656 := by
    have : ((bytes * m : Nat) : Int) ≤ 281474976710656 := by omega
    rwa [Int.natCast_mul] at this
  have hr := run_make (P := P) w t T i z ht hi1 h1 kl kc (n : Int) (m : Int) (by omega) (by omega) (by rw [h3]; exact hbb) (by omega)
  simp only [Int.toNat_natCast, h2] at hr
  refine WL.run (.slice (some ⟨w.heap.size, 0, none⟩) n m) (w.alloc (.cells (madeCells z.cells (m * e.sz)) T)) (fun a ha => by simp [execOp, ev_eval ha hl, ev_eval ha hc, hr]) hd ?_
  refine h w.heap.size (w.alloc (.cells (madeCells z.cells (m * e.sz)) T)) ?_ (Chg.alloc _ _) (by simp) rfl
  have h4 := make_cells (e := e) z.cells z0 m m hz (Nat.le_refl _)
  rw [List.take_of_length_le (by simp [madeCells])] at h4
  rw [← h4]
  have := Blk.new w T (madeCells z.cells (m * e.sz)).toList
  simpa using this
theorem setCells_size (g : Nat) : ∀ (vs : List Value) (o : Nat) (w : World), (w.setCells g o vs).heap.size = w.heap.size
  | [], _, _ => rfl
  | v :: r, o, w => by rw [World.setCells, setCells_size g r]; simp
theorem WL.appendB {tx : TypeId} {s : Operand} {g n c bytes : Nat} {zs ys : List α} {z v : Value} (hinfo : (P.info? T).map (fun i => (i.zero, i.size, i.bytes)) = some (some z, e.sz, bytes))
    (ht : P.underlying t = some (.slice T)) (hs : ev E s = some (.slice (some ⟨g, 0, none⟩) n c)) (hx : ev E x = some v) (ho : Blk w g T (e.all zs)) (hzc : zs.length = c) (hsrc : Src P e.sz tx v ys.length (e.all ys) w)
    (hroom : n + ys.length ≤ c) (hd : Nat.blt d N = true)
    (h : ∀ w', Blk w' g T (e.all (zs.take n ++ ys ++ zs.drop (n + ys.length))) → Chg (· = g) w w' → w'.heap.size = w.heap.size → WL P ops Q N rest ((d, .slice (some ⟨g, 0, none⟩) (n + ys.length) c) :: E) w') :
    WL P ops Q N (⟨some d, .call ⟨.builtin .append, #[s, x], #[t, tx]⟩, ty, pos, af, none⟩ :: rest) E w := by
  obtain ⟨i, hi, h1, h2, h3⟩ := info_parts hinfo
  have hlen : (e.all zs).length = c * e.sz := by rw [Enc.all_len, hzc]
  have hlen2 : (e.all ys).length = ys.length * e.sz := Enc.all_len _ _
  have hfit : n * e.sz + (e.all ys).length ≤ (e.all zs).length := by rw [hlen, hlen2, ← Nat.add_mul]; exact Nat.mul_le_mul_right _ hroom
  have hfit2 : n * i.size + (e.all ys).length ≤ (e.all zs).toArray.size := by rw [h2]; simpa using hfit
  have hr := run_append_room_src (P := P) w t tx ty T i ht hi g 0 n c v ys.length (e.all ys) (by rw [h2]; exact hsrc) hroom
    (fun j hj => by rw [Nat.zero_add, cell_of_row w g _ (e.all zs).toArray T (0, 0) ho]; rw [Array.getElem?_eq_getElem (by omega)]; rfl)
    (fun j hj => ho.free _)
  rw [Nat.zero_add, h2] at hr
  refine WL.run _ _ (fun a ha => by simp [execOp, resolve, invoke, builtin, ev_eval ha hs, ev_eval ha hx, hr]; rfl) hd (h _ ?_ (setCells_chg g _ _ w) (setCells_size _ _ _ _))
  have hs2 := setCells_blk ho (n * e.sz) (e.all ys) hfit
  rw [Enc.all_append, Enc.all_append, ← Enc.all_take, ← Enc.all_drop, Nat.add_mul, ← hlen2]
  exact hs2
/-- append to a row of the call's own: what it held is read as before at its old place -/
theorem WL.append' {tx : TypeId} {s : Operand} {ao : Option Addr} {c bytes : Nat} {xs ys : List α} {z v : Value} (hinfo : (P.info? T).map (fun i => (i.zero, i.size, i.bytes)) = some (some z, e.sz, bytes)) (hzs : z.cells.size = e.sz)
    (ht : P.underlying t = some (.slice T)) (hs : ev E s = some (.slice ao xs.length c)) (hx : ev E x = some v) (ho : Row S w T e ao c xs) (hsrc : Src P e.sz tx v ys.length (e.all ys) w)
    (hb : (xs.length + ys.length) * bytes ≤ 140737488355328 ∧ xs.length + ys.length ≤ 9223372036854775807) (hS : ∀ b, w.heap.size ≤ b → S b) (hd : Nat.blt d N = true)
    (h : ∀ ao2 c2 w', Row S w' T e ao2 c2 (xs ++ ys) → Grow S w ao w' ao2 → (ao2 = none → xs ++ ys = []) → RSl S w' e ao c xs → WL P ops Q N rest ((d, .slice ao2 (xs ++ ys).length c2) :: E) w') :
    WL P ops Q N (⟨some d, .call ⟨.builtin .append, #[s, x], #[t, tx]⟩, ty, pos, af, none⟩ :: rest) E w := by
  obtain ⟨i, hi, h1, h2, h3⟩ := info_parts hinfo
  obtain ⟨ao', c', w', hr, how, hc, hor, hno⟩ := run_append_hl (P := P) w t tx ty T i z e.sz bytes ht hi h1 h2 h3 hzs ao xs.length c (e.all xs) ho.own v ys.length (e.all ys) hsrc (by simpa [maxLen] using hb.2) hb.1
  refine WL.run _ w' (fun a ha => by simp [execOp, resolve, invoke, builtin, ev_eval ha hs, ev_eval ha hx, hr]; rfl) hd ?_
  rw [← List.length_append]
  have hrow : Row S w' T e ao' c' (xs ++ ys) := ⟨by
    rcases hor with rfl | h5
    · exact ho.at_
    · exact h5.mono hS, by rw [List.length_append, Enc.all_append]; exact how⟩
  refine h ao' c' w' hrow ⟨hc.mono fun b _ hb => ⟨hb.1, ho.at_.eqb hb.1⟩, hor⟩ (fun hn => ?_) ?_
  · obtain ⟨rfl, h6⟩ := hno hn
    have h7 := ho.rsl.none_nil
    subst h7
    simpa using h6
  · by_cases he : ao' = ao
    · subst he
      have := hrow.rsl.take xs.length (by simp)
      rw [List.take_left] at this
      exact ⟨this.at_, ho.rsl.cap, this.sl⟩
    · exact ho.rsl.chg hc (fun b _ _ h9 => he h9.2)
theorem WL.sliceTop {hi : Operand} {ao : Option Addr} {n c h : Nat} {j : IntKind} {xs : List α} (ht : P.underlying t = some (.slice T)) (hs : ∀ w, (sizeOf T).run P w = .ok e.sz w) (hr : RSl S w e ao c xs) (hx : ev E x = some (.slice ao n c))
    (hhi : ev E hi = some (.int j (h : Int))) (hl : h ≤ xs.length) (hd : Nat.blt d N = true)
    (k' : ∀ ao2, RSl S w e ao2 c (xs.take h) → WL P ops Q N rest ((d, .slice ao2 (xs.take h).length c) :: E) w) : WL P ops Q N (⟨some d, .slice t x none (some hi) none, ty, pos, af, none⟩ :: rest) E w := by
  have hcap := hr.cap
  have h1 := hr.cut 0 h ⟨Nat.zero_le _, hl⟩
  rw [List.drop_zero, Nat.sub_zero] at h1
  refine WL.run _ w (fun a ha => ?_) hd (k' _ h1)
  have := run_sliceAt (P := P) (t := t) w ht hs ao n c 0 h .i64 j none (some (.int j (h : Int))) (.inr ⟨rfl, rfl⟩) (.inl ⟨rfl, by omega⟩) (Nat.zero_le _)
  simp [execOp, ev_eval ha hx, ev_eval ha hhi, this]
  omega
end
end Go.HL
namespace Go.HL
open Go.RowKit
/-! more on ints, arrays that lie within a block -/
section
variable {P : Program}
theorem xor_int (a b : Nat) (ha : a < 4611686018427387904) (hb : b < 4611686018427387904) : IntKind.i64.wrap ((BitVec.ofInt 64 (a : Int) ^^^ BitVec.ofInt 64 (b : Int)).toNat : Int) = ((a ^^^ b : Nat) : Int) := by
  have e1 : BitVec.ofInt 64 (a : Int) = BitVec.ofNat 64 a := by simp
  have e2 : BitVec.ofInt 64 (b : Int) = BitVec.ofNat 64 b := by simp
  have h3 : a ^^^ b < 2 ^ 62 := Nat.xor_lt_two_pow (by omega) (by omega)
  rw [e1, e2, BitVec.toNat_xor, BitVec.toNat_ofNat, BitVec.toNat_ofNat, Nat.mod_eq_of_lt (by omega), Nat.mod_eq_of_lt (by omega)]
  exact wrap_i64 (by omega)
theorem n_xori (t : TypeId) (w : World) (a b : Nat) (ha : a < 4611686018427387904) (hb : b < 4611686018427387904) : (binOp .xor t (vi a) (vi b)).run P w = .ok (vi ((a ^^^ b : Nat) : Int)) w := by
  rw [← xor_int a b ha hb]
  simp only [binOp, Op.intBits, IntKind.bits]
  simp only [ne_eq, not_true_eq_false, if_false, Sem.run_pure]
  rfl
theorem n_shli (t : TypeId) (w : World) (a n : Nat) (hn : n < 62) (ha : a * 2 ^ n < 4611686018427387904) (k : IntKind) : (binOp .shl t (vi a) (.int k (n : Int))).run P w = .ok (vi ((a * 2 ^ n : Nat) : Int)) w := by
  have h1 : ¬ ((n : Int) < 0) := by omega
  have h2 : min n 64 = n := by omega
  simp only [binOp, Op.shift, if_neg h1, IntKind.bits, Int.toNat_natCast, h2]
  have h3 : (a : Int) * 2 ^ n = ((a * 2 ^ n : Nat) : Int) := by simp
  rw [h3, wrap_i64 (by omega)]
  rfl
end
section
variable {P : Program} {ops : Array Oper} {Q : Exit → Act → World → Prop} {N : Nat} {E : Env} {w : World} {rest : List Oper} {d : Nat} {ty : TypeId} {pos : String} {af : Array Edge} {t T tb : TypeId} {x y : Operand}
theorem WL.indexArrO {b o n : Nat} {k : IntKind} {i : Int} (j : Nat) (ht : P.underlying t = some (.array n T)) (hs : ∀ w, (sizeOf T).run P w = .ok 1 w) (hx : ev E x = some (.pointer (some ⟨b, o, none⟩))) (hy : ev E y = some (.int k i)) (hi : i = (j : Int) ∧ j < n) (hd : Nat.blt d N = true)
    (h : WL P ops Q N rest ((d, .pointer (some ⟨b, o + j, none⟩)) :: E) w) : WL P ops Q N (⟨some d, .indexAddr t x y, ty, pos, af, none⟩ :: rest) E w :=
  WL.run _ w (fun a ha => by
    obtain ⟨rfl, hj⟩ := hi
    have h2 : ((j : Int) < (n : Int)) := by omega
    simp [execOp, ev_eval ha hx, ev_eval ha hy, Instr.indexAt, asIntOf, run_underlying ht, hs, Instr.sureAddr, hj, Addr.add_lit]) hd h
end
end Go.HL
namespace Go.HL
open Go.RowKit
/-- a row of bytes among others: where it lies, its room, what it holds -/
structure Rw where
  ao : Option Addr
  cap : Nat
  xs : List UInt8
def erow : Enc Rw := ⟨1, fun r => [.slice r.ao r.xs.length r.cap], fun _ => rfl, by simp [Value.oneCell'], by decide⟩
/-- rows of bytes that are read -/
structure RS (S : Nat → Prop) (w : World) (ao : Option Addr) (c : Nat) (rs : List Rw) : Prop where
  outer : RSl S w erow ao c rs
  inner : ∀ r ∈ rs, RSl S w eb r.ao r.cap r.xs
section
variable {S : Nat → Prop} {w w' : World} {ao : Option Addr} {c : Nat} {rs : List Rw} {M : Nat → Prop}
theorem RS.chg (h : RS S w ao c rs) (k : Chg M w w') (hd : ∀ b, b < w.heap.size → S b → M b → False) : RS S w' ao c rs := ⟨h.outer.chg k hd, fun r hr => (h.inner r hr).chg k hd⟩
theorem RS.pure (h : RS S w ao c rs) (k : Chg Nob w w') : RS S w' ao c rs := ⟨h.outer.pure k, fun r hr => (h.inner r hr).pure k⟩
theorem RS.mono {S' : Nat → Prop} (h : RS S w ao c rs) (k : ∀ b, S b → S' b) : RS S' w ao c rs := ⟨h.outer.mono k, fun r hr => (h.inner r hr).mono k⟩
theorem RS.old (h : RS S w ao c rs) : RS (· < w.heap.size) w ao c rs := ⟨h.outer.old, fun r hr => (h.inner r hr).old⟩
theorem RS.at (h : RS S w ao c rs) {i : Nat} {r : Rw} (hr : rs[i]? = some r) : RSl S w eb r.ao r.cap r.xs := h.inner r (List.mem_of_getElem? hr)
end
end Go.HL
namespace Go.HL
open Go.ChangeShapes Go.WideShapes Go.ChangeAt Go.RowKit Go.Deep
section
variable {H : Type} {enc : TypeId × Value → H} {P : Program} {W : World} {α : Type}
/-- cells that are a slice: what it reads, as a list -/
theorem open_trod {t T : TypeId} (ht : P.underlying t = some (.slice T)) (e : Enc α) (WF : α → DataW H → Prop) (hC : P.cellsOf T = e.sz)
    (hel : ∀ (n : Nat) (cs : List Value) (y : DataW H × List MemPlace), cs.length = e.sz → (∀ (q : Nat) (v : Value), cs[q]? = some v → True) → DataW.trod enc P W 0 (fun _ => true) true n T cs = some y → ∃ x, cs = e.f x ∧ WF x y.1)
    {fuel : Nat} {cs0 : List Value} {y0 : DataW H × List MemPlace} (hf : DataW.trod enc P W 0 (fun _ => true) true fuel t cs0 = some y0) :
    ∃ (ao : Option Addr) (c : Nat) (xs : List α), cs0 = [.slice ao xs.length c] ∧ RSl (· < W.heap.size) W e ao c xs ∧ (y0.1 = .nil ∧ xs = [] ∨ ∃ el sp, y0.1 = .slice el sp ∧ xs.length = el.length ∧ ∀ (i : Nat) (x : α), xs[i]? = some x → ∃ d, el[i]? = some d ∧ WF x d) := by
  rcases open_slice ht hf with ⟨hcs, hx⟩ | ⟨a, len0, cap0, m, n, D, Pl, hcs, hb, hl, hm, hmm, hx, hi⟩
  · exact ⟨none, 0, [], hcs, RSl.nil _ _ _ _ _, .inl ⟨congrArg Prod.fst hx, rfl⟩⟩
  · simp only [if_true] at hmm
    subst hmm
    obtain ⟨X, hX⟩ := choose_lt (α := Option α) (n := len0) (p := fun i x => ∃ z, x = some z ∧ WF z (D i) ∧ ∀ q u, (e.f z)[q]? = some u → W.cell? ((a.add (i * e.sz)).add q) = some u) (fun i hil => by
      obtain ⟨cs', h1, h2⟩ := hi i (by omega)
      rw [hC] at h1
      obtain ⟨_, hlen, hat⟩ := World.cells?_some h1
      obtain ⟨z, rfl, hz⟩ := hel n cs' _ hlen (fun _ _ _ => trivial) h2
      refine ⟨some z, z, rfl, hz, fun q u hq => ?_⟩
      have hql := (List.getElem?_eq_some_iff.1 hq).1
      rw [hat q (by rw [← hlen]; exact hql)]
      exact hq)
    have hlx : ∀ (k : Nat), k ≤ len0 → ∃ xs : List α, xs.length = k ∧ ∀ i, i < k → ∃ z, xs[i]? = some z ∧ X i = some z := by
      intro k
      induction k with
      | zero => intro _; exact ⟨[], rfl, fun i hi => by omega⟩
      | succ k ih =>
        intro hk
        obtain ⟨xs, hxl, hxs⟩ := ih (by omega)
        obtain ⟨z, hz, _⟩ := hX k (by omega)
        refine ⟨xs ++ [z], by simp [hxl], fun i hi => ?_⟩
        by_cases e : i = k
        · subst e; exact ⟨z, by simp [← hxl], hz⟩
        · obtain ⟨y, h1, h2⟩ := hxs i (by omega)
          exact ⟨y, by rw [List.getElem?_append_left (by omega)]; exact h1, h2⟩
    obtain ⟨xs, hxl, hxs⟩ := hlx len0 (Nat.le_refl _)
    have hmem : ∀ (i : Nat) (x : α), xs[i]? = some x → ∃ d, ((List.range len0).map D)[i]? = some d ∧ WF x d := by
      intro i x hx
      have hil : i < len0 := by rw [← hxl]; exact (List.getElem?_eq_some_iff.1 hx).1
      obtain ⟨z, h1, h2⟩ := hxs i hil
      obtain ⟨z', h3, h4, _⟩ := hX i hil
      rw [h2] at h3; injection h3 with h3; subst h3
      rw [hx] at h1; injection h1 with h1; subst h1
      exact ⟨D i, by simp [hil], h4⟩
    have hspot : xs ≠ [] → ∃ b off, a = ⟨b, off, none⟩ := by
      intro hne
      have hpos : 0 < len0 := by rw [← hxl]; exact List.length_pos_iff.2 hne
      obtain ⟨z, _, _, hc⟩ := hX 0 hpos
      have hq : (e.f z)[0]? = some ((e.f z)[0]'(by rw [e.len]; exact e.pos)) := List.getElem?_eq_getElem _
      have h1 := hc 0 _ hq
      rw [Nat.zero_mul] at h1
      have h2 : ((a.add 0).add 0) = a := by simp [Addr.add]
      rw [h2] at h1
      unfold World.cell? at h1
      obtain ⟨b, off, sp⟩ := a
      cases sp with
      | none => exact ⟨b, off, rfl⟩
      | some s => simp at h1; split at h1 <;> simp at h1
    have hcell : ∀ j u, (e.all xs)[j]? = some u → ∃ b off, (some a) = some (⟨b, off, none⟩ : Addr) ∧ W.cell? ⟨b, off + j, none⟩ = some u := by
      intro j u hj
      have hjl := (List.getElem?_eq_some_iff.1 hj).1
      rw [Enc.all_len, hxl] at hjl
      have hil : j / e.sz < len0 := Nat.div_lt_of_lt_mul (by rw [Nat.mul_comm]; exact hjl)
      obtain ⟨z, h1, h2⟩ := hxs (j / e.sz) hil
      obtain ⟨z', h3, _, h4⟩ := hX (j / e.sz) hil
      rw [h2] at h3; injection h3 with h3; subst h3
      have hdm : j / e.sz * e.sz + j % e.sz = j := by rw [Nat.mul_comm]; exact Nat.div_add_mod j e.sz
      have hq : j % e.sz < e.sz := Nat.mod_lt _ e.pos
      have h5 := e.all_at h1 hq
      rw [hdm, hj] at h5
      obtain ⟨b, off, rfl⟩ := hspot (by rintro rfl; rw [← hxl] at hil; exact absurd hil (Nat.not_lt_zero _))
      refine ⟨b, off, rfl, ?_⟩
      have h6 := h4 (j % e.sz) u h5.symm
      rw [Addr.add_lit, Addr.add_lit] at h6
      rwa [Nat.add_assoc, hdm] at h6
    refine ⟨some a, m, xs, by rw [hxl]; exact hcs, ⟨fun hne a' ea => ?_, by omega, Enc.all_len _ _, hcell⟩, .inr ⟨_, _, congrArg Prod.fst hx, by simp [hxl], hmem⟩⟩
    injection ea with ea
    subst ea
    have hl0 : 0 < (e.all xs).length := by rw [Enc.all_len]; exact Nat.mul_pos (List.length_pos_iff.2 hne) e.pos
    obtain ⟨b, off, h1, h2⟩ := hcell 0 _ (List.getElem?_eq_getElem hl0)
    injection h1 with h1
    subst h1
    exact World.block_lt_of_cell? W _ h2
/-- what a row is, and its datum -/
def RowOf (W : World) (r : Rw) (d : DataW H) : Prop := RSl (· < W.heap.size) W eb r.ao r.cap r.xs ∧ (d = .nil ∧ r.xs = [] ∨ ∃ el sp, d = .slice el sp ∧ r.xs.length = el.length)
theorem el_row {t T : TypeId} (ht : P.underlying t = some (.slice T)) (hT : P.underlying T = some (.int .u8)) (hC : P.cellsOf T = 1) (n : Nat) (cs : List Value) (y : DataW H × List MemPlace) (_ : cs.length = erow.sz) (_ : ∀ (q : Nat) (v : Value), cs[q]? = some v → True)
    (h : DataW.trod enc P W 0 (fun _ => true) true n t cs = some y) : ∃ x, cs = erow.f x ∧ RowOf W x y.1 := by
  obtain ⟨ao, c, xs, h1, h2, h3⟩ := open_trod ht eb (fun _ _ => True) hC (fun n cs y a b c => el_u8 hT n cs y a b c) h
  refine ⟨⟨ao, c, xs⟩, h1, h2, ?_⟩
  rcases h3 with h3 | ⟨el, sp, h3, h4, _⟩
  · exact .inl h3
  · exact .inr ⟨el, sp, h3, h4⟩
/-- an argument that is rows of bytes -/
theorem open_rows {t T U : TypeId} (ht : P.underlying t = some (.slice T)) (hT : P.underlying T = some (.slice U)) (hU : P.underlying U = some (.int .u8)) (hC : P.cellsOf T = 1) (hCU : P.cellsOf U = 1)
    {base : Nat} {v : Value} {d : DataW H} {p : List MemPlace} (hv : Value.okWide P W .any base t v) (h : DataW.Trod enc P W 0 (fun _ => true) true t v d p) :
    ∃ (ao : Option Addr) (c : Nat) (rs : List Rw), v = .slice ao rs.length c ∧ RS (· < W.heap.size) W ao c rs ∧ (d = .nil ∧ rs = [] ∨ ∃ el sp, d = .slice el sp ∧ rs.length = el.length ∧ ∀ (i : Nat) (x : Rw), rs[i]? = some x → ∃ d, el[i]? = some d ∧ RowOf W x d) := by
  obtain ⟨a0, len0, cap0, rfl⟩ := okWide_slice ht hv
  obtain ⟨fuel, hf⟩ := h
  obtain ⟨ao, c, rs, h1, h2, h3⟩ := open_trod ht erow (RowOf W) hC (el_row hT hU hCU) hf
  simp [Value.cells] at h1
  obtain ⟨rfl, rfl, rfl⟩ := h1
  refine ⟨_, _, rs, rfl, ⟨h2, fun r hr => ?_⟩, h3⟩
  rcases h3 with ⟨_, rfl⟩ | ⟨el, sp, _, _, h4⟩
  · cases hr
  · obtain ⟨i, hil, rfl⟩ := List.getElem_of_mem hr
    obtain ⟨d, _, h5⟩ := h4 i _ (List.getElem?_eq_getElem hil)
    exact h5.1
theorem weightsAll_mem {e : TypeId} : ∀ {l : List (DataW H)} {i : Nat} {d : DataW H}, l[i]? = some d → ∀ x ∈ d.weights P e, x ∈ DataW.weightsAll P e l
  | [], i, d, h, x, hx => by simp at h
  | c :: r, 0, d, h, x, hx => by
    simp at h
    subst h
    simp [DataW.weightsAll, hx]
  | c :: r, i + 1, d, h, x, hx => by
    have := weightsAll_mem (l := r) (i := i) (by simpa using h) x hx
    simp [DataW.weightsAll, this]
theorem reach_rows {t T U : TypeId} {d : DataW H} {rs : List Rw} {ts : List TypeId} {ds : List (DataW H)} {j : Nat} (hsz : (DataW.weightsEach P ts ds).all (· ≤ reachBytes) = true) (htj : ts[j]? = some t) (hdj : ds[j]? = some d)
    (ht : P.underlying t = some (.slice T)) (hT : P.underlying T = some (.slice U)) (hB : P.bytesOf T = 24) (hBU : P.bytesOf U = 1) (h : d = .nil ∧ rs = [] ∨ ∃ el sp, d = .slice el sp ∧ rs.length = el.length ∧ ∀ (i : Nat) (x : Rw), rs[i]? = some x → ∃ d, el[i]? = some d ∧ RowOf W x d) :
    rs.length * 24 ≤ 140737488351232 ∧ ∀ r ∈ rs, r.xs.length ≤ 140737488351232 := by
  have hrb : reachBytes = 140737488351232 := rfl
  rcases h with ⟨_, rfl⟩ | ⟨el, sp, rfl, hl, hall⟩
  · exact ⟨by simp, fun r hr => by cases hr⟩
  · constructor
    · have z := sized_slice hsz htj hdj ht
      rw [hB, hrb] at z
      rw [hl]
      omega
    · intro r hr
      obtain ⟨i, hil, rfl⟩ := List.getElem_of_mem hr
      obtain ⟨d, h1, _, h2⟩ := hall i _ (List.getElem?_eq_getElem hil)
      rcases h2 with ⟨_, h2⟩ | ⟨el2, sp2, rfl, h2⟩
      · rw [h2]; simp
      · have hm := List.all_eq_true.1 hsz _ (DataW.weights_mem_each htj hdj ((el2.length + sp2.length) * P.bytesOf U) (by
          simp only [DataW.weights, ht]
          refine List.mem_cons_of_mem _ (List.mem_append_left _ (weightsAll_mem h1 _ ?_))
          simp [DataW.weights, hT]))
        rw [hBU] at hm
        simp at hm
        rw [hrb] at hm
        omega
end
end Go.HL
namespace Go.Proofs.Ytjdbjdgobhjbkaa
open Go.ChangeShapes Go.WideShapes Go.ChangeAt Go.RowKit Go.Deep Go.HL
/-! what a bound on the bulk gives, for rows -/
theorem bulk_one {H : Type} (d : DataW H) : 1 ≤ Rows.uptoBulk d := by
  cases d with
  | lit l => cases l <;> simp [Rows.uptoBulk]
  | nil => simp [Rows.uptoBulk]
  | ptr d => simp [Rows.uptoBulk]
  | slice elems spare => simp [Rows.uptoBulk]
  | agg parts => simp [Rows.uptoBulk]
  | iface t d => simp [Rows.uptoBulk]
  | map entries => simp [Rows.uptoBulk]
  | held h => simp [Rows.uptoBulk]
theorem bulk_at {H : Type} {d : DataW H} : ∀ {l : List (DataW H)} {i : Nat}, l[i]? = some d → Rows.uptoBulk d ≤ Rows.uptoBulkAll l
  | [], i, h => by simp at h
  | c :: r, 0, h => by
    simp at h
    subst h
    simp only [Rows.uptoBulkAll]
    omega
  | c :: r, i + 1, h => by
    have := bulk_at (l := r) (i := i) (by simpa using h)
    simp only [Rows.uptoBulkAll]
    omega
theorem bulk_len {H : Type} : ∀ (l : List (DataW H)), l.length ≤ Rows.uptoBulkAll l
  | [] => by simp [Rows.uptoBulkAll]
  | c :: r => by
    have h1 := bulk_one c
    have h2 := bulk_len r
    simp only [Rows.uptoBulkAll, List.length_cons]
    omega
section
variable {H : Type} {W : World}
theorem upto_of {α : Type} {d : DataW H} {xs : List α} (h : d = .nil ∧ xs = [] ∨ ∃ el sp, d = .slice el sp ∧ xs.length = el.length) (hb : Rows.uptoBulk d ≤ 1048576) : xs.length ≤ 1048576 := by
  rcases h with ⟨_, h⟩ | ⟨el, sp, rfl, h⟩
  · rw [h]; exact Nat.zero_le _
  · have := bulk_len el
    simp only [Rows.uptoBulk] at hb
    omega
theorem upto_rows {d : DataW H} {rs : List Rw} (h : d = .nil ∧ rs = [] ∨ ∃ el sp, d = .slice el sp ∧ rs.length = el.length ∧ ∀ (i : Nat) (x : Rw), rs[i]? = some x → ∃ d, el[i]? = some d ∧ RowOf W x d) (hb : Rows.uptoBulk d ≤ 1048576) : rs.length ≤ 1048576 ∧ ∀ r ∈ rs, r.xs.length ≤ 1048576 := by
  rcases h with ⟨_, h⟩ | ⟨el, sp, rfl, h, h2⟩
  · rw [h]; exact ⟨Nat.zero_le _, fun r hr => by cases hr⟩
  · have h3 := bulk_len el
    simp only [Rows.uptoBulk] at hb
    refine ⟨by omega, fun r hr => ?_⟩
    obtain ⟨i, hi⟩ := List.getElem?_of_mem hr
    obtain ⟨d, h4, h5⟩ := h2 i r hi
    have h6 := bulk_at h4
    exact upto_of h5.2 (by omega)
end
end Go.Proofs.Ytjdbjdgobhjbkaa
namespace Go.HL
open Go.RowKit
/-! regions that draw their order, the loud operations in any order that the edges allow -/
def preds (ops : Array Oper) (rs : List Nat) (i : Nat) : Bool := rs.any fun j => before? ops j i
def AllB : List Nat → (Nat → Bool) → (Nat → Prop) → Prop
  | [], _, _ => True
  | a :: l, p, f => (bif p a then True else f a) ∧ AllB l p f
theorem AllB_mem : ∀ {l : List Nat} {p : Nat → Bool} {f : Nat → Prop}, AllB l p f → ∀ i ∈ l, p i = false → f i
  | [], _, _, _, i, hi, _ => by cases hi
  | a :: l, p, f, h, i, hi, hp => by
    rcases List.mem_cons.1 hi with rfl | h1
    · have := h.1
      rw [hp] at this
      exact this
    · exact AllB_mem h.2 i h1 hp
def drawOkT (ops : Array Oper) (C R : List Nat) : Bool :=
  ((List.range ops.size).all fun i => C.contains i || R.contains i) && ((C ++ R).all fun i => decide (i < ops.size)) &&
  ((List.range ops.size).all fun i => (List.range ops.size).all fun j => i == j || dstOf ops i == none || dstOf ops i != dstOf ops j) &&
  ((List.range ops.size).all fun i => ((ops[i]?).map (·.after.toList.all fun e => !Region.binds .any e || decide (e.on < i))).getD true) &&
  srcOk ops [] (C ++ R) && (R.all fun i => (List.range ops.size).all fun j => (looks ops i).all fun t => dstOf ops j != some t || (if C.contains j then before? ops j i else before? ops j i || before? ops i j)) && nodupB (C ++ R)
section
variable (P : Program) (ops : Array Oper) (Q : Exit → Act → World → Prop) (N : Nat) (K : World → Prop) (w0 : World)
def DT : Nat → List Nat → Env → World → Prop
  | 0, _, E, w => ∀ w', Chg Nob w w' → WX Q .normal N E w'
  | n + 1, rs, E, w => AllB rs (preds ops rs) fun i => ∀ w', Chg Nob w w' → ∀ o, ops[i]? = some o → WL P ops (One o.dst fun v w'' => K w'' ∧ DT n (rs.erase i) (putE E o.dst v) w'') N [o] (restr ops i E) w'
def DQT (R : List Nat) : List Nat → Env → Prop
  | [], E => DT P ops Q N K R.length R E w0
  | i :: is, E => ∃ v, (∀ o, ops[i]? = some o → ∀ w', K w' → WL P ops (One o.dst fun u w'' => u = v ∧ Chg Nob w' w'') N [o] (restr ops i E) w') ∧ DQT R is (putE E (dstOf ops i) v)
end
section
variable {P : Program} {ops : Array Oper} {Q : Exit → Act → World → Prop} {N : Nat} {K : World → Prop} {w0 : World} {E0 : Env}
theorem DQT_spec {R : List Nat} : ∀ {is : List Nat} {E : Env}, is.Nodup → DQT P ops Q N K w0 R is E → ∃ c : Nat → Value, DT P ops Q N K R.length R (envAfter ops c is E) w0 ∧
    ∀ pre i post, is = pre ++ i :: post → ∀ o, ops[i]? = some o → ∀ w', K w' → WL P ops (One o.dst fun u w'' => u = c i ∧ Chg Nob w' w'') N [o] (restr ops i (envAfter ops c pre E)) w'
  | [], E, _, h => ⟨fun _ => undef, h, fun pre i post hx => by cases pre <;> cases hx⟩
  | i :: is, E, hn, h => by
    obtain ⟨v, h1, h2⟩ := h
    obtain ⟨c, h3, h4⟩ := DQT_spec (List.nodup_cons.1 hn).2 h2
    have hi := (List.nodup_cons.1 hn).1
    let c' : Nat → Value := fun j => if j = i then v else c j
    have hc : ∀ j, j ∈ is → c j = c' j := fun j hj => by
      have : j ≠ i := fun e => hi (e ▸ hj)
      simp [c', this]
    have hci : c' i = v := by simp [c']
    refine ⟨c', ?_, ?_⟩
    · show DT P ops Q N K R.length R (envAfter ops c' is (putE E (dstOf ops i) (c' i))) w0
      rw [hci, ← envAfter_congr ops c c' is _ hc]
      exact h3
    · intro pre j post hx o ho w' hw
      cases pre with
      | nil =>
        injection hx with hx1 hx2
        subst hx1
        rw [hci]
        exact h1 o ho w' hw
      | cons p pre =>
        injection hx with hx1 hx2
        subst hx1
        have := h4 pre j post hx2 o ho w' hw
        have hj : j ∈ is := by rw [hx2]; simp
        rw [hc j hj, envAfter_congr ops c c' pre _ (fun k hk => hc k (by rw [hx2]; simp [hk]))] at this
        show WL P ops _ N [o] (restr ops j (envAfter ops c' pre (putE E (dstOf ops i) (c' i)))) w'
        rw [hci]
        exact this

theorem WC.drawT {id : Nat} (K : World → World → Prop) (C R : List Nat) (hm : P.follows .mixedOrders = true) (hok : drawOkT ops C R = true) (hN : ((List.range ops.size).all fun i => (dstOf ops i).all fun t => Nat.blt t N) = true) {w : World} (hK0 : K w.drew w.drew) (hKp : ∀ wd a b, K wd a → Chg Nob a b → K wd b)
    (h0 : ∀ wd, Chg Nob w wd → wd.heap.size = w.heap.size → DQT P ops Q N (K wd) wd R C E0) : WC P (.region id ops true) Q N E0 w := fun a0 ha0 => by
  have h := h0 w.drew (Chg.drew w) rfl
  simp only [drawOkT, Bool.and_eq_true, decide_eq_true_eq] at hok
  obtain ⟨⟨⟨⟨⟨⟨hpart, hlt0⟩, hdst0⟩, hback0⟩, hsrc⟩, hsrcT⟩, hnd⟩ := hok
  replace hnd := nodupB_spec hnd
  have hlt : ∀ k ∈ C ++ R, k < ops.size := fun k hk => by simpa using List.all_eq_true.1 hlt0 k hk
  have hdst : ∀ i j, i < ops.size → j < ops.size → i ≠ j → ∀ t, dstOf ops i = some t → dstOf ops j ≠ some t := by
    intro i j hi hj hne t h1 h2
    have := List.all_eq_true.1 (List.all_eq_true.1 hdst0 i (by simpa using hi)) j (by simpa using hj)
    simp [h1, h2, hne] at this
  have hback : ∀ i, i < ops.size → ∀ o, ops[i]? = some o → ∀ e ∈ o.after, Region.binds .any e = true → e.on < i := by
    intro i hi o ho e he hb
    have := List.all_eq_true.1 hback0 i (by simpa using hi)
    simp only [ho, Option.map_some, Option.getD_some] at this
    rw [List.all_eq_true] at this
    have := this e (by simpa using he)
    simpa [hb] using this
  have hNt : ∀ i, i < ops.size → ∀ t, dstOf ops i = some t → t < N := by
    intro i hi t ht
    have := List.all_eq_true.1 hN i (by simpa using hi)
    simpa [ht] using this
  have hin : ∀ i, i < ops.size → i ∈ C ∨ i ∈ R := fun i hi => by simpa using List.all_eq_true.1 hpart i (by simpa using hi)
  have hCn : C.Nodup := (List.nodup_append.1 hnd).1
  obtain ⟨c, hDL, hq⟩ := DQT_spec hCn h
  have hgs : ∀ (listed : Array Bool) (i j : Nat), i < listed.size → (listed.setIfInBounds i true).getD j false = if j = i then true else listed.getD j false := by
    intro listed i j hil
    simp only [Array.getD_eq_getD_getElem?, Array.getElem?_setIfInBounds]
    by_cases e : j = i
    · subst e; simp [hil]
    · have : ¬ i = j := fun x => e x.symm
      simp [this, e]
  have henv : ∀ (vals : Nat → Value) (rd : List Nat), (∀ i ∈ C, vals i = c i) → envAfter ops vals rd (envAfter ops c C E0) = envAfter ops vals (C ++ rd) E0 := by
    intro vals rd hC
    rw [envAfter_append, envAfter_congr ops vals c C E0 hC]
  have fin : ∀ (listed : Array Bool) (a : Act) (w1 wp : World) (vals : Nat → Value) (rd rs : List Nat), (∀ i, i < ops.size → i ∈ C ∨ i ∈ rd ∨ i ∈ rs) → (∀ i ∈ rd ++ rs, i < ops.size) → Mid ops N E0 listed a vals → (∀ i ∈ C, vals i = c i) → (∀ i ∈ rs, listed.getD i false = false) →
      Chg Nob wp w1 → DT P ops Q N (K w.drew) rs.length rs (envAfter ops vals rd (envAfter ops c C E0)) wp → (∀ i, i < ops.size → listed.getD i false = true) → Q .normal a w1 := by
    intro listed a w1 wp vals rd rs hpt hrl m hC hrs hpw hdl hall
    cases rs with
    | cons r rs =>
      have h1 := hall r (hrl r (by simp))
      have h2 := hrs r (by simp)
      rw [h1] at h2; cases h2
    | nil =>
      refine hdl w1 hpw a ⟨m.tsz, m.dfs, fun t v ht => ?_⟩
      rw [henv vals rd hC] at ht
      rcases (Rep.start ops E0 vals).after (C ++ rd) t v ht with ⟨j, hj, hd, rfl⟩ | ⟨h1, h2⟩
      · have hjl : j < ops.size := by
          rcases List.mem_append.1 (by simpa using hj : j ∈ C ++ rd) with h | h
          · exact hlt j (by simp [h])
          · exact hrl j (by simp [h])
        exact m.done j hjl (hall j hjl) t hd
      · refine m.old t v h2 fun j hj _ => h1 j ?_
        rcases hpt j hj with h | h | h
        · simp [h]
        · simp [h]
        · cases h
  have key : ∀ (fuel : Nat) (listed : Array Bool) (a : Act) (w1 wp : World) (vals : Nat → Value) (rd rs : List Nat), (∀ i, i < ops.size → i ∈ C ∨ i ∈ rd ∨ i ∈ rs) → (∀ i ∈ rd ++ rs, i < ops.size ∧ i ∉ C) → rs.Nodup → (∀ i ∈ rd, i ∉ rs) → Mid ops N E0 listed a vals → (∀ i ∈ C, vals i = c i) → (∀ i ∈ rd, listed.getD i false = true) → (∀ i ∈ rs, listed.getD i false = false) →
      K w.drew w1 → Chg Nob wp w1 → DT P ops Q N (K w.drew) rs.length rs (envAfter ops vals rd (envAfter ops c C E0)) wp → ((List.range ops.size).filter fun i => !listed.getD i false).length ≤ fuel → wpAny P .any ops Q fuel listed a w1 := by
    intro fuel
    induction fuel with
    | zero =>
      intro listed a w1 wp vals rd rs hpt hrl hrn hdj m hC hrd hrs hM hpw hdl hf
      have hall : ∀ i, i < ops.size → listed.getD i false = true := by
        intro i hi
        have h0 := List.length_eq_zero_iff.1 (Nat.le_zero.1 hf)
        have : i ∉ (List.range ops.size).filter fun i => !listed.getD i false := by rw [h0]; simp
        simpa [hi] using this
      refine ⟨?_, fin listed a w1 wp vals rd rs hpt (fun i hi => (hrl i hi).1) m hC hrs hpw hdl hall⟩
      refine List.eq_nil_iff_forall_not_mem.2 fun i hi => ?_
      obtain ⟨h1, h2, _⟩ := mem_ready hi
      have h3 := hall i h1
      have : i < listed.size := by rw [m.sz]; exact h1
      simp [Array.getD_eq_getD_getElem?, this] at h2 h3
      rw [h2] at h3; cases h3
    | succ fuel ih =>
      intro listed a w1 wp vals rd rs hpt hrl hrn hdj m hC hrd hrs hM hpw hdl hf
      refine ⟨fun hnil => fin listed a w1 wp vals rd rs hpt (fun i hi => (hrl i hi).1) m hC hrs hpw hdl (ready_nil m.sz hback hnil), fun i hi => ?_⟩
      obtain ⟨hilt, hno, hpre⟩ := mem_ready hi
      have hil : i < listed.size := by rw [m.sz]; exact hilt
      have hno' : listed.getD i false = false := by
        simp [Array.getD_eq_getD_getElem?, hil] at hno ⊢; exact hno
      have ho : ops[i]? = some ops[i] := Array.getElem?_eq_getElem hilt
      have hdo := dstOf_eq ho
      have hf' : ((List.range ops.size).filter fun j => !(listed.setIfInBounds i true).getD j false).length ≤ fuel := by
        have e1 : ((List.range ops.size).filter fun j => !(listed.setIfInBounds i true).getD j false) = ((List.range ops.size).filter fun j => !listed.getD j false).filter fun j => j != i := by
          rw [List.filter_filter]
          congr 1
          funext j
          rw [hgs listed i j hil]
          by_cases e : j = i <;> simp [e]
        rw [e1]
        have : (((List.range ops.size).filter fun j => !listed.getD j false).filter fun j => j != i).length < ((List.range ops.size).filter fun j => !listed.getD j false).length := by
          rw [List.length_filter_lt_length_iff_exists]
          exact ⟨i, List.mem_filter.2 ⟨by simpa using hilt, by rw [hno']; rfl⟩, by simp⟩
        omega
      by_cases hiC : i ∈ C
      · obtain ⟨pre, post, hsp⟩ := List.append_of_mem hiC
        have h1 := hq pre i post hsp _ ho w1 hM
        have hpc : ∀ k ∈ pre, vals k = c k := fun k hk => hC k (by rw [hsp]; simp [hk])
        have hrep : Rep ops E0 vals pre (envAfter ops c pre E0) := by
          have := (Rep.start ops E0 vals).after pre
          rw [envAfter_congr ops vals c pre E0 hpc] at this
          simpa using this
        have hh := m.holds hsrc (pre := pre) (post := post ++ R) (i := i) (by rw [hsp]; simp) hlt hrep hpre hno
        refine wpOp_mono ?_ (wpOp_of_WL ho hh (fun t ht => hNt i hilt t (by rw [hdo]; exact ht)) h1)
        rintro a' w' ⟨v, rfl, rfl, k⟩
        rw [← hdo]
        have hv : ∀ j, (if j = i then c i else vals j) = vals j := fun j => by
          by_cases e : j = i
          · subst e; simp [hC j hiC]
          · simp [e]
        have hm' := m.put hilt hdst (hNt i hilt) hpre hno (c i)
        simp only [hv] at hm'
        refine ih _ _ w' wp vals rd rs hpt hrl hrn hdj hm' hC (fun j hj => ?_) (fun j hj => ?_) (hKp _ _ _ hM k) (hpw.pure k) hdl hf'
        · rw [hgs listed i j hil]; split
          · rfl
          · exact hrd j hj
        · have : j ≠ i := by rintro rfl; exact (hrl j (by simp [hj])).2 hiC
          rw [hgs listed i j hil, if_neg this]; exact hrs j hj
      · have hird : i ∉ rd := fun hx => by have := hrd i hx; rw [hno'] at this; cases this
        have hirs : i ∈ rs := (hpt i hilt).elim (fun h => absurd h hiC) (fun h => h.elim (fun h => absurd h hird) (fun h => h))
        have hpr : preds ops rs i = false := by
          rw [preds, List.any_eq_false]
          intro p hp hb
          have h1 := hpre p hb
          have h2 := hrs p hp
          rw [h1] at h2; cases h2
        obtain ⟨n, hn⟩ : ∃ n, rs.length = n + 1 := ⟨rs.length - 1, by have := List.length_pos_of_mem hirs; omega⟩
        rw [hn] at hdl
        have h1 := AllB_mem hdl i hirs hpr w1 hpw _ ho
        rw [henv vals rd hC] at h1
        have hrep : Rep ops E0 vals (C ++ rd) (envAfter ops vals (C ++ rd) E0) := by simpa using (Rep.start ops E0 vals).after (C ++ rd)
        have hh : Holds N (restr ops i (envAfter ops vals (C ++ rd) E0)) a := by
          have hsT : ∀ t ∈ looks ops i, ∀ j, j < ops.size → dstOf ops j = some t → (j ∈ C → before? ops j i = true) ∧ (before? ops j i = true ∨ before? ops i j = true) := by
            intro t ht j hj hd
            have q1 := List.all_eq_true.1 hsrcT i (by rcases hin i hilt with h | h; exact absurd h hiC; exact h)
            have q2 := List.all_eq_true.1 (List.all_eq_true.1 q1 j (by simpa using hj)) t ht
            simp only [hd, bne_self_eq_false, Bool.false_or] at q2
            by_cases hjC : C.contains j = true
            · rw [hjC] at q2
              simp at q2
              exact ⟨fun _ => q2, .inl q2⟩
            · simp only [Bool.not_eq_true] at hjC
              rw [hjC] at q2
              simp at q2
              exact ⟨fun h => by simp [h] at hjC, q2⟩
          refine ⟨m.tsz, m.dfs, fun t v ht => ?_⟩
          obtain ⟨g1, g2⟩ := restr_lookup ht
          rcases hrep t v g2 with ⟨j, hj, hd, rfl⟩ | ⟨g3, g4⟩
          · have hjl : j < ops.size := by
              rcases List.mem_append.1 (by simpa using hj : j ∈ C ++ rd) with h | h
              · exact hlt j (by simp [h])
              · exact (hrl j (by simp [h])).1
            have hb : before? ops j i = true := by
              rcases List.mem_append.1 (by simpa using hj : j ∈ C ++ rd) with h | h
              · exact (hsT t g1 j hjl hd).1 h
              · rcases (hsT t g1 j hjl hd).2 with h5 | h5
                · exact h5
                · have h6 := m.clo j hjl (hrd j h) i h5
                  rw [hno'] at h6; cases h6
            exact m.done j hjl (hpre j hb) t hd
          · refine m.old t v g4 fun j hj hl hd => ?_
            rcases hpt j hj with h | h | h
            · exact g3 j (by simp [h]) hd
            · exact g3 j (by simp [h]) hd
            · rw [hrs j h] at hl; cases hl
        refine wpOp_mono ?_ (wpOp_of_WL ho hh (fun t ht => hNt i hilt t (by rw [hdo]; exact ht)) h1)
        rintro a' w' ⟨v, rfl, hM', hdl'⟩
        have hm' := m.put hilt hdst (hNt i hilt) hpre hno v
        rw [← hdo]
        have hC' : ∀ j ∈ C, (if j = i then v else vals j) = c j := fun j hj => by
          have : j ≠ i := by rintro rfl; exact hiC hj
          rw [if_neg this]; exact hC j hj
        have hcr : ∀ j ∈ C ++ rd, vals j = (if j = i then v else vals j) := fun j hj => by
          have : j ≠ i := by rintro rfl; exact (List.mem_append.1 hj).elim hiC hird
          rw [if_neg this]
        have her : ∀ j, j ∈ rs.erase i ↔ j ≠ i ∧ j ∈ rs := fun j => List.Nodup.mem_erase_iff hrn
        refine ih _ _ w' w' (fun j => if j = i then v else vals j) (rd ++ [i]) (rs.erase i) (fun j hj => ?_) (fun j hj => ?_) (hrn.erase i) (fun j hj => ?_) hm' hC' (fun j hj => ?_) (fun j hj => ?_) hM' (Chg.refl _ _) ?_ hf'
        · rcases hpt j hj with h | h | h
          · exact .inl h
          · exact .inr (.inl (by simp [h]))
          · by_cases e : j = i
            · exact .inr (.inl (by simp [e]))
            · exact .inr (.inr ((her j).2 ⟨e, h⟩))
        · rcases List.mem_append.1 hj with h | h
          · rcases List.mem_append.1 h with h | h
            · exact hrl j (by simp [h])
            · have : j = i := by simpa using h
              subst this
              exact hrl j (by simp [hirs])
          · exact hrl j (by simp [((her j).1 h).2])
        · intro h
          have h5 := (her j).1 h
          rcases List.mem_append.1 hj with h6 | h6
          · exact hdj j h6 h5.2
          · exact h5.1 (by simpa using h6)
        · rw [hgs listed i j hil]; split
          · rfl
          · rename_i hne
            rcases List.mem_append.1 hj with hj | hj
            · exact hrd j hj
            · exact absurd (by simpa using hj) hne
        · have h5 := (her j).1 hj
          rw [hgs listed i j hil, if_neg h5.1]; exact hrs j h5.2
        · rw [henv _ (rd ++ [i]) hC', ← List.append_assoc, envAfter_append, ← envAfter_congr ops vals _ (C ++ rd) E0 hcr]
          simp only [envAfter, if_true]
          rw [hdo, List.length_erase_of_mem hirs, hn]
          exact hdl'
  refine wp_region_any hm ?_
  refine key ops.size _ a0 w.drew w.drew c [] R (fun i hi => (hin i hi).elim .inl (fun h => .inr (.inr h))) (fun i hi => ⟨hlt i (by simpa using Or.inr (by simpa using hi)), fun h => (List.nodup_append.1 hnd).2.2 i h i (by simpa using hi) rfl⟩) (List.nodup_append.1 hnd).2.1 (fun i h => by cases h) ?_ (fun _ _ => rfl) (fun _ h => by cases h) (fun i hi => ?_) hK0 (Chg.refl _ _) hDL ?_
  · refine ⟨by simp, ha0.size, ha0.defs, fun i hi hl => ?_, fun t v ht _ => ha0.env t v ht, fun i hi hl => ?_⟩
    · simp [Array.getD_eq_getD_getElem?, hi] at hl
    · simp [Array.getD_eq_getD_getElem?, hi] at hl
  · have hi' := hlt i (by simp [hi])
    simp [Array.getD_eq_getD_getElem?, hi']
  · refine Nat.le_trans (List.length_filter_le _ _) (by simp)
theorem WC.drawM {id : Nat} (M : Nat → Prop) (C R : List Nat) (hm : P.follows .mixedOrders = true) (hok : drawOkT ops C R = true) (hN : ((List.range ops.size).all fun i => (dstOf ops i).all fun t => Nat.blt t N) = true) {w : World}
    (h0 : ∀ wd, Chg Nob w wd → wd.heap.size = w.heap.size → DQT P ops Q N (Chg M wd) wd R C E0) : WC P (.region id ops true) Q N E0 w :=
  WC.drawT (fun wd => Chg M wd) C R hm hok hN (Chg.refl _ _) (fun _ _ _ h k => h.pure k) h0
end
section
variable {P : Program} {ops : Array Oper} {Q : Exit → Act → World → Prop} {N : Nat} {M : Nat → Prop} {K : World → Prop} {w0 w : World} {E E' : Env} {R is : List Nat} {i : Nat} {o : Oper}
theorem DQT.step {v : Value} (E' : Env) (ho : ops[i]? = some o) (hs : Sub E' E) (hk : (E'.all fun p => (looks ops i).contains p.1) = true)
    (h1 : ∀ w', K w' → WL P ops (One o.dst fun u w'' => u = v ∧ Chg Nob w' w'') N [o] E' w') (h2 : DQT P ops Q N K w0 R is (putE E o.dst v)) : DQT P ops Q N K w0 R (i :: is) E :=
  ⟨v, fun o' ho' w' hw => by rw [ho] at ho'; injection ho' with ho'; subst ho'; exact (h1 w' hw).sub (sub_restr hs hk), by rw [dstOf_eq ho]; exact h2⟩
theorem DQT.split {b : Bool} (E' : Env) (ho : ops[i]? = some o) (hs : Sub E' E) (hk : (E'.all fun p => (looks ops i).contains p.1) = true)
    (h1 : ∀ w', K w' → WL P ops (One o.dst fun u w'' => u = .bool b ∧ Chg Nob w' w'') N [o] E' w') (ht : b = true → DQT P ops Q N K w0 R is (putE E o.dst (.bool true))) (hf : b = false → DQT P ops Q N K w0 R is (putE E o.dst (.bool false))) : DQT P ops Q N K w0 R (i :: is) E :=
  DQT.step E' ho hs hk h1 (by
    cases b
    · exact hf rfl
    · exact ht rfl)
theorem DQT.done (h : Chg M w0 w0 → DT P ops Q N (Chg M w0) R.length R E w0) : DQT P ops Q N (Chg M w0) w0 R [] E := h (Chg.refl _ _)
theorem DT.step {T : Env → World → Prop} (E' : Env) (ho : ops[i]? = some o) (hs : Sub E' E) (hk : (E'.all fun p => (looks ops i).contains p.1) = true)
    (h1 : ∀ w', Chg Nob w w' → WL P ops (One o.dst fun v w'' => K w'' ∧ T (putE E o.dst v) w'') N [o] E' w') :
    ∀ w', Chg Nob w w' → ∀ o', ops[i]? = some o' → WL P ops (One o'.dst fun v w'' => K w'' ∧ T (putE E o'.dst v) w'') N [o'] (restr ops i E) w' :=
  fun w' hw o' ho' => by rw [ho] at ho'; injection ho' with ho'; subst ho'; exact (h1 w' hw).sub (sub_restr hs hk)
theorem DT.done (h : ∀ w', Chg Nob w w' → WX Q .normal N E w') (rs : List Nat) : DT P ops Q N K 0 rs E w := h
end
end Go.HL
namespace Go.HL
open Go.RowKit
section
variable {P : Program} {ops : Array Oper} {Q : Exit → Act → World → Prop} {N : Nat} {E : Env} {w : World} {rest : List Oper} {ty : TypeId} {pos : String} {af : Array Edge} {d : Nat} {α : Type} {e : Enc α} {S : Nat → Prop}
/-- append to a row that has no room: always a new block -/
theorem WL.append0 {t tx T : TypeId} {s x : Operand} {ao : Option Addr} {bytes : Nat} {ys : List α} {z v : Value} (hinfo : (P.info? T).map (fun i => (i.zero, i.size, i.bytes)) = some (some z, e.sz, bytes)) (hzs : z.cells.size = e.sz)
    (ht : P.underlying t = some (.slice T)) (hs : ev E s = some (.slice ao 0 0)) (hx : ev E x = some v) (ho : Row S w T e ao 0 ([] : List α)) (hsrc : Src P e.sz tx v ys.length (e.all ys) w) (hne : 0 < ys.length)
    (hb : ys.length * bytes ≤ 140737488355328 ∧ ys.length ≤ 9223372036854775807) (hd : Nat.blt d N = true)
    (h : ∀ g c2 w', Row (fun b => b = g) w' T e (some ⟨g, 0, none⟩) c2 ys → Chg Nob w w' → g = w.heap.size → w'.heap.size = w.heap.size + 1 → WL P ops Q N rest ((d, .slice (some ⟨g, 0, none⟩) ys.length c2) :: E) w') :
    WL P ops Q N (⟨some d, .call ⟨.builtin .append, #[s, x], #[t, tx]⟩, ty, pos, af, none⟩ :: rest) E w := by
  obtain ⟨i, hi, h1, h2, h3⟩ := info_parts hinfo
  have hn63 : 0 + ys.length ≤ maxLen := by simpa [maxLen] using hb.2
  have hold : (Builtin.firstCells i.size 0 (.slice ao 0 0)).run P w.drew = .ok ([] : List Value).toArray w.drew := by
    cases ao with
    | none => simp [Builtin.firstCells]
    | some b => exact run_firstCells_some w.drew i.size 0 b 0 0 [] (by simp) (fun j v h => by simp at h)
  have hr := run_append_grow_src (P := P) w t tx ty T i z ht hi h1 ao 0 0 [] hold v ys.length (e.all ys) (by rw [h2]; exact hsrc) (by omega) (by omega) (growslice_fits (by omega) (by rw [h3]; simpa using hb.1))
  have hge := grownCap_ge w (0 + ys.length) 0 T
  have hcm : grownCap w (0 + ys.length) 0 T ≤ maxLen := grownCap_le_maxLen w (0 + ys.length) 0 T hn63
  have hlen : (e.all ys).length = ys.length * e.sz := Enc.all_len _ _
  obtain ⟨cap, hcap⟩ : ∃ cap, cap = grownCap w (0 + ys.length) 0 T := ⟨_, rfl⟩
  rw [← hcap] at hr hge hcm
  obtain ⟨W', hW'⟩ : ∃ W', W' = w.drew.alloc (.cells (([] ++ e.all ys).toArray ++ Builtin.zeroCells z.cells (cap - (0 + ys.length))) T) := ⟨_, rfl⟩
  rw [← hW', Nat.zero_add] at hr
  refine WL.run (.slice (some ⟨w.heap.size, 0, none⟩) ys.length cap) W' (fun a ha => by simp [execOp, resolve, invoke, builtin, ev_eval ha hs, ev_eval ha hx, hr]) hd ?_
  subst hW'
  have hnew := h w.heap.size cap (w.drew.alloc (.cells (([] ++ e.all ys).toArray ++ Builtin.zeroCells z.cells (cap - (0 + ys.length))) T)) ?_ ⟨rfl, rfl, rfl, by simp, fun k hk _ => Below.heap_alloc w.drew _ k hk⟩ rfl (by simp)
  · exact hnew
  · refine ⟨fun a ea => by injection ea with ea; subst ea; rfl, hlen, by omega, .inr ⟨w.heap.size, _, (0, 0), rfl, heap_alloc_new w.drew _, fun j _ h => by omega, hcm, ?_, ?_⟩⟩
    · simp only [Array.size_append, List.size_toArray, size_zeroCells, hzs, List.nil_append, hlen, ← Nat.add_mul]
      congr 1
      omega
    · simp only [Array.toList_append, List.nil_append]
      rw [← hlen]
      exact List.take_left
end
end Go.HL
namespace Go.HL
open Go.RowKit
/-! maps whose keys and values are known by codes -/
section plain
variable {K V : Type} [DecidableEq K]
def mget : List (K × V) → K → Option V
  | [], _ => none
  | (k', v) :: r, k => if k = k' then some v else mget r k
def mput : List (K × V) → K → V → List (K × V)
  | [], k, v => [(k, v)]
  | (k', v') :: r, k, v => if k = k' then (k, v) :: r else (k', v') :: mput r k v
def mdel : List (K × V) → K → List (K × V)
  | [], _ => []
  | (k', v') :: r, k => if k = k' then r else (k', v') :: mdel r k
theorem mget_put (l : List (K × V)) (k : K) (v : V) (j : K) : mget (mput l k v) j = if j = k then some v else mget l j := by
  induction l with
  | nil => simp [mput, mget]
  | cons p r ih =>
    obtain ⟨k', v'⟩ := p
    simp only [mput]
    by_cases h : k = k'
    · subst h
      simp only [if_true, mget]
      by_cases h2 : j = k <;> simp [h2]
    · simp only [h, if_false, mget, ih]
      by_cases h2 : j = k'
      · subst h2
        have : ¬ j = k := fun e => h e.symm
        simp [this]
      · simp [h2]
def fnd (l : List (K × V)) (k : K) : Nat → Option (Nat × V) := match l with
  | [] => fun _ => none
  | (k', v) :: r => fun i => if k = k' then some (i, v) else fnd r k (i + 1)
theorem fnd_none {k : K} : ∀ {l : List (K × V)} {i : Nat}, fnd l k i = none → mget l k = none ∧ (∀ v, mput l k v = l ++ [(k, v)]) ∧ mdel l k = l
  | [], _, _ => ⟨rfl, fun _ => rfl, rfl⟩
  | (k', v') :: r, i, h => by
    simp only [fnd] at h
    split at h
    · cases h
    · rename_i hne
      obtain ⟨h1, h2, h3⟩ := fnd_none h
      refine ⟨by simp [mget, hne, h1], fun v => by simp [mput, hne, h2 v], by simp [mdel, hne, h3]⟩
theorem fnd_some {k : K} {v : V} {j : Nat} : ∀ {l : List (K × V)} {i : Nat}, fnd l k i = some (j, v) → ∃ q, j = i + q ∧ l[q]? = some (k, v) ∧ mget l k = some v ∧ (∀ v', mput l k v' = l.set q (k, v')) ∧ mdel l k = l.eraseIdx q
  | [], _, h => by simp [fnd] at h
  | (k', v') :: r, i, h => by
    simp only [fnd] at h
    split at h
    · rename_i he
      subst he
      injection h with h
      injection h with h1 h2
      subst h1; subst h2
      exact ⟨0, rfl, rfl, by simp [mget], fun v' => by simp [mput], by simp [mdel]⟩
    · rename_i hne
      obtain ⟨q, h1, h2, h3, h4, h5⟩ := fnd_some h
      exact ⟨q + 1, by omega, by simpa using h2, by simp [mget, hne, h3], fun v' => by simp [mput, hne, h4 v'], by simp [mdel, hne, h5]⟩
end plain
section
variable {K V : Type} [DecidableEq K] {kv : K → Value} {vv : V → Value}
/-- a map in memory -/
def Mp (kv : K → Value) (vv : V → Value) (w : World) (m : Nat) (l : List (K × V)) : Prop := ∃ es clk, w.heap[m]? = some (.map es clk) ∧ es.toList.map (fun e => (e.key, e.val)) = l.map (fun p => (kv p.1, vv p.2))
omit [DecidableEq K] in
theorem Mp.lt {w : World} {m : Nat} {l : List (K × V)} (h : Mp kv vv w m l) : m < w.heap.size := by
  obtain ⟨es, clk, h1, _⟩ := h
  exact (Array.getElem?_eq_some_iff.1 h1).1
omit [DecidableEq K] in
theorem Mp.chg {M : Nat → Prop} {w w' : World} {m : Nat} {l : List (K × V)} (h : Mp kv vv w m l) (k : Chg M w w') (hm : ¬ M m) : Mp kv vv w' m l := by
  obtain ⟨es, clk, h1, h2⟩ := h
  exact ⟨es, clk, k.obj h1 hm, h2⟩
omit [DecidableEq K] in
theorem Mp.pure {w w' : World} {m : Nat} {l : List (K × V)} (h : Mp kv vv w m l) (k : Chg Nob w w') : Mp kv vv w' m l := h.chg k (fun x => x)
/-- what a type of keys must do -/
structure KeyOk (P : Program) (T : TypeId) (kv : K → Value) : Prop where
  chk : ∀ em w k, (Instr.checkKey em 10000 T (kv k)).run P w = .ok () w
  eq : ∀ w k k', (Op.equal T (kv k) (kv k')).run P w = .ok (decide (k = k')) w
  st : ∃ fs, P.underlying T = some (.struct fs)
  same : ∀ k, Instr.sameBits 10000 (kv k) (kv k) = true
variable {P : Program} {T : TypeId}
theorem run_findAsking (hk : KeyOk P T kv) (w : World) (k : K) : ∀ (es : List MapEntry) (l : List (K × V)) (i : Nat), es.map (fun e => (e.key, e.val)) = l.map (fun p => (kv p.1, vv p.2)) →
    (Instr.findAsking T (kv k) es i).run P w = .ok ((fnd l k i).map fun r => (r.1, vv r.2)) w
  | [], l, i, h => by
    cases l with
    | nil => simp [Instr.findAsking, fnd]
    | cons p r => simp at h
  | e :: es, l, i, h => by
    cases l with
    | nil => simp at h
    | cons p r =>
      obtain ⟨k', v'⟩ := p
      simp only [List.map_cons, List.cons.injEq, Prod.mk.injEq] at h
      obtain ⟨⟨h1, h2⟩, h3⟩ := h
      have ih := run_findAsking hk w k es r (i + 1) h3
      by_cases he : k = k'
      · simp [Instr.findAsking, h1, hk.eq, he, fnd, h2]
      · simp [Instr.findAsking, h1, hk.eq, he, fnd, ih]
theorem run_findKey (hk : KeyOk P T kv) (w : World) (k : K) (es : List MapEntry) (l : List (K × V)) (h : es.map (fun e => (e.key, e.val)) = l.map (fun p => (kv p.1, vv p.2))) :
    (Instr.findKey T (kv k) es).run P w = .ok ((fnd l k 0).map fun r => (r.1, vv r.2)) w := by
  obtain ⟨fs, hu⟩ := hk.st
  have ha := run_findAsking hk w k es l 0 h
  cases es with
  | nil =>
    cases l with
    | nil => simp [Instr.findKey, run_underlying hu, Instr.findNow, fnd]
    | cons p r => simp at h
  | cons e es => simp [Instr.findKey, run_underlying hu, Instr.findNow, Instr.sameNow, ha]
end
section
variable {K V : Type} [DecidableEq K] {kv : K → Value} {vv : V → Value} {P : Program} {ops : Array Oper} {Q : Exit → Act → World → Prop} {N : Nat} {E : Env} {w : World} {rest : List Oper} {d : Nat} {ty t T U : TypeId} {pos : String} {af : Array Edge} {x y z : Operand} {m : Nat} {l : List (K × V)} {k : K}
theorem WL.mlookup {zv : Value} (hk : KeyOk P T kv) (ht : P.underlying t = some (.map T U)) (hz : ∀ w, (zeroValue U).run P w = .ok zv w) (hm : Mp kv vv w m l) (hx : ev E x = some (.map (some m))) (hy : ev E y = some (kv k)) (hd : Nat.blt d N = true)
    (h : WL P ops Q N rest ((d, .tuple #[((mget l k).map vv).getD zv, .bool (mget l k).isSome]) :: E) w) : WL P ops Q N (⟨some d, .lookup t x y true, ty, pos, af, none⟩ :: rest) E w := by
  refine WL.run _ w (fun a ha => ?_) hd h
  obtain ⟨es, clk, h1, h2⟩ := hm
  have hf := run_findKey hk w k es.toList l h2
  simp only [execOp, ev_eval ha hx, ev_eval ha hy]
  cases hq : fnd l k 0 with
  | none =>
    obtain ⟨h3, _⟩ := fnd_none hq
    rw [hq] at hf
    simp [Instr.lookup, run_underlying ht, MapKept.run_getObj_map h1, hk.chk, hf, hz, h3]
  | some r =>
    obtain ⟨j, v⟩ := r
    obtain ⟨q, _, _, h3, _⟩ := fnd_some hq
    rw [hq] at hf
    simp [Instr.lookup, run_underlying ht, MapKept.run_getObj_map h1, hk.chk, hf, h3]
theorem Chg.setBlk (w : World) (m : Nat) (o : Obj) : Chg (· = m) w { w with heap := w.heap.setIfInBounds m o } :=
  ⟨rfl, rfl, rfl, by simp, fun k hk hm => by
    have : m ≠ k := fun e => hm e.symm
    simp [Array.getElem?_setIfInBounds_ne this]⟩
theorem setBlk_get {w : World} {m : Nat} (o : Obj) (h : m < w.heap.size) : ({ w with heap := w.heap.setIfInBounds m o } : World).heap[m]? = some o := by simp [h]
theorem run_thatStays (hk : KeyOk P T kv) (w : World) (k : K) : (Instr.keyThatStays (kv k) (kv k)).run P w = .ok (kv k) w := by
  simp [Instr.keyThatStays, hk.same]
theorem run_mapPut {v : V} (hk : KeyOk P T kv) (ht : P.underlying t = some (.map T U)) (hm : Mp kv vv w m l) (k : K) :
    ∃ w', (Instr.mapUpdate t (.map (some m)) (kv k) (vv v)).run P w = .ok () w' ∧ Mp kv vv w' m (mput l k v) ∧ Chg (· = m) w w' ∧ w'.heap.size = w.heap.size := by
  obtain ⟨es, clk, h1, h2⟩ := hm
  have hlt := (Array.getElem?_eq_some_iff.1 h1).1
  have hf := run_findKey hk w k es.toList l h2
  cases hq : fnd l k 0 with
  | none =>
    obtain ⟨_, h3, _⟩ := fnd_none hq
    rw [hq] at hf
    refine ⟨{ w with heap := w.heap.setIfInBounds m (.map (es.push ⟨kv k, vv v, clk⟩) (clk + 1)) }, ?_, ⟨_, _, setBlk_get _ hlt, ?_⟩, Chg.setBlk _ _ _, by simp⟩
    · simp [Instr.mapUpdate, run_underlying ht, MapKept.run_getObj_map h1, hk.chk, hf, MapKept.run_setObj_map _ h1]
    · rw [h3]
      simp [h2]
  | some r =>
    obtain ⟨j, u⟩ := r
    obtain ⟨q, h3, h4, _, h5, _⟩ := fnd_some hq
    rw [Nat.zero_add] at h3
    subst h3
    rw [hq] at hf
    have hlen : es.toList.length = l.length := by simpa using congrArg List.length h2
    have hjl : j < l.length := (List.getElem?_eq_some_iff.1 h4).1
    have hjs : j < es.size := by rw [← Array.length_toList, hlen]; exact hjl
    have hje : es[j]? = some es[j] := Array.getElem?_eq_getElem hjs
    have hkey : es[j].key = kv k := by
      have := congrArg (fun l : List (Value × Value) => l[j]?) h2
      simp only [List.getElem?_map, h4, Option.map_some, Array.getElem?_toList, hje] at this
      injection this with this
      injection this
    refine ⟨{ w with heap := w.heap.setIfInBounds m (.map (es.modify j fun e => { e with key := kv k, val := vv v }) clk) }, ?_, ⟨_, _, setBlk_get _ hlt, ?_⟩, Chg.setBlk _ _ _, by simp⟩
    · simp [Instr.mapUpdate, run_underlying ht, MapKept.run_getObj_map h1, hk.chk, hf, hje, hkey, run_thatStays hk, MapKept.run_setObj_map _ h1]
    · rw [h5 v]
      apply List.ext_getElem?
      intro i
      have hi := congrArg (fun l : List (Value × Value) => l[i]?) h2
      simp only [List.getElem?_map, Array.getElem?_toList] at hi
      simp only [List.getElem?_map, Array.getElem?_toList, Array.getElem?_modify, List.getElem?_set]
      by_cases e : j = i
      · subst e
        simp [hje, hjl]
      · simp [e, hi]
theorem WL.mput {v : V} (hk : KeyOk P T kv) (ht : P.underlying t = some (.map T U)) (hm : Mp kv vv w m l) (hx : ev E x = some (.map (some m))) (hy : ev E y = some (kv k)) (hv : ev E z = some (vv v))
    (h : ∀ w', w'.heap.size = w.heap.size → Mp kv vv w' m (mput l k v) → Chg (· = m) w w' → WL P ops Q N rest E w') : WL P ops Q N (⟨none, .mapUpdate t x y z, ty, pos, af, none⟩ :: rest) E w := by
  obtain ⟨w', h1, h2, h3, h4⟩ := run_mapPut (v := v) hk ht hm k
  exact WL.run0 w' (fun a ha => by simp [execOp, ev_eval ha hx, ev_eval ha hy, ev_eval ha hv, h1]) (h w' h4 h2 h3)
theorem WL.mdel {ats : Array TypeId} (hk : KeyOk P T kv) (ht : P.underlying t = some (.map T U)) (hm : Mp kv vv w m l) (hx : ev E x = some (.map (some m))) (hy : ev E y = some (kv k)) (hat : ats[0]? = some t) (hd : Nat.blt d N = true)
    (h : ∀ w', w'.heap.size = w.heap.size → Mp kv vv w' m (mdel l k) → Chg (· = m) w w' → WL P ops Q N rest ((d, .tuple #[]) :: E) w') : WL P ops Q N (⟨some d, .call ⟨.builtin .delete, #[x, y], ats⟩, ty, pos, af, none⟩ :: rest) E w := by
  obtain ⟨es, clk, h1, h2⟩ := hm
  have hlt := (Array.getElem?_eq_some_iff.1 h1).1
  have hf := run_findKey hk w k es.toList l h2
  cases hq : fnd l k 0 with
  | none =>
    obtain ⟨_, _, h3⟩ := fnd_none hq
    rw [hq] at hf
    refine WL.run _ { w with heap := w.heap.setIfInBounds m (.map es clk) } (fun a ha => ?_) hd (h _ (by simp) ⟨_, _, setBlk_get _ hlt, by rw [h3]; exact h2⟩ (Chg.setBlk _ _ _))
    simp [execOp, resolve, invoke, builtin, ev_eval ha hx, ev_eval ha hy, Builtin.delete_, hat, run_underlying ht, MapKept.run_getObj_map h1, hk.chk, hf, MapKept.run_setObj_map _ h1]
  | some r =>
    obtain ⟨j, u⟩ := r
    obtain ⟨q, h3, h4, _, _, h5⟩ := fnd_some hq
    rw [Nat.zero_add] at h3
    subst h3
    rw [hq] at hf
    refine WL.run _ { w with heap := w.heap.setIfInBounds m (.map (es.eraseIdxIfInBounds j) clk) } (fun a ha => ?_) hd (h _ (by simp) ⟨_, _, setBlk_get _ hlt, ?_⟩ (Chg.setBlk _ _ _))
    · simp [execOp, resolve, invoke, builtin, ev_eval ha hx, ev_eval ha hy, Builtin.delete_, hat, run_underlying ht, MapKept.run_getObj_map h1, hk.chk, hf, MapKept.run_setObj_map _ h1]
    · rw [h5]
      have hlen : es.toList.length = l.length := by simpa using congrArg List.length h2
      have hjl : j < l.length := (List.getElem?_eq_some_iff.1 h4).1
      have hje : j < es.size := by rw [← Array.length_toList, hlen]; exact hjl
      rw [Array.eraseIdxIfInBounds, dif_pos hje, Array.toList_eraseIdx, List.eraseIdx_eq_take_drop_succ, List.eraseIdx_eq_take_drop_succ, List.map_append, List.map_append, List.map_take, List.map_take, List.map_drop, List.map_drop, h2]
omit [DecidableEq K] in
theorem WL.makeMap (hd : Nat.blt d N = true) (h : ∀ g w', w.heap.size = g → g < w'.heap.size → Mp kv vv w' g [] → Chg Nob w w' → WL P ops Q N rest ((d, .map (some g)) :: E) w') :
    WL P ops Q N (⟨some d, .makeMap t none, ty, pos, af, none⟩ :: rest) E w :=
  WL.run _ (w.alloc (.map #[] 0)) (fun a ha => by simp [execOp, Instr.makeMap, newObj, Sem.run]) hd
    (h _ _ rfl (by simp) ⟨#[], 0, heap_alloc_new w _, rfl⟩ (Chg.alloc _ _))
end
end Go.HL
namespace Go.HL
open Go.RowKit
/-! kinds of blocks -/
def kb (w : World) (b : Nat) : Option (Option TypeId) := (w.heap[b]?).map fun o => match o with
  | .cells _ e _ => some e
  | _ => none
theorem Blk.kb {w : World} {b : Nat} {e : TypeId} {cs : List Value} (h : Blk w b e cs) : kb w b = some (some e) := by
  unfold Blk at h
  simp [Go.HL.kb, h]
theorem Mp.kb {K V : Type} {kv : K → Value} {vv : V → Value} {w : World} {m : Nat} {l : List (K × V)} (h : Mp kv vv w m l) : kb w m = some none := by
  obtain ⟨es, clk, h1, _⟩ := h
  simp [Go.HL.kb, h1]
theorem Own.kb {w : World} {e : TypeId} {sz : Nat} {ao : Option Addr} {n c : Nat} {cs : List Value} (h : Own w e sz ao n c cs) : At (fun b => kb w b = some (some e)) ao := fun a ea => by
  rcases h.2.2 with ⟨rfl, _⟩ | ⟨g, cur, fr, rfl, hg, _⟩
  · cases ea
  · injection ea with ea
    subst ea
    simp [Go.HL.kb, hg]
theorem Row.chgK {α : Type} {S M : Nat → Prop} {w w' : World} {T : TypeId} {e : Enc α} {ao : Option Addr} {c : Nat} {xs : List α} (h : Row S w T e ao c xs) (k : Chg M w w') (hd : ∀ b, b < w.heap.size → M b → kb w b ≠ some (some T)) : Row S w' T e ao c xs :=
  ⟨h.at_, h.own.chg k (fun a ea hm => hd _ (h.own.lt a ea) hm (h.own.kb a ea))⟩
theorem Row.kb {α : Type} {S : Nat → Prop} {w : World} {T : TypeId} {e : Enc α} {ao : Option Addr} {c : Nat} {xs : List α} (h : Row S w T e ao c xs) : Row (fun b => S b ∧ kb w b = some (some T)) w T e ao c xs := ⟨fun a ea => ⟨h.at_ a ea, h.own.kb a ea⟩, h.own⟩
/-! parts of a row of the call's own are written -/
theorem splice_take {α : Type} {L vs : List α} {o n : Nat} (h1 : o + vs.length ≤ n) (h2 : n ≤ L.length) : (L.take o ++ vs ++ L.drop (o + vs.length)).take n = (L.take n).take o ++ vs ++ (L.take n).drop (o + vs.length) := by
  apply List.ext_getElem?
  intro j
  simp only [List.append_assoc, List.getElem?_take, List.getElem?_append, List.length_take, List.getElem?_drop]
  rw [show min o L.length = o from by omega, show min o (min n L.length) = o from by omega]
  by_cases hj : j < n
  · simp only [hj, if_true]
    by_cases h3 : j < o
    · simp [h3, hj]
    · by_cases h4 : j - o < vs.length
      · simp [h3, h4]
      · simp [h3, h4, show o + vs.length + (j - o - vs.length) < n from by omega]
  · simp [hj, show ¬ j < o from by omega, show ¬ j - o < vs.length from by omega]
    intro h5
    exfalso
    omega
section
variable {α : Type} {e : Enc α} {S : Nat → Prop} {w : World} {T : TypeId} {g c : Nat} {xs ys : List α}
theorem Enc.all_set (e : Enc α) {xs : List α} {j : Nat} (hj : j < xs.length) (z : α) : e.all (xs.set j z) = (e.all xs).take (j * e.sz) ++ e.f z ++ (e.all xs).drop (j * e.sz + (e.f z).length) := by
  rw [List.set_eq_take_append_cons_drop, if_pos hj, Enc.all_append, e.len, Enc.all_take, show j * e.sz + e.sz = (j + 1) * e.sz from by rw [Nat.add_mul, Nat.one_mul], Enc.all_drop, List.append_assoc]
  rfl
theorem Row.splice (hr : Row S w T e (some ⟨g, 0, none⟩) c xs) {o : Nat} {vs : List Value} (ho : o + vs.length ≤ xs.length * e.sz) (hl : ys.length = xs.length) (he : (e.all xs).take o ++ vs ++ (e.all xs).drop (o + vs.length) = e.all ys) :
    Row S (w.setCells g o vs) T e (some ⟨g, 0, none⟩) c ys ∧ (∀ j, j < vs.length → (w.cell? ⟨g, o + j, none⟩).isSome = true) ∧ (∀ j, j < vs.length → w.frozen? ⟨g, o + j, none⟩ = false) := by
  obtain ⟨hat, hlen, hcap, hc | ⟨g', cur, fr, hg', hg, hfr, hmax, hsz, htk⟩⟩ := hr
  · cases hc.1
  · injection hg' with hg'
    injection hg' with hg' _ _
    subst hg'
    have hcs : xs.length * e.sz ≤ c * e.sz := Nat.mul_le_mul_right _ hcap
    have hs2 := setCells_same g T fr vs o w cur hg (by omega)
    refine ⟨⟨hat, Enc.all_len _ _, by omega, .inr ⟨g, _, fr, rfl, hs2, ?_, hmax, ?_, ?_⟩⟩, fun j hj => ?_, fun j hj => ?_⟩
    · intro j hj
      refine hfr j ?_
      simp only [List.size_toArray, List.length_append, List.length_take, List.length_drop, Array.length_toList] at hj
      omega
    · simp only [List.size_toArray, List.length_append, List.length_take, List.length_drop, Array.length_toList]
      omega
    · have hcl : cur.toList.length = cur.size := Array.length_toList
      rw [List.toList_toArray, hl, splice_take ho (by omega), htk]
      exact he
    · rw [cell_of_row w g _ cur T fr hg, Array.getElem?_eq_getElem (by omega)]
      rfl
    · have := hfr (o + j) (by omega)
      simp only [World.frozen?, hg]
      simpa using this
theorem Row.take (hr : Row S w T e (some ⟨g, 0, none⟩) c xs) (i : Nat) (hi : i ≤ xs.length) : Row S w T e (some ⟨g, 0, none⟩) c (xs.take i) := by
  obtain ⟨hat, hlen, hcap, hc | ⟨g', cur, fr, hg', hg, hfr, hmax, hsz, htk⟩⟩ := hr
  · cases hc.1
  · refine ⟨hat, Enc.all_len _ _, by simp; omega, .inr ⟨g', cur, fr, hg', hg, hfr, hmax, hsz, ?_⟩⟩
    rw [← Enc.all_take, ← htk, List.take_take, List.length_take, Nat.min_eq_left hi, Nat.min_eq_left (Nat.mul_le_mul_right _ hi)]
end
section
variable {P : Program} {ops : Array Oper} {Q : Exit → Act → World → Prop} {N : Nat} {E : Env} {w : World} {rest : List Oper}
  {d : Nat} {ty : TypeId} {pos : String} {af : Array Edge} {α : Type} {e : Enc α} {S : Nat → Prop} {t tb T : TypeId} {x y : Operand} {g o c : Nat} {xs ys : List α}
theorem Holds.dup {a : Act} (h : Holds N E a) {t : Nat} {v : Value} (hx : ev E (.tmp t) = some v) : Holds N ((t, v) :: E) a := ⟨h.size, h.defs, fun s u hu => by
  by_cases e : s = t
  · subst e
    simp at hu
    subst hu
    exact h.env _ _ hx
  · have hne : (s == t) = false := by simpa using e
    simp only [List.lookup, hne] at hu
    exact h.env s u hu⟩
/-- a bool that isn't known: both ways -/
theorem WL.caseB {l : List Oper} {t : Nat} {b : Bool} (hx : ev E (.tmp t) = some (.bool b)) (hT : b = true → WL P ops Q N l ((t, .bool true) :: E) w) (hF : b = false → WL P ops Q N l ((t, .bool false) :: E) w) : WL P ops Q N l E w := by
  cases b
  · exact fun a ha => hF rfl a (ha.dup hx)
  · exact fun a ha => hT rfl a (ha.dup hx)
theorem WL.runN {op : Op} (v : Value) (w' : World) (hrun : ∀ a, Holds N E a → (execOp a.eval ⟨none, op, ty, pos, af, none⟩).run P w = .ok (.value v) w') (h : WL P ops Q N rest E w') : WL P ops Q N (⟨none, op, ty, pos, af, none⟩ :: rest) E w := fun a ha => by
  refine wpList_plain rfl fun K hK => ?_
  unfold Oper.wp
  rw [hrun a ha]
  exact hK _ _ (h _ ha)
theorem setCells_sz (vs : List Value) : ∀ (o : Nat) (w : World), (w.setCells g o vs).heap.size = w.heap.size := by
  induction vs with
  | nil => intro o w; rfl
  | cons v r ih => intro o w; rw [World.setCells, ih]; simp
/-- several cells of a row of the call's own are written -/
theorem WL.storeE {vs : List Value} {k : Nat} (hs : ∀ w, (sizeOf t).run P w = .ok k w) (hr : Row S w T e (some ⟨g, 0, none⟩) c xs) (hx : ev E x = some (.pointer (some ⟨g, o, none⟩))) (hy : ev E y = some (.agg vs.toArray)) (hk : vs.length = k) (h1 : ∀ u ∈ vs, u.oneCell' = true)
    (ho : o + vs.length ≤ xs.length * e.sz) (hl : ys.length = xs.length) (he : (e.all xs).take o ++ vs ++ (e.all xs).drop (o + vs.length) = e.all ys)
    (h : ∀ w', w'.heap.size = w.heap.size → Row S w' T e (some ⟨g, 0, none⟩) c ys → Chg (· = g) w w' → WL P ops Q N rest E w') :
    WL P ops Q N (⟨none, .store t x y, ty, pos, af, none⟩ :: rest) E w := by
  obtain ⟨h2, h3, h4⟩ := hr.splice ho hl he
  refine WL.run0 (w.setCells g o vs) (fun a hh => ?_) (h _ (setCells_sz _ _ _) h2 (setCells_chg g vs o w))
  have hst := run_storeCells_cells (P := P) g o vs 0 w (by simpa using h3) (by simpa using h4) h1
  simp only [Nat.add_zero] at hst
  simp [execOp, ev_eval hh hx, ev_eval hh hy, Instr.storeAt, Instr.sureAddr, storeVar, hs, Value.cells, hk, hst]
/-- one cell of an element -/
theorem WL.storeF {v : Value} (hs : ∀ w, (sizeOf t).run P w = .ok 1 w) (hr : Row S w T e (some ⟨g, 0, none⟩) c xs) (hx : ev E x = some (.pointer (some ⟨g, o, none⟩))) (hy : ev E y = some v) (h1 : v.oneCell' = true)
    (ho : o + 1 ≤ xs.length * e.sz) (hl : ys.length = xs.length) (he : (e.all xs).take o ++ [v] ++ (e.all xs).drop (o + 1) = e.all ys)
    (h : ∀ w', w'.heap.size = w.heap.size → Row S w' T e (some ⟨g, 0, none⟩) c ys → Chg (· = g) w w' → WL P ops Q N rest E w') :
    WL P ops Q N (⟨none, .store t x y, ty, pos, af, none⟩ :: rest) E w := by
  obtain ⟨h2, h3, h4⟩ := hr.splice (vs := [v]) ho hl he
  refine WL.run0 (w.setCells g o [v]) (fun a hh => ?_) (h _ (setCells_sz _ _ _) h2 (setCells_chg g [v] o w))
  have hst := run_storeCells_cells (P := P) g o [v] 0 w (by simpa using h3) (by simpa using h4) (by simpa using h1)
  simp only [Nat.add_zero] at hst
  have hc1 : v.cells = #[v] := by cases v <;> simp_all [Value.oneCell', Value.cells]
  simp [execOp, ev_eval hh hx, ev_eval hh hy, Instr.storeAt, Instr.sureAddr, storeVar, hs, hc1, hst]
theorem zeroCells_list (z : Array Value) (n : Nat) : (Builtin.zeroCells z n).toList.length = n * z.size ∧ ∀ u ∈ (Builtin.zeroCells z n).toList, u ∈ z.toList := by
  refine ⟨by rw [Array.length_toList, size_zeroCells], fun u hu => ?_⟩
  simp only [Builtin.zeroCells, Array.mem_toList_iff, Array.mem_map, Array.mem_range] at hu
  obtain ⟨i, hi, rfl⟩ := hu
  have hz : 0 < z.size := by
    rcases Nat.eq_zero_or_pos z.size with h | h
    · rw [h, Nat.mul_zero] at hi; omega
    · exact h
  rw [getElem!_pos z (i % z.size) (Nat.mod_lt _ hz), Array.mem_toList_iff]
  exact Array.getElem_mem _
/-- what lies behind is cleared -/
theorem WL.clearTail {z : Value} {i m : Nat} (ht : P.underlying t = some (.slice T)) (hz : ∀ w, (zeroValue T).run P w = .ok z w) (hzs : z.cells.size = e.sz) (hz1 : ∀ u ∈ z.cells.toList, u.oneCell' = true) (hr : Row S w T e (some ⟨g, 0, none⟩) c xs) (hi : i + m = xs.length)
    (hx : ev E x = some (.slice (cutAt (some ⟨g, 0, none⟩) c i e.sz) m (c - i)))
    (h : ∀ w', w'.heap.size = w.heap.size → Row S w' T e (some ⟨g, 0, none⟩) c (xs.take i) → Chg (· = g) w w' → WL P ops Q N rest E w') :
    WL P ops Q N (⟨none, .call ⟨.builtin .clear, #[x], #[t]⟩, ty, pos, af, none⟩ :: rest) E w := by
  rcases Nat.eq_zero_or_pos m with hm | hm
  · subst hm
    have hxs : xs.take i = xs := List.take_of_length_le (by omega)
    refine WL.runN (.tuple #[]) w (fun a ha => ?_) (h w rfl (by rw [hxs]; exact hr) ((Chg.refl Nob w).mono (fun _ _ f => f.elim)))
    have hcl : (Builtin.clear_ #[t] ty #[.slice (cutAt (some ⟨g, 0, none⟩) c i e.sz) 0 (c - i)]).run P w = .ok (.tuple #[]) w := by
      cases cutAt (some ⟨g, 0, none⟩) c i e.sz <;> simp [Builtin.clear_, run_underlying ht]
    simp [execOp, resolve, invoke, builtin, ev_eval ha hx, hcl]
  · have hcap := hr.own.cap
    have hne : ¬ c = i := by omega
    have hcut : cutAt (some (⟨g, 0, none⟩ : Addr)) c i e.sz = some ⟨g, i * e.sz, none⟩ := by simp [cutAt, hne, Addr.add_lit]
    rw [hcut] at hx
    obtain ⟨hl, hu⟩ := zeroCells_list z.cells m
    obtain ⟨vs, hvs⟩ : ∃ vs, vs = (Builtin.zeroCells z.cells m).toList := ⟨_, rfl⟩
    rw [← hvs] at hl hu
    rw [hzs] at hl
    obtain ⟨hat, hlen, hcp, hc0 | ⟨g', cur, fr, hg', hg, hfr, hmax, hsz, htk⟩⟩ := hr
    · cases hc0.1
    · injection hg' with hg'
      injection hg' with hg' _ _
      subst hg'
      have e1 : i * e.sz + m * e.sz = xs.length * e.sz := by rw [← Nat.add_mul, hi]
      have hcs : xs.length * e.sz ≤ c * e.sz := Nat.mul_le_mul_right _ hcap
      have hs2 := setCells_same g T fr vs (i * e.sz) w cur hg (by omega)
      have hst := run_storeCells_cells (P := P) g (i * e.sz) vs 0 w (fun j hj => by
        rw [Nat.add_zero, cell_of_row w g _ cur T fr hg, Array.getElem?_eq_getElem (by omega)]
        rfl) (fun j hj => by
        have := hfr (i * e.sz + 0 + j) (by omega)
        simp only [World.frozen?, hg]
        simpa using this) (fun u h5 => hz1 u (hu u h5))
      simp only [Nat.add_zero] at hst
      refine WL.runN (.tuple #[]) (w.setCells g (i * e.sz) vs) (fun a ha => ?_) (h _ (setCells_sz _ _ _) ⟨hat, Enc.all_len _ _, by simp; omega, .inr ⟨g, _, fr, rfl, hs2, ?_, hmax, ?_, ?_⟩⟩ (setCells_chg g vs _ w))
      · obtain ⟨q, rfl⟩ : ∃ q, m = q + 1 := ⟨m - 1, by omega⟩
        have hcl : (Builtin.clear_ #[t] ty #[.slice (some ⟨g, i * e.sz, none⟩) (q + 1) (c - i)]).run P w = .ok (.tuple #[]) (w.setCells g (i * e.sz) vs) := by
          simp [Builtin.clear_, run_underlying ht, hz, ← hvs, hst]
        simp [execOp, resolve, invoke, builtin, ev_eval ha hx, hcl]
      · intro j hj
        refine hfr j ?_
        simp only [List.size_toArray, List.length_append, List.length_take, List.length_drop, Array.length_toList] at hj
        omega
      · simp only [List.size_toArray, List.length_append, List.length_take, List.length_drop, Array.length_toList]
        omega
      · rw [List.toList_toArray, ← Enc.all_take, ← htk, List.take_take, List.length_take, Nat.min_eq_left (show i ≤ xs.length by omega), Nat.min_eq_left (Nat.mul_le_mul_right _ (show i ≤ xs.length by omega)), List.append_assoc, List.take_append_of_le_length (by rw [List.length_take, Array.length_toList]; omega), List.take_take, Nat.min_self]
/-- the head of a row of the call's own -/
theorem WL.sliceRow {hi : Operand} {i n : Nat} {j : IntKind} (ht : P.underlying t = some (.slice T)) (hs : ∀ w, (sizeOf T).run P w = .ok e.sz w) (hx : ev E x = some (.slice (some ⟨g, 0, none⟩) n c)) (hhi : ev E hi = some (.int j (i : Int))) (hi' : i ≤ c) (hd : Nat.blt d N = true)
    (h : WL P ops Q N rest ((d, .slice (some ⟨g, 0, none⟩) i c) :: E) w) : WL P ops Q N (⟨some d, .slice t x none (some hi) none, ty, pos, af, none⟩ :: rest) E w := by
  refine WL.run _ w (fun a ha => ?_) hd h
  simp only [execOp, ev_eval ha hx, Option.map_none, Option.map_some, ev_eval ha hhi]
  have := run_sliceAt w ht hs (some ⟨g, 0, none⟩) n c 0 i .i64 j none (some (.int j (i : Int))) (.inr ⟨rfl, rfl⟩) (.inl ⟨rfl, hi'⟩) (Nat.zero_le _)
  have hc : cutAt (some (⟨g, 0, none⟩ : Addr)) c 0 e.sz = some ⟨g, 0, none⟩ := by
    unfold cutAt
    split <;> simp [Addr.add_lit]
  rw [hc] at this
  simp [this]
theorem WL.makeFun {f : FuncId} {v : Value} (hx : ev E x = some v) (hd : Nat.blt d N = true) (h : WL P ops Q N rest ((d, .func (.func f) #[] #[v]) :: E) w) :
    WL P ops Q N (⟨some d, .makeFunc (.func f) #[] #[x], ty, pos, af, none⟩ :: rest) E w :=
  WL.run _ w (fun a ha => by simp [execOp, ev_eval ha hx, Instr.makeFunc]) hd h
theorem WL.ptrNil {ao : Option Addr} (ht : P.underlying t = some (.pointer (P.pointee t))) (hx : ev E x = some (.pointer ao)) (hy : ev E y = some (.pointer none)) (hd : Nat.blt d N = true) (h : WL P ops Q N rest ((d, .bool ao.isNone) :: E) w) :
    WL P ops Q N (⟨some d, .binOp .eql t x y tb, ty, pos, af, none⟩ :: rest) E w :=
  WL.run _ w (fun a ha => by simp [execOp, ev_eval ha hx, ev_eval ha hy, eqGuard, binOp, run_equal_pointer_nil (P := P) w t ao ht]) hd h
theorem WL.ptrSome {ao : Option Addr} (ht : P.underlying t = some (.pointer (P.pointee t))) (hx : ev E x = some (.pointer ao)) (hy : ev E y = some (.pointer none)) (hd : Nat.blt d N = true) (h : WL P ops Q N rest ((d, .bool ao.isSome) :: E) w) :
    WL P ops Q N (⟨some d, .binOp .neq t x y tb, ty, pos, af, none⟩ :: rest) E w :=
  WL.run _ w (fun a ha => by
    have : (!ao.isNone) = ao.isSome := by cases ao <;> rfl
    simp [execOp, ev_eval ha hx, ev_eval ha hy, eqGuard, binOp, run_equal_pointer_nil (P := P) w t ao ht, this]) hd h
theorem WL.mdel0 {K V : Type} [DecidableEq K] {kv : K → Value} {vv : V → Value} {U : TypeId} {m : Nat} {l : List (K × V)} {k : K} {ats : Array TypeId} (hk : KeyOk P T kv) (ht : P.underlying t = some (.map T U)) (hm : Mp kv vv w m l) (hx : ev E x = some (.map (some m))) (hy : ev E y = some (kv k)) (hat : ats[0]? = some t)
    (h : ∀ w', w'.heap.size = w.heap.size → Mp kv vv w' m (Go.HL.mdel l k) → Chg (· = m) w w' → WL P ops Q N rest E w') : WL P ops Q N (⟨none, .call ⟨.builtin .delete, #[x, y], ats⟩, ty, pos, af, none⟩ :: rest) E w := by
  obtain ⟨es, clk, h1, h2⟩ := hm
  have hlt := (Array.getElem?_eq_some_iff.1 h1).1
  have hf := run_findKey hk w k es.toList l h2
  cases hq : fnd l k 0 with
  | none =>
    obtain ⟨_, _, h3⟩ := fnd_none hq
    rw [hq] at hf
    refine WL.runN (.tuple #[]) { w with heap := w.heap.setIfInBounds m (.map es clk) } (fun a ha => ?_) (h _ (by simp) ⟨_, _, setBlk_get _ hlt, by rw [h3]; exact h2⟩ (Chg.setBlk _ _ _))
    simp [execOp, resolve, invoke, builtin, ev_eval ha hx, ev_eval ha hy, Builtin.delete_, hat, run_underlying ht, MapKept.run_getObj_map h1, hk.chk, hf, MapKept.run_setObj_map _ h1]
  | some r =>
    obtain ⟨j, u⟩ := r
    obtain ⟨q, h3, h4, _, _, h5⟩ := fnd_some hq
    rw [Nat.zero_add] at h3
    subst h3
    rw [hq] at hf
    refine WL.runN (.tuple #[]) { w with heap := w.heap.setIfInBounds m (.map (es.eraseIdxIfInBounds j) clk) } (fun a ha => ?_) (h _ (by simp) ⟨_, _, setBlk_get _ hlt, ?_⟩ (Chg.setBlk _ _ _))
    · simp [execOp, resolve, invoke, builtin, ev_eval ha hx, ev_eval ha hy, Builtin.delete_, hat, run_underlying ht, MapKept.run_getObj_map h1, hk.chk, hf, MapKept.run_setObj_map _ h1]
    · rw [h5]
      have hlen : es.toList.length = l.length := by simpa using congrArg List.length h2
      have hjl : j < l.length := (List.getElem?_eq_some_iff.1 h4).1
      have hje : j < es.size := by rw [← Array.length_toList, hlen]; exact hjl
      rw [Array.eraseIdxIfInBounds, dif_pos hje, Array.toList_eraseIdx, List.eraseIdx_eq_take_drop_succ, List.eraseIdx_eq_take_drop_succ, List.map_append, List.map_append, List.map_take, List.map_take, List.map_drop, List.map_drop, h2]
end
end Go.HL
namespace Go.HL
open Go.RowKit
/-! comparisons whose answer is known -/
section
variable {P : Program} {ops : Array Oper} {Q : Exit → Act → World → Prop} {N : Nat} {E : Env} {w : World} {rest : List Oper} {d : Nat} {ty : TypeId} {pos : String} {af : Array Edge} {t tb : TypeId} {x y : Operand} {k : IntKind} {m n : Int} {s u : ByteArray}
theorem WL.eqlT (hx : ev E x = some (.int k m)) (hy : ev E y = some (.int k n)) (hd : Nat.blt d N = true) (e : m = n) (h : WL P ops Q N rest ((d, .bool true) :: E) w) : WL P ops Q N (⟨some d, .binOp .eql t x y tb, ty, pos, af, none⟩ :: rest) E w :=
  WL.eql? hx hy hd (fun _ => h) (fun c => by exfalso; first | exact c e | exact e c | omega)
theorem WL.eqlF (hx : ev E x = some (.int k m)) (hy : ev E y = some (.int k n)) (hd : Nat.blt d N = true) (e : m ≠ n) (h : WL P ops Q N rest ((d, .bool false) :: E) w) : WL P ops Q N (⟨some d, .binOp .eql t x y tb, ty, pos, af, none⟩ :: rest) E w :=
  WL.eql? hx hy hd (fun c => by exfalso; first | exact c e | exact e c | omega) (fun _ => h)
theorem WL.neqT (hx : ev E x = some (.int k m)) (hy : ev E y = some (.int k n)) (hd : Nat.blt d N = true) (e : m ≠ n) (h : WL P ops Q N rest ((d, .bool true) :: E) w) : WL P ops Q N (⟨some d, .binOp .neq t x y tb, ty, pos, af, none⟩ :: rest) E w :=
  WL.neq? hx hy hd (fun _ => h) (fun c => by exfalso; first | exact c e | exact e c | omega)
theorem WL.neqF (hx : ev E x = some (.int k m)) (hy : ev E y = some (.int k n)) (hd : Nat.blt d N = true) (e : m = n) (h : WL P ops Q N rest ((d, .bool false) :: E) w) : WL P ops Q N (⟨some d, .binOp .neq t x y tb, ty, pos, af, none⟩ :: rest) E w :=
  WL.neq? hx hy hd (fun c => by exfalso; first | exact c e | exact e c | omega) (fun _ => h)
theorem WL.lssT (hx : ev E x = some (.int k m)) (hy : ev E y = some (.int k n)) (hd : Nat.blt d N = true) (e : m < n) (h : WL P ops Q N rest ((d, .bool true) :: E) w) : WL P ops Q N (⟨some d, .binOp .lss t x y tb, ty, pos, af, none⟩ :: rest) E w :=
  WL.lss? hx hy hd (fun _ => h) (fun c => by exfalso; first | exact c e | exact e c | omega)
theorem WL.lssF (hx : ev E x = some (.int k m)) (hy : ev E y = some (.int k n)) (hd : Nat.blt d N = true) (e : n ≤ m) (h : WL P ops Q N rest ((d, .bool false) :: E) w) : WL P ops Q N (⟨some d, .binOp .lss t x y tb, ty, pos, af, none⟩ :: rest) E w :=
  WL.lss? hx hy hd (fun c => by exfalso; first | exact c e | exact e c | omega) (fun _ => h)
theorem WL.leqT (hx : ev E x = some (.int k m)) (hy : ev E y = some (.int k n)) (hd : Nat.blt d N = true) (e : m ≤ n) (h : WL P ops Q N rest ((d, .bool true) :: E) w) : WL P ops Q N (⟨some d, .binOp .leq t x y tb, ty, pos, af, none⟩ :: rest) E w :=
  WL.leq? hx hy hd (fun _ => h) (fun c => by exfalso; first | exact c e | exact e c | omega)
theorem WL.leqF (hx : ev E x = some (.int k m)) (hy : ev E y = some (.int k n)) (hd : Nat.blt d N = true) (e : n < m) (h : WL P ops Q N rest ((d, .bool false) :: E) w) : WL P ops Q N (⟨some d, .binOp .leq t x y tb, ty, pos, af, none⟩ :: rest) E w :=
  WL.leq? hx hy hd (fun c => by exfalso; first | exact c e | exact e c | omega) (fun _ => h)
theorem WL.gtrT (hx : ev E x = some (.int k m)) (hy : ev E y = some (.int k n)) (hd : Nat.blt d N = true) (e : n < m) (h : WL P ops Q N rest ((d, .bool true) :: E) w) : WL P ops Q N (⟨some d, .binOp .gtr t x y tb, ty, pos, af, none⟩ :: rest) E w :=
  WL.gtr? hx hy hd (fun _ => h) (fun c => by exfalso; first | exact c e | exact e c | omega)
theorem WL.gtrF (hx : ev E x = some (.int k m)) (hy : ev E y = some (.int k n)) (hd : Nat.blt d N = true) (e : m ≤ n) (h : WL P ops Q N rest ((d, .bool false) :: E) w) : WL P ops Q N (⟨some d, .binOp .gtr t x y tb, ty, pos, af, none⟩ :: rest) E w :=
  WL.gtr? hx hy hd (fun c => by exfalso; first | exact c e | exact e c | omega) (fun _ => h)
theorem WL.geqT (hx : ev E x = some (.int k m)) (hy : ev E y = some (.int k n)) (hd : Nat.blt d N = true) (e : n ≤ m) (h : WL P ops Q N rest ((d, .bool true) :: E) w) : WL P ops Q N (⟨some d, .binOp .geq t x y tb, ty, pos, af, none⟩ :: rest) E w :=
  WL.geq? hx hy hd (fun _ => h) (fun c => by exfalso; first | exact c e | exact e c | omega)
theorem WL.geqF (hx : ev E x = some (.int k m)) (hy : ev E y = some (.int k n)) (hd : Nat.blt d N = true) (e : m < n) (h : WL P ops Q N rest ((d, .bool false) :: E) w) : WL P ops Q N (⟨some d, .binOp .geq t x y tb, ty, pos, af, none⟩ :: rest) E w :=
  WL.geq? hx hy hd (fun c => by exfalso; first | exact c e | exact e c | omega) (fun _ => h)
theorem WL.seqlT (hx : ev E x = some (.string s)) (hy : ev E y = some (.string u)) (hd : Nat.blt d N = true) (e : s = u) (h : WL P ops Q N rest ((d, .bool true) :: E) w) : WL P ops Q N (⟨some d, .binOp .eql t x y tb, ty, pos, af, none⟩ :: rest) E w :=
  WL.seql? hx hy hd (fun _ => h) (fun c => by exfalso; first | exact c e | exact e c)
theorem WL.seqlF (hx : ev E x = some (.string s)) (hy : ev E y = some (.string u)) (hd : Nat.blt d N = true) (e : s ≠ u) (h : WL P ops Q N rest ((d, .bool false) :: E) w) : WL P ops Q N (⟨some d, .binOp .eql t x y tb, ty, pos, af, none⟩ :: rest) E w :=
  WL.seql? hx hy hd (fun c => by exfalso; first | exact c e | exact e c) (fun _ => h)
theorem WL.sneqT (hx : ev E x = some (.string s)) (hy : ev E y = some (.string u)) (hd : Nat.blt d N = true) (e : s ≠ u) (h : WL P ops Q N rest ((d, .bool true) :: E) w) : WL P ops Q N (⟨some d, .binOp .neq t x y tb, ty, pos, af, none⟩ :: rest) E w :=
  WL.sneq? hx hy hd (fun _ => h) (fun c => by exfalso; first | exact c e | exact e c)
theorem WL.sneqF (hx : ev E x = some (.string s)) (hy : ev E y = some (.string u)) (hd : Nat.blt d N = true) (e : s = u) (h : WL P ops Q N rest ((d, .bool false) :: E) w) : WL P ops Q N (⟨some d, .binOp .neq t x y tb, ty, pos, af, none⟩ :: rest) E w :=
  WL.sneq? hx hy hd (fun c => by exfalso; first | exact c e | exact e c) (fun _ => h)
theorem WL.beqlT {a b : Bool} (ht : P.underlying t = some .bool) (hx : ev E x = some (.bool a)) (hy : ev E y = some (.bool b)) (e : a = b) (hd : Nat.blt d N = true) (h : WL P ops Q N rest ((d, .bool true) :: E) w) : WL P ops Q N (⟨some d, .binOp .eql t x y tb, ty, pos, af, none⟩ :: rest) E w :=
  WL.beql ht hx hy hd (by subst e; simpa using h)
end
end Go.HL
namespace Go.HL
open Go.RowKit
/-! regions that draw their order: quiet operations that hang on loud ones -/
def flatP : List (Nat × List Nat) → List Nat
  | [] => []
  | (r, C) :: t => r :: (C ++ flatP t)
/-- those of a list that come behind an operation, whatever is drawn -/
def closP (ops : Array Oper) : List Nat → List Nat → List Nat
  | [], acc => acc
  | i :: l, acc => closP ops l (bif acc.any (fun j => before? ops j i) then i :: acc else acc)
def behindOk (ops : Array Oper) : List (Nat × List Nat) → Bool
  | [] => true
  | (r, C) :: t => (C ++ flatP t).all (fun i => (closP ops (C ++ flatP t) [r]).contains i) && behindOk ops t
def drawOkP (ops : Array Oper) (C0 : List Nat) (rest : List (Nat × List Nat)) : Bool :=
  ((List.range ops.size).all fun i => (C0 ++ flatP rest).contains i) && ((C0 ++ flatP rest).all fun i => decide (i < ops.size)) &&
  ((List.range ops.size).all fun i => (List.range ops.size).all fun j => i == j || dstOf ops i == none || dstOf ops i != dstOf ops j) &&
  ((List.range ops.size).all fun i => ((ops[i]?).map (·.after.toList.all fun e => !Region.binds .any e || decide (e.on < i))).getD true) &&
  srcOk ops [] (C0 ++ flatP rest) && behindOk ops rest && nodupB (C0 ++ flatP rest)
theorem closP_spec {ops : Array Oper} {listed : Array Bool} {r : Nat} (hclo : ∀ i, listed.getD i false = true → ∀ j, before? ops j i = true → listed.getD j false = true) (hr : listed.getD r false = false) :
    ∀ {l acc : List Nat}, (∀ i ∈ acc, listed.getD i false = false) → ∀ i ∈ closP ops l acc, listed.getD i false = false
  | [], _, h, i, hi => h i hi
  | k :: l, acc, h, i, hi => by
    simp only [closP] at hi
    refine closP_spec hclo hr (fun j hj => ?_) i hi
    cases hb : acc.any (fun j => before? ops j k) with
    | false => rw [hb] at hj; exact h j hj
    | true =>
      rw [hb] at hj
      rcases List.mem_cons.1 hj with h1 | h1
      · subst h1
        obtain ⟨m, hm, hmb⟩ := List.any_eq_true.1 hb
        cases hl : listed.getD j false with
        | false => rfl
        | true =>
          have := hclo j hl m hmb
          rw [h m hm] at this
          cases this
      · exact h j h1
theorem closP_ready {ops : Array Oper} {listed : Array Bool} {r : Nat} (hclo : ∀ i, listed.getD i false = true → ∀ j, before? ops j i = true → listed.getD j false = true) (hr : listed.getD r false = false) {i : Nat} (hpre : ∀ j, before? ops j i = true → listed.getD j false = true) :
    ∀ {l acc : List Nat}, (∀ i ∈ acc, listed.getD i false = false) → i ∉ acc → i ∉ closP ops l acc
  | [], _, _, h2 => h2
  | k :: l, acc, h, h2 => by
    simp only [closP]
    cases hb : acc.any (fun j => before? ops j k) with
    | false => exact closP_ready hclo hr hpre h h2
    | true =>
      obtain ⟨m, hm, hmb⟩ := List.any_eq_true.1 hb
      refine closP_ready hclo hr hpre (fun j hj => ?_) (fun hc => ?_)
      · rcases List.mem_cons.1 hj with h1 | h1
        · subst h1
          cases hl : listed.getD j false with
          | false => rfl
          | true =>
            have := hclo j hl m hmb
            rw [h m hm] at this
            cases this
        · exact h j h1
      · rcases List.mem_cons.1 hc with h1 | h1
        · subst h1
          have := hpre m hmb
          rw [h m hm] at this
          cases this
        · exact h2 h1
section
variable (P : Program) (ops : Array Oper) (Q : Exit → Act → World → Prop) (N : Nat) (M : Nat → Prop)
def DPQ (w0 : World) (next : Env → Prop) : List Nat → Env → Prop
  | [], E => next E
  | i :: is, E => ∃ v, (∀ o, ops[i]? = some o → ∀ w', Chg M w0 w' → WL P ops (One o.dst fun u w'' => u = v ∧ Chg Nob w' w'') N [o] (restr ops i E) w') ∧ DPQ w0 next is (putE E (dstOf ops i) v)
def DPR : List (Nat × List Nat) → Env → World → Prop
  | [], E, w => ∀ w', Chg Nob w w' → WX Q .normal N E w'
  | (r, C) :: t, E, w => ∀ w', Chg Nob w w' → ∀ o, ops[r]? = some o → WL P ops (One o.dst fun v w'' => Chg M w' w'' ∧ DPQ P ops N M w'' (fun E2 => DPR t E2 w'') C (putE E o.dst v)) N [o] (restr ops r E) w'
end
section
variable {P : Program} {ops : Array Oper} {Q : Exit → Act → World → Prop} {N : Nat} {M : Nat → Prop} {w0 : World} {E0 : Env}
theorem DPQ_spec {next : Env → Prop} : ∀ {is : List Nat} {E : Env}, is.Nodup → DPQ P ops N M w0 next is E → ∃ c : Nat → Value, next (envAfter ops c is E) ∧
    ∀ pre i post, is = pre ++ i :: post → ∀ o, ops[i]? = some o → ∀ w', Chg M w0 w' → WL P ops (One o.dst fun u w'' => u = c i ∧ Chg Nob w' w'') N [o] (restr ops i (envAfter ops c pre E)) w'
  | [], E, _, h => ⟨fun _ => undef, h, fun pre i post hx => by cases pre <;> cases hx⟩
  | i :: is, E, hn, h => by
    obtain ⟨v, h1, h2⟩ := h
    obtain ⟨c, h3, h4⟩ := DPQ_spec (List.nodup_cons.1 hn).2 h2
    have hi := (List.nodup_cons.1 hn).1
    let c' : Nat → Value := fun j => if j = i then v else c j
    have hc : ∀ j, j ∈ is → c j = c' j := fun j hj => by
      have : j ≠ i := fun e => hi (e ▸ hj)
      simp [c', this]
    have hci : c' i = v := by simp [c']
    refine ⟨c', ?_, ?_⟩
    · show next (envAfter ops c' is (putE E (dstOf ops i) (c' i)))
      rw [hci, ← envAfter_congr ops c c' is _ hc]
      exact h3
    · intro pre j post hx o ho w' hw
      cases pre with
      | nil =>
        injection hx with hx1 hx2
        subst hx1
        rw [hci]
        exact h1 o ho w' hw
      | cons p pre =>
        injection hx with hx1 hx2
        subst hx1
        have := h4 pre j post hx2 o ho w' hw
        have hj : j ∈ is := by rw [hx2]; simp
        rw [hc j hj, envAfter_congr ops c c' pre _ (fun k hk => hc k (by rw [hx2]; simp [hk]))] at this
        show WL P ops _ N [o] (restr ops j (envAfter ops c' pre (putE E (dstOf ops i) (c' i)))) w'
        rw [hci]
        exact this
theorem Mid.cong {listed : Array Bool} {a : Act} {vals vals' : Nat → Value} (m : Mid ops N E0 listed a vals) (h : ∀ j, listed.getD j false = true → vals j = vals' j) : Mid ops N E0 listed a vals' :=
  ⟨m.sz, m.tsz, m.dfs, fun i hi hl t ht => by rw [← h i hl]; exact m.done i hi hl t ht, m.old, m.clo⟩
/-- a quiet operation of those that are ready: it may run at any later time -/
def QF (P : Program) (ops : Array Oper) (N : Nat) (M : Nat → Prop) (E0 : Env) (vals : Nat → Value) (pre : List Nat) (w1 : World) (i : Nat) : Prop :=
  ∃ pr post, pre = pr ++ i :: post ∧ ∀ o, ops[i]? = some o → ∀ w', Chg M w1 w' → WL P ops (One o.dst fun u w'' => u = vals i ∧ Chg Nob w' w'') N [o] (restr ops i (envAfter ops vals pr E0)) w'
theorem WC.drawP {id : Nat} (M : Nat → Prop) (C0 : List Nat) (rest0 : List (Nat × List Nat)) (hm : P.follows .mixedOrders = true) (hok : drawOkP ops C0 rest0 = true) (hN : ((List.range ops.size).all fun i => (dstOf ops i).all fun t => Nat.blt t N) = true) {w : World}
    (h0 : ∀ wd, Chg Nob w wd → wd.heap.size = w.heap.size → DPQ P ops N M wd (fun E => DPR P ops Q N M rest0 E wd) C0 E0) : WC P (.region id ops true) Q N E0 w := fun a0 ha0 => by
  have h := h0 w.drew (Chg.drew w) rfl
  simp only [drawOkP, Bool.and_eq_true, decide_eq_true_eq] at hok
  obtain ⟨⟨⟨⟨⟨⟨hpart, hlt0⟩, hdst0⟩, hback0⟩, hsrc⟩, hbeh0⟩, hnd⟩ := hok
  replace hnd := nodupB_spec hnd
  obtain ⟨SEQ, hSEQ⟩ : ∃ SEQ, SEQ = C0 ++ flatP rest0 := ⟨_, rfl⟩
  rw [← hSEQ] at hpart hlt0 hsrc hnd
  have hlt : ∀ k ∈ SEQ, k < ops.size := fun k hk => by simpa using List.all_eq_true.1 hlt0 k hk
  have hdst : ∀ i j, i < ops.size → j < ops.size → i ≠ j → ∀ t, dstOf ops i = some t → dstOf ops j ≠ some t := by
    intro i j hi hj hne t h1 h2
    have := List.all_eq_true.1 (List.all_eq_true.1 hdst0 i (by simpa using hi)) j (by simpa using hj)
    simp [h1, h2, hne] at this
  have hback : ∀ i, i < ops.size → ∀ o, ops[i]? = some o → ∀ e ∈ o.after, Region.binds .any e = true → e.on < i := by
    intro i hi o ho e he hb
    have := List.all_eq_true.1 hback0 i (by simpa using hi)
    simp only [ho, Option.map_some, Option.getD_some] at this
    rw [List.all_eq_true] at this
    have := this e (by simpa using he)
    simpa [hb] using this
  have hNt : ∀ i, i < ops.size → ∀ t, dstOf ops i = some t → t < N := by
    intro i hi t ht
    have := List.all_eq_true.1 hN i (by simpa using hi)
    simpa [ht] using this
  have hin : ∀ i, i < ops.size → i ∈ SEQ := fun i hi => by simpa using List.all_eq_true.1 hpart i (by simpa using hi)
  have hgs : ∀ (listed : Array Bool) (i j : Nat), i < listed.size → (listed.setIfInBounds i true).getD j false = if j = i then true else listed.getD j false := by
    intro listed i j hil
    simp only [Array.getD_eq_getD_getElem?, Array.getElem?_setIfInBounds]
    by_cases e : j = i
    · subst e; simp [hil]
    · have : ¬ i = j := fun x => e x.symm
      simp [this, e]
  have hout : ∀ (listed : Array Bool), listed.size = ops.size → ∀ i, listed.getD i false = true → i < ops.size := by
    intro listed hsz i hl
    rcases Nat.lt_or_ge i ops.size with h1 | h1
    · exact h1
    · simp [Array.getD_eq_getD_getElem?, Array.getElem?_eq_none (show listed.size ≤ i by omega)] at hl
  have fin : ∀ (listed : Array Bool) (a : Act) (w1 wp : World) (vals : Nat → Value) (pre : List Nat) (rest : List (Nat × List Nat)), SEQ = pre ++ flatP rest → Mid ops N E0 listed a vals → (∀ i ∈ flatP rest, listed.getD i false = false) →
      Chg Nob wp w1 → DPR P ops Q N M rest (envAfter ops vals pre E0) wp → (∀ i, i < ops.size → listed.getD i false = true) → Q .normal a w1 := by
    intro listed a w1 wp vals pre rest hS m hrs hpw hdl hall
    cases rest with
    | cons p rest =>
      obtain ⟨r, C⟩ := p
      have h1 := hall r (hlt r (by rw [hS]; simp [flatP]))
      have h2 := hrs r (by simp [flatP])
      rw [h1] at h2; cases h2
    | nil =>
      simp only [flatP, List.append_nil] at hS
      refine hdl w1 hpw a ⟨m.tsz, m.dfs, fun t v ht => ?_⟩
      rcases (Rep.start ops E0 vals).after pre t v ht with ⟨j, hj, hd, rfl⟩ | ⟨h1, h2⟩
      · have hjl := hlt j (by rw [hS]; simpa using hj)
        exact m.done j hjl (hall j hjl) t hd
      · refine m.old t v h2 fun j hj _ => h1 j ?_
        have := hin j hj
        rw [hS] at this
        simpa using this
  have key : ∀ (fuel : Nat) (listed : Array Bool) (a : Act) (w1 wp : World) (vals : Nat → Value) (pre : List Nat) (rest : List (Nat × List Nat)), SEQ = pre ++ flatP rest → Mid ops N E0 listed a vals → (∀ i ∈ pre, listed.getD i false = true ∨ QF P ops N M E0 vals pre w1 i) → (∀ i ∈ flatP rest, listed.getD i false = false) →
      behindOk ops rest = true → Chg Nob wp w1 → DPR P ops Q N M rest (envAfter ops vals pre E0) wp → ((List.range ops.size).filter fun i => !listed.getD i false).length ≤ fuel → wpAny P .any ops Q fuel listed a w1 := by
    intro fuel
    induction fuel with
    | zero =>
      intro listed a w1 wp vals pre rest hS m hQ hrs hbe hpw hdl hf
      have hall : ∀ i, i < ops.size → listed.getD i false = true := by
        intro i hi
        have h0 := List.length_eq_zero_iff.1 (Nat.le_zero.1 hf)
        have : i ∉ (List.range ops.size).filter fun i => !listed.getD i false := by rw [h0]; simp
        simpa [hi] using this
      refine ⟨?_, fin listed a w1 wp vals pre rest hS m hrs hpw hdl hall⟩
      refine List.eq_nil_iff_forall_not_mem.2 fun i hi => ?_
      obtain ⟨h1, h2, _⟩ := mem_ready hi
      have h3 := hall i h1
      have : i < listed.size := by rw [m.sz]; exact h1
      simp [Array.getD_eq_getD_getElem?, this] at h2 h3
      rw [h2] at h3; cases h3
    | succ fuel ih =>
      intro listed a w1 wp vals pre rest hS m hQ hrs hbe hpw hdl hf
      refine ⟨fun hnil => fin listed a w1 wp vals pre rest hS m hrs hpw hdl (ready_nil m.sz hback hnil), fun i hi => ?_⟩
      obtain ⟨hilt, hno, hpre⟩ := mem_ready hi
      have hil : i < listed.size := by rw [m.sz]; exact hilt
      have hno' : listed.getD i false = false := by
        simp [Array.getD_eq_getD_getElem?, hil] at hno ⊢; exact hno
      have ho : ops[i]? = some ops[i] := Array.getElem?_eq_getElem hilt
      have hdo := dstOf_eq ho
      have hf' : ((List.range ops.size).filter fun j => !(listed.setIfInBounds i true).getD j false).length ≤ fuel := by
        have e1 : ((List.range ops.size).filter fun j => !(listed.setIfInBounds i true).getD j false) = ((List.range ops.size).filter fun j => !listed.getD j false).filter fun j => j != i := by
          rw [List.filter_filter]
          congr 1
          funext j
          rw [hgs listed i j hil]
          by_cases e : j = i <;> simp [e]
        rw [e1]
        have : (((List.range ops.size).filter fun j => !listed.getD j false).filter fun j => j != i).length < ((List.range ops.size).filter fun j => !listed.getD j false).length := by
          rw [List.length_filter_lt_length_iff_exists]
          exact ⟨i, List.mem_filter.2 ⟨by simpa using hilt, by rw [hno']; rfl⟩, by simp⟩
        omega
      have hiS := hin i hilt
      rw [hS] at hiS
      rcases List.mem_append.1 hiS with hip | hir
      · rcases hQ i hip with h1 | ⟨pr, post, hsp, hq⟩
        · rw [hno'] at h1; cases h1
        · have h1 := hq _ ho w1 (Chg.refl M w1)
          have hrep : Rep ops E0 vals pr (envAfter ops vals pr E0) := by simpa using (Rep.start ops E0 vals).after pr
          have hh := m.holds hsrc (pre := pr) (post := post ++ flatP rest) (i := i) (by rw [hS, hsp]; simp) hlt hrep hpre hno
          refine wpOp_mono ?_ (wpOp_of_WL ho hh (fun t ht => hNt i hilt t (by rw [hdo]; exact ht)) h1)
          rintro a' w' ⟨v, rfl, rfl, k⟩
          rw [← hdo]
          have hv : ∀ j, (if j = i then vals i else vals j) = vals j := fun j => by
            by_cases e : j = i
            · subst e; simp
            · simp [e]
          have hm' := m.put hilt hdst (hNt i hilt) hpre hno (vals i)
          simp only [hv] at hm'
          refine ih _ _ w' wp vals pre rest hS hm' (fun j hj => ?_) (fun j hj => ?_) hbe (hpw.pure k) hdl hf'
          · by_cases e : j = i
            · left
              rw [hgs listed i j hil, if_pos e]
            · rcases hQ j hj with h2 | ⟨pr2, post2, hsp2, hq2⟩
              · left
                rw [hgs listed i j hil, if_neg e]
                exact h2
              · exact .inr ⟨pr2, post2, hsp2, fun o ho w2 hw2 => hq2 o ho w2 ((k.mono (fun _ _ f => f.elim)).trans hw2 (fun _ _ hx => hx))⟩
          · have : j ≠ i := by
              rintro rfl
              rw [hS] at hnd
              exact (List.nodup_append.1 hnd).2.2 j hip j hj rfl
            rw [hgs listed i j hil, if_neg this]; exact hrs j hj
      · cases rest with
        | nil => cases hir
        | cons p t =>
          obtain ⟨r, C⟩ := p
          simp only [behindOk, Bool.and_eq_true] at hbe
          obtain ⟨hbe1, hbe2⟩ := hbe
          have hrl := hrs r (by simp [flatP])
          have hclo : ∀ i, listed.getD i false = true → ∀ j, before? ops j i = true → listed.getD j false = true := fun i hl j hb => m.clo i (hout listed m.sz i hl) hl j hb
          have hir2 : i = r := by
            rcases List.mem_cons.1 (show i ∈ r :: (C ++ flatP t) from hir) with h1 | h1
            · exact h1
            · exfalso
              have h2 : i ∈ closP ops (C ++ flatP t) [r] := by simpa using List.all_eq_true.1 hbe1 i h1
              refine closP_ready hclo hrl hpre (fun j hj => ?_) (fun hj => ?_) h2
              · have : j = r := by simpa using hj
                rw [this]; exact hrl
              · have : i = r := by simpa using hj
                rw [hS] at hnd
                have h5 := (List.nodup_append.1 hnd).2.1
                have h6 : r ∉ C ++ flatP t := (List.nodup_cons.1 (show (r :: (C ++ flatP t)).Nodup from h5)).1
                exact h6 (this ▸ h1)
          subst hir2
          have h1 := hdl w1 hpw _ ho
          have hrep : Rep ops E0 vals pre (envAfter ops vals pre E0) := by simpa using (Rep.start ops E0 vals).after pre
          have hh := m.holds hsrc (pre := pre) (post := C ++ flatP t) (i := i) (by rw [hS]; rfl) hlt hrep hpre hno
          refine wpOp_mono ?_ (wpOp_of_WL ho hh (fun t ht => hNt i hilt t (by rw [hdo]; exact ht)) h1)
          rintro a' w' ⟨v, rfl, hM', hdq⟩
          have hndS := hnd
          rw [hS] at hndS
          have hnd2 : (i :: (C ++ flatP t)).Nodup := (List.nodup_append.1 hndS).2.1
          have hnd3 := (List.nodup_cons.1 hnd2).2
          have hCn : C.Nodup := (List.nodup_append.1 hnd3).1
          have hiC : i ∉ C := fun hx => (List.nodup_cons.1 hnd2).1 (List.mem_append_left _ hx)
          have hpd : ∀ j ∈ pre, j ≠ i ∧ j ∉ C := fun j hj => ⟨fun e => (List.nodup_append.1 hndS).2.2 j hj j (by rw [e]; simp [flatP]) rfl, fun hx => (List.nodup_append.1 hndS).2.2 j hj j (by simp [flatP, hx]) rfl⟩
          obtain ⟨c, hnext, hqC⟩ := DPQ_spec hCn hdq
          have hm0 := m.put hilt hdst (hNt i hilt) hpre hno v
          rw [← hdo] at hnext hqC ⊢
          obtain ⟨vals', hv'⟩ : ∃ vals' : Nat → Value, vals' = fun j => if j = i then v else if j ∈ C then c j else vals j := ⟨_, rfl⟩
          have hvi : vals' i = v := by rw [hv']; simp
          have hvp : ∀ j ∈ pre, vals j = vals' j := fun j hj => by
            obtain ⟨h2, h3⟩ := hpd j hj
            rw [hv']
            simp [h2, h3]
          have hvC : ∀ j ∈ C, c j = vals' j := fun j hj => by
            have : j ≠ i := fun e => hiC (e ▸ hj)
            rw [hv']
            simp [this, hj]
          have hm' : Mid ops N E0 (listed.setIfInBounds i true) (a.put (dstOf ops i) v) vals' := hm0.cong (fun j hl => by
            rw [hgs listed i j hil] at hl
            by_cases e : j = i
            · rw [if_pos e, e, hvi]
            · rw [if_neg e] at hl ⊢
              have hjC : j ∉ C := fun hx => by
                have := hrs j (by simp [flatP, hx])
                rw [this] at hl; cases hl
              rw [hv']
              simp [e, hjC])
          have henv : ∀ pr, (∀ k ∈ pr, k ∈ C) → envAfter ops c pr (putE (envAfter ops vals pre E0) (dstOf ops i) v) = envAfter ops vals' (pre ++ i :: pr) E0 := fun pr hpr => by
            rw [envAfter_append, ← envAfter_congr ops vals vals' pre E0 hvp, envAfter_congr ops c vals' pr _ (fun k hk => hvC k (hpr k hk))]
            simp only [envAfter, hvi]
          refine ih _ _ w' w' vals' (pre ++ i :: C) t (by rw [hS]; simp [flatP]) hm' (fun j hj => ?_) (fun j hj => ?_) hbe2 (Chg.refl _ _) ?_ hf'
          · rcases List.mem_append.1 hj with hj | hj
            · rcases hQ j hj with h2 | ⟨pr2, post2, hsp2, hq2⟩
              · left
                rw [hgs listed i j hil, if_neg (hpd j hj).1]
                exact h2
              · refine .inr ⟨pr2, post2 ++ i :: C, by rw [hsp2]; simp, fun o ho w2 hw2 => ?_⟩
                have := hq2 o ho w2 (hM'.trans hw2 (fun _ _ hx => hx))
                rw [hvp j hj, envAfter_congr ops vals vals' pr2 E0 (fun k hk => hvp k (by rw [hsp2]; simp [hk]))] at this
                exact this
            · rcases List.mem_cons.1 hj with h2 | h2
              · left
                rw [hgs listed i j hil, if_pos h2]
              · obtain ⟨pr2, post2, hsp2⟩ := List.append_of_mem h2
                refine .inr ⟨pre ++ i :: pr2, post2, by rw [hsp2]; simp, fun o ho w2 hw2 => ?_⟩
                have := hqC pr2 j post2 hsp2 o ho w2 hw2
                rw [hvC j h2, henv pr2 (fun k hk => by rw [hsp2]; simp [hk])] at this
                exact this
          · have : j ≠ i := by
              rintro rfl
              exact (List.nodup_cons.1 hnd2).1 (List.mem_append_right _ hj)
            rw [hgs listed i j hil, if_neg this]; exact hrs j (by simp [flatP, hj])
          · rw [← henv C (fun k hk => hk)]
            exact hnext
  refine wp_region_any hm ?_
  have hndS := hnd
  rw [hSEQ] at hndS
  obtain ⟨c, hnext, hqC⟩ := DPQ_spec (List.nodup_append.1 hndS).1 h
  refine key ops.size _ a0 w.drew w.drew c C0 rest0 hSEQ ?_ (fun i hi => ?_) (fun i hi => ?_) hbeh0 (Chg.refl _ _) hnext ?_
  · refine ⟨by simp, ha0.size, ha0.defs, fun i hi hl => ?_, fun t v ht _ => ha0.env t v ht, fun i hi hl => ?_⟩
    · simp [Array.getD_eq_getD_getElem?, hi] at hl
    · simp [Array.getD_eq_getD_getElem?, hi] at hl
  · obtain ⟨pr, post, hsp⟩ := List.append_of_mem hi
    exact .inr ⟨pr, post, hsp, fun o ho w2 hw2 => hqC pr i post hsp o ho w2 hw2⟩
  · have hi' := hlt i (by rw [hSEQ]; simp [hi])
    simp [Array.getD_eq_getD_getElem?, hi']
  · refine Nat.le_trans (List.length_filter_le _ _) (by simp)
end
section
variable {P : Program} {ops : Array Oper} {Q : Exit → Act → World → Prop} {N : Nat} {M : Nat → Prop} {w0 w : World} {E E' : Env} {is : List Nat} {i r : Nat} {o : Oper} {next : Env → Prop} {C : List Nat} {t : List (Nat × List Nat)}
theorem DPQ.step {v : Value} (E' : Env) (ho : ops[i]? = some o) (hs : Sub E' E) (hk : (E'.all fun p => (looks ops i).contains p.1) = true)
    (h1 : ∀ w', Chg M w0 w' → WL P ops (One o.dst fun u w'' => u = v ∧ Chg Nob w' w'') N [o] E' w') (h2 : DPQ P ops N M w0 next is (putE E o.dst v)) : DPQ P ops N M w0 next (i :: is) E :=
  ⟨v, fun o' ho' w' hw => by rw [ho] at ho'; injection ho' with ho'; subst ho'; exact (h1 w' hw).sub (sub_restr hs hk), by rw [dstOf_eq ho]; exact h2⟩
theorem DPQ.split {b : Bool} (E' : Env) (ho : ops[i]? = some o) (hs : Sub E' E) (hk : (E'.all fun p => (looks ops i).contains p.1) = true)
    (h1 : ∀ w', Chg M w0 w' → WL P ops (One o.dst fun u w'' => u = .bool b ∧ Chg Nob w' w'') N [o] E' w') (ht : b = true → DPQ P ops N M w0 next is (putE E o.dst (.bool true))) (hf : b = false → DPQ P ops N M w0 next is (putE E o.dst (.bool false))) : DPQ P ops N M w0 next (i :: is) E :=
  DPQ.step E' ho hs hk h1 (by
    cases b
    · exact hf rfl
    · exact ht rfl)
theorem DPQ.done (h : next E) : DPQ P ops N M w0 next [] E := h
theorem DPR.step (E' : Env) (ho : ops[r]? = some o) (hs : Sub E' E) (hk : (E'.all fun p => (looks ops r).contains p.1) = true)
    (h1 : ∀ w', Chg Nob w w' → WL P ops (One o.dst fun v w'' => Chg M w' w'' ∧ DPQ P ops N M w'' (fun E2 => DPR P ops Q N M t E2 w'') C (putE E o.dst v)) N [o] E' w') : DPR P ops Q N M ((r, C) :: t) E w :=
  fun w' hw o' ho' => by rw [ho] at ho'; injection ho' with ho'; subst ho'; exact (h1 w' hw).sub (sub_restr hs hk)
theorem DPR.done (h : ∀ w', Chg Nob w w' → WX Q .normal N E w') : DPR P ops Q N M [] E w := h
end
end Go.HL
namespace Go.HL
open Go.RowKit
section
variable {P : Program} {N : Nat} {E : Env} {w : World} {fn : Func} {R : Ending → World → Prop}
theorem WX.ret3c {x : Exit} (hx : x = .ret ∨ x = .normal) {t u s T e : TypeId} {b k : Nat} {cs : List Value} {v z : Value} (h : fn.results = #[.cell t T, .tmp u, .tmp s]) (ha : ∀ w, (isAgg T).run P w = .ok true w) (hs : ∀ w, (sizeOf T).run P w = .ok k w) (hb : Blk w b e cs) (hv : E.lookup t = some (.pointer (some ⟨b, 0, none⟩))) (hk : cs.length = k)
    (hu : E.lookup u = some v) (hz : E.lookup s = some z) (hR : R (.returned (.tuple #[.agg cs.toArray, v, z])) w) : WX (bodyPost P fn R) x N E w :=
  WX.retOf hx _ (fun a hh => by
    have h1 := getD_of hh hv
    have h3 := getD_of hh hu
    have h4 := getD_of hh hz
    simp only [Array.getD_eq_getD_getElem?] at h1 h3 h4
    have h2 := run_loadVarB ha hs hb hk
    simp [results, h, h1, h3, h4, asAddr, h2]) hR
end
section
variable {P : Program} {ops : Array Oper} {Q : Exit → Act → World → Prop} {N : Nat} {E : Env} {w : World} {rest : List Oper}
  {d : Nat} {ty : TypeId} {pos : String} {af : Array Edge} {α : Type} {e : Enc α} {S : Nat → Prop} {t tx T : TypeId} {s x : Operand} {g i c bytes : Nat} {xs ys : List α} {z v : Value}
/-- append within a row of the call's own -/
theorem WL.appendRoom (hinfo : (P.info? T).map (fun i => (i.zero, i.size, i.bytes)) = some (some z, e.sz, bytes)) (ht : P.underlying t = some (.slice T)) (hs : ev E s = some (.slice (some ⟨g, 0, none⟩) i c)) (hx : ev E x = some v) (ho : Row S w T e (some ⟨g, 0, none⟩) c xs) (hsrc : Src P e.sz tx v ys.length (e.all ys) w)
    (hroom : i + ys.length ≤ xs.length) (hd : Nat.blt d N = true)
    (h : ∀ w', Row S w' T e (some ⟨g, 0, none⟩) c (xs.take i ++ ys ++ xs.drop (i + ys.length)) → Chg (· = g) w w' → w'.heap.size = w.heap.size → WL P ops Q N rest ((d, .slice (some ⟨g, 0, none⟩) (i + ys.length) c) :: E) w') :
    WL P ops Q N (⟨some d, .call ⟨.builtin .append, #[s, x], #[t, tx]⟩, ty, pos, af, none⟩ :: rest) E w := by
  obtain ⟨inf, hi, h1, h2, h3⟩ := info_parts hinfo
  have hlen : (e.all ys).length = ys.length * e.sz := Enc.all_len _ _
  have hcap := ho.own.cap
  have hxl : (e.all xs).length = xs.length * e.sz := Enc.all_len _ _
  have hfit : i * e.sz + (e.all ys).length ≤ xs.length * e.sz := by rw [hlen, ← Nat.add_mul]; exact Nat.mul_le_mul_right _ hroom
  have hsp := ho.splice (o := i * e.sz) (vs := e.all ys) (ys := xs.take i ++ ys ++ xs.drop (i + ys.length)) hfit (by simp; omega) (by rw [Enc.all_append, Enc.all_append, ← Enc.all_take, ← Enc.all_drop, hlen, Nat.add_mul])
  have hr := run_append_room_src (P := P) w t tx ty T inf ht hi g 0 i c v ys.length (e.all ys) (by rw [h2]; exact hsrc) (by omega)
    (fun j hj => by
      rw [Nat.zero_add, h2]
      exact hsp.2.1 j (by omega))
    (fun j hj => by
      rw [Nat.zero_add, h2]
      exact hsp.2.2 j (by omega))
  rw [Nat.zero_add, h2] at hr
  exact WL.run _ _ (fun a ha => by simp [execOp, resolve, invoke, builtin, ev_eval ha hs, ev_eval ha hx, hr]) hd (h _ hsp.1 (setCells_chg g _ _ w) (setCells_sz _ _ _))
/-- a part of a slice, up to its room -/
theorem WL.sliceN {lo hi : Option Operand} {ao : Option Addr} {n l h : Nat} {k j : IntKind} {sz : Nat} (ht : P.underlying t = some (.slice T)) (hs : ∀ w, (sizeOf T).run P w = .ok sz w) (hx : ev E x = some (.slice ao n c))
    (hlo : lo.map (ev E) = some (some (.int k (l : Int))) ∨ lo = none ∧ l = 0) (hhi : hi.map (ev E) = some (some (.int j (h : Int))) ∧ h ≤ c ∨ hi = none ∧ h = n) (hl : l ≤ h) (hd : Nat.blt d N = true)
    (k' : WL P ops Q N rest ((d, .slice (cutAt ao c l sz) (h - l) (c - l)) :: E) w) : WL P ops Q N (⟨some d, .slice t x lo hi none, ty, pos, af, none⟩ :: rest) E w := by
  refine WL.run _ w (fun a ha => ?_) hd k'
  have hlo' : lo.map a.eval = some (.int k (l : Int)) ∨ lo.map a.eval = none ∧ l = 0 := by
    rcases hlo with h2 | ⟨rfl, h2⟩
    · cases lo with
      | none => cases h2
      | some y => simp at h2; left; simp [ev_eval ha h2]
    · right; exact ⟨rfl, h2⟩
  have hhi' : hi.map a.eval = some (.int j (h : Int)) ∧ h ≤ c ∨ hi.map a.eval = none ∧ h = n := by
    rcases hhi with ⟨h2, h3⟩ | ⟨rfl, h2⟩
    · cases hi with
      | none => cases h2
      | some y => simp at h2; left; exact ⟨by simp [ev_eval ha h2], h3⟩
    · right; exact ⟨rfl, h2⟩
  simp only [execOp, ev_eval ha hx, Option.map_none]
  simp [run_sliceAt w ht hs ao n c l h k j _ _ hlo' hhi' hl]
/-- a part with its room told: only its run counts -/
theorem WL.slice3 {lo hi mx : Operand} {ao : Option Addr} {n l h m : Nat} {k j q : IntKind} {sz : Nat} (ht : P.underlying t = some (.slice T)) (hs : ∀ w, (sizeOf T).run P w = .ok sz w) (hx : ev E x = some (.slice ao n c))
    (hlo : ev E lo = some (.int k (l : Int))) (hhi : ev E hi = some (.int j (h : Int))) (hmx : ev E mx = some (.int q (m : Int))) (hl : l ≤ h ∧ h ≤ m ∧ m ≤ c) (hd : Nat.blt d N = true)
    (k' : ∀ u, WL P ops Q N rest ((d, u) :: E) w) : WL P ops Q N (⟨some d, .slice t x (some lo) (some hi) (some mx), ty, pos, af, none⟩ :: rest) E w := by
  have hr : ∃ u, (Instr.sliceAt t (.slice ao n c) (some (.int k (l : Int))) (some (.int j (h : Int))) (some (.int q (m : Int)))).run P w = .ok u w := by
    have e1 : (0 : Int) ≤ (l : Int) ∧ (l : Int) ≤ (h : Int) := by omega
    have e2 : (h : Int) ≤ (m : Int) := by omega
    have e3 : m ≤ c := hl.2.2
    simp [Instr.sliceAt, Instr.slice, Instr.sliceBounds, Instr.sliceBound, asIntOf, run_underlying ht, hs, e1, e2, e3, hl.1, hl.2.1]
  obtain ⟨u, hu⟩ := hr
  refine WL.run u w (fun a ha => ?_) hd (k' u)
  simp [execOp, ev_eval ha hx, ev_eval ha hlo, ev_eval ha hhi, ev_eval ha hmx, hu]
end
end Go.HL
namespace Go.HL
open Go.RowKit
/-! what follows a piece of code is shown once -/
def CutPost {σ : Type} (N : Nat) (Ef : σ → Env) (I : σ → World → Prop) : Exit → Act → World → Prop := fun x a w => x = .normal ∧ ∃ s, Holds N (Ef s) a ∧ I s w
section
variable {P : Program} {Q : Exit → Act → World → Prop} {N : Nat} {E : Env} {w : World} {σ : Type} {Ef : σ → Env} {I : σ → World → Prop} {c : Code}
theorem WC.cutR (Ef : σ → Env) (I : σ → World → Prop) (htail : ∀ s w', I s w' → WX Q .normal N (Ef s) w') (hbody : WC P c (CutPost N Ef I) N E w) : WC P c Q N E w := fun a ha => by
  refine Code.wp_mono ?_ (hbody a ha)
  rintro x a' w' ⟨rfl, s, hs, hI⟩
  exact htail s w' hI a' hs
theorem Chg.here {w w' : World} (_ : Chg Nob w w') : Chg Nob w' w' := Chg.refl _ _
theorem WX.cut (s : σ) (hs : Sub (Ef s) E) (hI : I s w) : WX (CutPost N Ef I) .normal N E w := fun _ ha => ⟨rfl, s, ha.sub hs, hI⟩
end
end Go.HL
namespace Go.HL
open Go.RowKit
/-! rows that are written, whatever they hold -/
/-- blocks of cells stay such, of the same size -/
def ShK (w w' : World) : Prop := ∀ (g : Nat) (cur : Array Value) (T : TypeId) (fr : Nat × Nat), w.heap[g]? = some (.cells cur T fr) → ∃ cur2 : Array Value, w'.heap[g]? = some (.cells cur2 T fr) ∧ cur2.size = cur.size
theorem ShK.refl (w : World) : ShK w w := fun _ cur _ _ h => ⟨cur, h, rfl⟩
theorem ShK.trans {a b c : World} (h : ShK a b) (k : ShK b c) : ShK a c := fun g cur T fr hg => by
  obtain ⟨c1, h1, e1⟩ := h g cur T fr hg
  obtain ⟨c2, h2, e2⟩ := k g c1 T fr h1
  exact ⟨c2, h2, e2.trans e1⟩
theorem Chg.shk {w w' : World} (h : Chg Nob w w') : ShK w w' := fun g cur T fr hg => ⟨cur, h.obj hg (fun x => x), rfl⟩
theorem ShK.set {w w' : World} {g : Nat} {cur cur2 : Array Value} {T : TypeId} {fr : Nat × Nat} (k : Chg (· = g) w w') (hg : w.heap[g]? = some (.cells cur T fr)) (hg2 : w'.heap[g]? = some (.cells cur2 T fr)) (hs : cur2.size = cur.size) : ShK w w' := fun b c1 T1 f1 hb => by
  by_cases e : b = g
  · subst e
    rw [hg] at hb
    injection hb with hb
    injection hb with e1 e2 e3
    subst e1; subst e2; subst e3
    exact ⟨cur2, hg2, hs⟩
  · exact ⟨c1, k.obj hb e, rfl⟩
/-- n elements at the head of a block of S may be written -/
def Wt (S : Nat → Prop) (w : World) (T : TypeId) (sz : Nat) (ao : Option Addr) (n : Nat) : Prop :=
  n = 0 ∨ ∃ (g : Nat) (cur : Array Value) (fr : Nat × Nat), ao = some ⟨g, 0, none⟩ ∧ S g ∧ w.heap[g]? = some (.cells cur T fr) ∧ (∀ j, j < cur.size → ¬ (fr.1 ≤ j ∧ j < fr.2)) ∧ n * sz ≤ cur.size
theorem Wt.keep {S : Nat → Prop} {w w' : World} {T : TypeId} {sz : Nat} {ao : Option Addr} {n : Nat} (h : Wt S w T sz ao n) (k : ShK w w') : Wt S w' T sz ao n := by
  rcases h with h | ⟨g, cur, fr, h1, h2, h3, h4, h5⟩
  · exact .inl h
  · obtain ⟨c2, h6, h7⟩ := k _ _ _ _ h3
    exact .inr ⟨g, c2, fr, h1, h2, h6, by rw [h7]; exact h4, by omega⟩
theorem Wt.mono {S S' : Nat → Prop} {w : World} {T : TypeId} {sz : Nat} {ao : Option Addr} {n : Nat} (h : Wt S w T sz ao n) (k : ∀ b, S b → S' b) : Wt S' w T sz ao n := by
  rcases h with h | ⟨g, cur, fr, h1, h2, h3⟩
  · exact .inl h
  · exact .inr ⟨g, cur, fr, h1, k _ h2, h3⟩
theorem Wt.chg {S M : Nat → Prop} {w w' : World} {T : TypeId} {sz : Nat} {ao : Option Addr} {n : Nat} (h : Wt S w T sz ao n) (k : Chg M w w') (hd : ∀ b, b < w.heap.size → S b → M b → False) : Wt S w' T sz ao n := by
  rcases h with h | ⟨g, cur, fr, h1, h2, h3, h4⟩
  · exact .inl h
  · exact .inr ⟨g, cur, fr, h1, h2, k.obj h3 (fun hm => hd g (Array.getElem?_eq_some_iff.1 h3).1 h2 hm), h4⟩
theorem Wt.lt {S : Nat → Prop} {w : World} {T : TypeId} {sz : Nat} {ao : Option Addr} {n : Nat} (h : Wt S w T sz ao n) : Wt (fun b => S b ∧ b < w.heap.size) w T sz ao n := by
  rcases h with h | ⟨g, cur, fr, h1, h2, h3, h4⟩
  · exact .inl h
  · exact .inr ⟨g, cur, fr, h1, ⟨h2, (Array.getElem?_eq_some_iff.1 h3).1⟩, h3, h4⟩
theorem Wt.pure {S : Nat → Prop} {w w' : World} {T : TypeId} {sz : Nat} {ao : Option Addr} {n : Nat} (h : Wt S w T sz ao n) (k : Chg Nob w w') : Wt S w' T sz ao n := h.keep k.shk
theorem Row.wt {α : Type} {e : Enc α} {S : Nat → Prop} {w : World} {T : TypeId} {ao : Option Addr} {c : Nat} {xs : List α} (h : Row S w T e ao c xs) : Wt S w T e.sz ao xs.length := by
  have hcap := h.own.cap
  rcases h.own.2.2 with ⟨rfl, rfl⟩ | ⟨g, cur, fr, rfl, hg, hfr, _, hsz, _⟩
  · exact .inl (by omega)
  · exact .inr ⟨g, cur, fr, rfl, h.at_ _ rfl, hg, hfr, by rw [hsz]; exact Nat.mul_le_mul_right _ hcap⟩
section
variable {P : Program} {ops : Array Oper} {Q : Exit → Act → World → Prop} {N : Nat} {E : Env} {w : World} {rest : List Oper} {ty : TypeId} {pos : String} {af : Array Edge}
theorem WL.storeW {t T : TypeId} {x y : Operand} {g o k : Nat} {vs : List Value} {cur : Array Value} {fr : Nat × Nat} (hs : ∀ w, (sizeOf t).run P w = .ok k w) (hg : w.heap[g]? = some (.cells cur T fr)) (hfr : ∀ j, j < cur.size → ¬ (fr.1 ≤ j ∧ j < fr.2))
    (hx : ev E x = some (.pointer (some ⟨g, o, none⟩))) (hy : ev E y = some (.agg vs.toArray)) (hk : vs.length = k) (h1 : ∀ u ∈ vs, u.oneCell' = true) (ho : o + k ≤ cur.size)
    (h : ∀ w', w'.heap.size = w.heap.size → Chg (· = g) w w' → ShK w w' → WL P ops Q N rest E w') :
    WL P ops Q N (⟨none, .store t x y, ty, pos, af, none⟩ :: rest) E w := by
  have hsame := setCells_same g T fr vs o w cur hg (by omega)
  have hch := setCells_chg g vs o w
  refine WL.run0 (w.setCells g o vs) (fun a hh => ?_) (h _ (setCells_sz _ _ _) hch (ShK.set hch hg hsame ?_))
  · have hst := run_storeCells_cells (P := P) g o vs 0 w (fun j hj => by
      rw [cell_of_row w g _ cur T fr hg, Array.getElem?_eq_getElem (by omega)]; rfl) (fun j hj => by
      have h3 := hfr (o + j) (by omega)
      simp only [World.frozen?, hg]
      simp
      intro hh
      exact Nat.le_of_not_lt (fun hlt => h3 ⟨hh, hlt⟩)) h1
    simp only [Nat.add_zero] at hst
    simp [execOp, ev_eval hh hx, ev_eval hh hy, Instr.storeAt, Instr.sureAddr, storeVar, hs, Value.cells, hk, hst]
  · simp only [List.size_toArray, List.length_append, List.length_take, List.length_drop, Array.length_toList]
    omega
/-- one cell of an element is written; blocks stay in shape -/
theorem WL.storeFS {α : Type} {e : Enc α} {S : Nat → Prop} {t T : TypeId} {x y : Operand} {g o c : Nat} {xs ys : List α} {v : Value} (hs : ∀ w, (sizeOf t).run P w = .ok 1 w) (hr : Row S w T e (some ⟨g, 0, none⟩) c xs) (hx : ev E x = some (.pointer (some ⟨g, o, none⟩))) (hy : ev E y = some v) (h1 : v.oneCell' = true)
    (ho : o + 1 ≤ xs.length * e.sz) (hl : ys.length = xs.length) (he : (e.all xs).take o ++ [v] ++ (e.all xs).drop (o + 1) = e.all ys)
    (h : ∀ w', w'.heap.size = w.heap.size → Row S w' T e (some ⟨g, 0, none⟩) c ys → Chg (· = g) w w' → ShK w w' → WL P ops Q N rest E w') :
    WL P ops Q N (⟨none, .store t x y, ty, pos, af, none⟩ :: rest) E w := by
  obtain ⟨h2, h3, h4⟩ := hr.splice (vs := [v]) ho hl he
  have hsh : ShK w (w.setCells g o [v]) := by
    obtain ⟨hat, hlen, hcap, hc | ⟨g', cur, fr, hg', hg, hfr, hmax, hsz, htk⟩⟩ := hr
    · cases hc.1
    · cases hg'
      have hcs : xs.length * e.sz ≤ c * e.sz := Nat.mul_le_mul_right _ hcap
      refine ShK.set (setCells_chg g [v] o w) hg (setCells_same g T fr [v] o w cur hg (by simp; omega)) ?_
      simp only [List.size_toArray, List.length_append, List.length_take, List.length_drop, Array.length_toList, List.length_cons, List.length_nil]
      omega
  refine WL.run0 (w.setCells g o [v]) (fun a hh => ?_) (h _ (setCells_sz _ _ _) h2 (setCells_chg g [v] o w) hsh)
  have hst := run_storeCells_cells (P := P) g o [v] 0 w (by simpa using h3) (by simpa using h4) (by simpa using h1)
  simp only [Nat.add_zero] at hst
  have hc1 : v.cells = #[v] := by cases v <;> simp_all [Value.oneCell', Value.cells]
  simp [execOp, ev_eval hh hx, ev_eval hh hy, Instr.storeAt, Instr.sureAddr, storeVar, hs, hc1, hst]
end
end Go.HL
