import Derived.Laws.StructEq
import Derived.Laws.Small
import Derived.Laws.MakeOwn
import Derived.Laws.Cover3
import Derived.Laws.ResultCell
import Derived.Test.YtjdbjdgobhjbkaaProg
import Derived.Tactics
import Derived.Tactics2
import Derived.Defers
import Derived.Laws.Pointers
import Derived.Laws.LoneSync
import Derived.RegionTactic
import Derived.RegionCalls
import Derived.ChangeAlike
import Derived.Test.YtjdbjdgobhjbkaaQParityHeals1
namespace Go.HL
open Go.RowKit

/-! more operations: the other side of a number, bits of ints, structs that are compared -/
section
variable {P : Program} {ops : Array Oper} {Q : Exit → Act → World → Prop} {N : Nat} {E : Env} {w : World} {rest : List Oper}
  {d : Nat} {ty : TypeId} {pos : String} {af : Array Edge} {t tb : TypeId} {x y : Operand}
theorem WL.neg64 {n : Int} (hx : ev E x = some (vi n)) (hb : -9223372036854775808 ≤ -n ∧ -n ≤ 9223372036854775807) (hd : Nat.blt d N = true) (h : WL P ops Q N rest ((d, vi (-n)) :: E) w) :
    WL P ops Q N (⟨some d, .unOp .neg t x, ty, pos, af, none⟩ :: rest) E w :=
  WL.run _ w (fun a ha => by simp [execOp, ev_eval ha hx, Op.unary, Op.intArith, wrap_i64 hb]) hd h
theorem xor_negb (a b : Nat) (hb : b < 2) (ha : a < 9223372036854775808) : IntKind.i64.wrap ((BitVec.ofInt 64 (a : Int) ^^^ BitVec.ofInt 64 (-(b : Int))).toNat : Int) = if b = 1 then -(a : Int) - 1 else (a : Int) := by
  have h1 : b = 0 ∨ b = 1 := by omega
  rcases h1 with rfl | rfl
  · simp
    rw [Int.emod_eq_of_lt (by omega) (by omega)]
    exact wrap_i64 (by omega)
  · have e : BitVec.ofInt 64 (-((1 : Nat) : Int)) = BitVec.allOnes 64 := by decide
    have e2 : BitVec.ofInt 64 (a : Int) = BitVec.ofNat 64 a := by simp
    rw [e, e2, BitVec.xor_allOnes, BitVec.toNat_not, BitVec.toNat_ofNat, Nat.mod_eq_of_lt (by omega)]
    simp only [if_true, IntKind.wrap, IntKind.bits, IntKind.signed]
    simp
    omega
theorem n_xornegb (t : TypeId) (w : World) (a b : Nat) (hb : b < 2) (ha : a < 9223372036854775808) : (binOp .xor t (vi a) (vi (-(b : Int)))).run P w = .ok (vi (if b = 1 then -(a : Int) - 1 else (a : Int))) w := by
  rw [← xor_negb a b hb ha]
  simp only [binOp, Op.intBits, IntKind.bits]
  simp only [ne_eq, not_true_eq_false, if_false, Sem.run_pure]
  rfl
/-- a number without a sign that an int holds -/
theorem WL.c_u64_i64s {src dst : TypeId} {b : UInt64} {n : Nat} (hk : P.underlying src = some (.int .u64)) (ht : P.underlying dst = some (.int .i64)) (hx : ev E x = some (v64 b)) (hb : b.toNat = n ∧ n ≤ 9223372036854775807) (hd : Nat.blt d N = true) (h : WL P ops Q N rest ((d, vi n) :: E) w) : WL P ops Q N (⟨some d, .convert src dst x, ty, pos, af, none⟩ :: rest) E w :=
  WL.conv hk ht hx hd (by rw [wrap_i64 (by omega), hb.1]; exact h)
/-- to the left by a count that stands in an int -/
theorem WL.shlv {a : UInt64} {m : Int} (n : Nat) (hx : ev E x = some (v64 a)) (hy : ev E y = some (vi m)) (hm : m = (n : Int) ∧ n < 64) (hd : Nat.blt d N = true) (h : WL P ops Q N rest ((d, v64 (a <<< UInt64.ofNat n)) :: E) w) : WL P ops Q N (⟨some d, .binOp .shl t x y tb, ty, pos, af, none⟩ :: rest) E w :=
  WL.num hx hy (by rw [hm.1]; exact n_shl64 _ _ _ _ n hm.2) hd h
theorem WL.shrv {a : UInt64} {m : Int} (n : Nat) (hx : ev E x = some (v64 a)) (hy : ev E y = some (vi m)) (hm : m = (n : Int) ∧ n < 64) (hd : Nat.blt d N = true) (h : WL P ops Q N rest ((d, v64 (a >>> UInt64.ofNat n)) :: E) w) : WL P ops Q N (⟨some d, .binOp .shr t x y tb, ty, pos, af, none⟩ :: rest) E w :=
  WL.num hx hy (by rw [hm.1]; exact n_shr64 _ _ _ _ n hm.2) hd h
theorem WL.quo64i {m n : Int} (hx : ev E x = some (vi m)) (hy : ev E y = some (vi n)) (hb : 0 ≤ m ∧ m ≤ 9223372036854775807 ∧ 0 < n) (hd : Nat.blt d N = true) (h : WL P ops Q N rest ((d, vi (m / n)) :: E) w) : WL P ops Q N (⟨some d, .binOp .quo t x y tb, ty, pos, af, none⟩ :: rest) E w :=
  WL.quok hx hy (by omega) hd (by
    have e : m.tdiv n = m / n := Int.tdiv_eq_ediv_of_nonneg hb.1
    have h1 : 0 ≤ m / n := Int.ediv_nonneg hb.1 (by omega)
    have h2 : m / n ≤ m := Int.ediv_le_self _ hb.1
    rw [e, wrap_i64 (by omega)]
    exact h)
theorem WL.rem64i {m n : Int} (hx : ev E x = some (vi m)) (hy : ev E y = some (vi n)) (hb : 0 ≤ m ∧ 0 < n) (hd : Nat.blt d N = true) (h : WL P ops Q N rest ((d, vi (m % n)) :: E) w) : WL P ops Q N (⟨some d, .binOp .rem t x y tb, ty, pos, af, none⟩ :: rest) E w :=
  WL.remk hx hy (by omega) hd (by
    have e : m.tmod n = m % n := Int.tmod_eq_emod_of_nonneg hb.1
    rw [e]
    exact h)
theorem WL.aeql {xs ys : Array Value} {b : Bool} (hg : P.eqGuardType P.depth t = false) (he : ∀ w, (Op.equalIn 10000 t (.agg xs) (.agg ys)).run P w = .ok b w) (hx : ev E x = some (.agg xs)) (hy : ev E y = some (.agg ys)) (hd : Nat.blt d N = true) (h : WL P ops Q N rest ((d, .bool b) :: E) w) :
    WL P ops Q N (⟨some d, .binOp .eql t x y tb, ty, pos, af, none⟩ :: rest) E w :=
  WL.run _ w (fun a ha => by simp [execOp, ev_eval ha hx, ev_eval ha hy, run_eqGuard_agg _ _ _ _ _ _ _ hg, run_eql_struct, he]) hd h
theorem WL.aneq {xs ys : Array Value} {p : Prop} [Decidable p] (hg : P.eqGuardType P.depth t = false) (he : ∀ w, (Op.equalIn 10000 t (.agg xs) (.agg ys)).run P w = .ok (decide p) w) (hx : ev E x = some (.agg xs)) (hy : ev E y = some (.agg ys)) (hd : Nat.blt d N = true) (h : WL P ops Q N rest ((d, .bool (decide (¬ p))) :: E) w) :
    WL P ops Q N (⟨some d, .binOp .neq t x y tb, ty, pos, af, none⟩ :: rest) E w :=
  WL.run _ w (fun a ha => by simp [execOp, ev_eval ha hx, ev_eval ha hy, run_eqGuard_agg _ _ _ _ _ _ _ hg, run_neq_struct, he]) hd h
theorem WL.aeql? {xs ys : Array Value} {p : Prop} [Decidable p] (hg : P.eqGuardType P.depth t = false) (he : ∀ w, (Op.equalIn 10000 t (.agg xs) (.agg ys)).run P w = .ok (decide p) w) (hx : ev E x = some (.agg xs)) (hy : ev E y = some (.agg ys)) (hd : Nat.blt d N = true) (ht : p → WL P ops Q N rest ((d, .bool true) :: E) w) (hf : ¬ p → WL P ops Q N rest ((d, .bool false) :: E) w) :
    WL P ops Q N (⟨some d, .binOp .eql t x y tb, ty, pos, af, none⟩ :: rest) E w :=
  WL.aeql hg he hx hy hd (by by_cases h : p; · simpa [h] using ht h
                             · simpa [h] using hf h)
theorem WL.aneq? {xs ys : Array Value} {p : Prop} [Decidable p] (hg : P.eqGuardType P.depth t = false) (he : ∀ w, (Op.equalIn 10000 t (.agg xs) (.agg ys)).run P w = .ok (decide p) w) (hx : ev E x = some (.agg xs)) (hy : ev E y = some (.agg ys)) (hd : Nat.blt d N = true) (ht : ¬ p → WL P ops Q N rest ((d, .bool true) :: E) w) (hf : p → WL P ops Q N rest ((d, .bool false) :: E) w) :
    WL P ops Q N (⟨some d, .binOp .neq t x y tb, ty, pos, af, none⟩ :: rest) E w :=
  WL.aneq hg he hx hy hd (by by_cases h : p; · simpa [h] using hf h
                             · simpa [h] using ht h)
end

/-! the fields of structs that are compared -/
section
variable {P : Program} {d : Nat} {xs ys : Array Value} {f : Field} {fs : List Field} {a b : Value} {r s : Bool} {w : World}
theorem eqf_nil : (Op.eqFields d xs ys []).run P w = .ok true w := by simp [Op.eqFields]
theorem eqf_cons (hn : (f.name == "_") = false) (ha : (part f.type xs f.offset).run P w = .ok a w) (hb : (part f.type ys f.offset).run P w = .ok b w) (he : (Op.equalIn d f.type a b).run P w = .ok r w) (hr : (Op.eqFields d xs ys fs).run P w = .ok s w) : (Op.eqFields d xs ys (f :: fs)).run P w = .ok (r && s) w := by
  have hn' : f.name ≠ "_" := by simpa using hn
  rw [Op.eqFields]
  simp only [if_pos hn', Sem.run_bind, ha, hb, he, Result.andThen_ok]
  cases r
  · simp
  · simpa using hr
theorem eqA_of {t : TypeId} {fs : Array Field} (hu : P.underlying t = some (.struct fs)) (hp : P.stoodInHeld t = false) (h : (Op.eqFields d xs ys fs.toList).run P w = .ok r w) : (Op.equalIn (d + 1) t (.agg xs) (.agg ys)).run P w = .ok r w := by
  have hf : P.fieldsOf t = fs := by simp [Program.fieldsOf, hu]
  rw [run_equalIn_struct (P := P) w d t xs ys (by rw [hf]; exact hu) hp, hf]
  exact h
theorem part1 {t : TypeId} {cs : List Value} {o : Nat} {v : Value} (hs : ∀ w, (sizeOf t).run P w = .ok 1 w) (hg : ∀ w, (isAgg t).run P w = .ok false w) (hv : cs[o]? = some v) : (part t cs.toArray o).run P w = .ok v w := by
  simp [part, hs, hg, hv]
end
end Go.HL
namespace Go.HL
open Go.RowKit
section
variable {P : Program} {ops : Array Oper} {Q : Exit → Act → World → Prop} {N : Nat} {E : Env} {w : World} {rest : List Oper}
  {d : Nat} {ty : TypeId} {pos : String} {af : Array Edge} {t tb : TypeId} {x y : Operand}
theorem WL.beql {a b : Bool} (ht : P.underlying t = some .bool) (hx : ev E x = some (.bool a)) (hy : ev E y = some (.bool b)) (hd : Nat.blt d N = true) (h : WL P ops Q N rest ((d, .bool (a == b)) :: E) w) :
    WL P ops Q N (⟨some d, .binOp .eql t x y tb, ty, pos, af, none⟩ :: rest) E w :=
  WL.run _ w (fun c ha => by simp [execOp, ev_eval ha hx, ev_eval ha hy, eqGuard, binOp, run_equal_bool w t a b ht]) hd h
theorem WL.bneq {a b : Bool} (ht : P.underlying t = some .bool) (hx : ev E x = some (.bool a)) (hy : ev E y = some (.bool b)) (hd : Nat.blt d N = true) (h : WL P ops Q N rest ((d, .bool (!(a == b))) :: E) w) :
    WL P ops Q N (⟨some d, .binOp .neq t x y tb, ty, pos, af, none⟩ :: rest) E w :=
  WL.run _ w (fun c ha => by simp [execOp, ev_eval ha hx, ev_eval ha hy, eqGuard, binOp, run_equal_bool w t a b ht]) hd h
theorem WL.bneqF {a b : Bool} (ht : P.underlying t = some .bool) (hx : ev E x = some (.bool a)) (hy : ev E y = some (.bool b)) (hab : a = b) (hd : Nat.blt d N = true) (h : WL P ops Q N rest ((d, .bool false) :: E) w) :
    WL P ops Q N (⟨some d, .binOp .neq t x y tb, ty, pos, af, none⟩ :: rest) E w :=
  WL.bneq ht hx hy hd (by subst hab; simpa using h)
theorem WL.maxi {k : IntKind} {m n : Int} {ats : Array TypeId} (hx : ev E x = some (.int k m)) (hy : ev E y = some (.int k n)) (hd : Nat.blt d N = true) (h : WL P ops Q N rest ((d, .int k (if n > m then n else m)) :: E) w) :
    WL P ops Q N (⟨some d, .call ⟨.builtin .max, #[x, y], ats⟩, ty, pos, af, none⟩ :: rest) E w :=
  WL.run _ w (fun c ha => by simp [execOp, resolve, invoke, builtin, ev_eval ha hx, ev_eval ha hy, run_max_int2]) hd h
theorem WL.mini {k : IntKind} {m n : Int} {ats : Array TypeId} (hx : ev E x = some (.int k m)) (hy : ev E y = some (.int k n)) (hd : Nat.blt d N = true) (h : WL P ops Q N rest ((d, .int k (if n < m then n else m)) :: E) w) :
    WL P ops Q N (⟨some d, .call ⟨.builtin .min, #[x, y], ats⟩, ty, pos, af, none⟩ :: rest) E w :=
  WL.run _ w (fun c ha => by simp [execOp, resolve, invoke, builtin, ev_eval ha hx, ev_eval ha hy, run_min_int2]) hd h
end
end Go.HL
namespace Go.HL
open Go.RowKit
section
variable {P : Program} {ops : Array Oper} {Q : Exit → Act → World → Prop} {N : Nat} {E : Env} {w : World} {rest : List Oper}
  {d : Nat} {ty : TypeId} {pos : String} {af : Array Edge} {t tb : TypeId} {x y : Operand}
/-- a whole block is read -/
theorem WL.loadsB {e : TypeId} {b k : Nat} {cs : List Value} (ha : ∀ w, (isAgg t).run P w = .ok true w) (hs : ∀ w, (sizeOf t).run P w = .ok k w) (hb : Blk w b e cs) (hx : ev E x = some (.pointer (some ⟨b, 0, none⟩))) (hk : cs.length = k) (hd : Nat.blt d N = true) (h : WL P ops Q N rest ((d, .agg cs.toArray) :: E) w) :
    WL P ops Q N (⟨some d, .load t x, ty, pos, af, none⟩ :: rest) E w :=
  WL.loads cs ha hs hx (fun j v hj => by rw [Nat.zero_add]; exact hb.cell hj) hk hd h
variable {fn : Func} {R : Ending → World → Prop}
theorem run_loadVarB {T e : TypeId} {b k : Nat} {cs : List Value} (ha : ∀ w, (isAgg T).run P w = .ok true w) (hs : ∀ w, (sizeOf T).run P w = .ok k w) (hb : Blk w b e cs) (hk : cs.length = k) : (loadVar T ⟨b, 0, none⟩).run P w = .ok (.agg cs.toArray) w := by
  have hl := run_loadCells_list (P := P) w ⟨b, 0, none⟩ cs (fun j v hj => by rw [Addr.add_lit, Nat.zero_add]; exact hb.cell hj)
  rw [hk] at hl
  simp [loadVar, ha, hs, hl]
theorem WX.ret1c {x : Exit} (hx : x = .ret ∨ x = .normal) {t T e : TypeId} {b k : Nat} {cs : List Value} (h : fn.results = #[.cell t T]) (ha : ∀ w, (isAgg T).run P w = .ok true w) (hs : ∀ w, (sizeOf T).run P w = .ok k w) (hb : Blk w b e cs) (hv : E.lookup t = some (.pointer (some ⟨b, 0, none⟩))) (hk : cs.length = k)
    (hR : R (.returned (.agg cs.toArray)) w) : WX (bodyPost P fn R) x N E w :=
  WX.retOf hx _ (fun a hh => by
    have h1 := getD_of hh hv
    simp only [Array.getD_eq_getD_getElem?] at h1
    have h2 := run_loadVarB ha hs hb hk
    simp [results, h, h1, asAddr, h2]) hR
theorem WX.ret2c {x : Exit} (hx : x = .ret ∨ x = .normal) {t u T e : TypeId} {b k : Nat} {cs : List Value} {v : Value} (h : fn.results = #[.cell t T, .tmp u]) (ha : ∀ w, (isAgg T).run P w = .ok true w) (hs : ∀ w, (sizeOf T).run P w = .ok k w) (hb : Blk w b e cs) (hv : E.lookup t = some (.pointer (some ⟨b, 0, none⟩))) (hk : cs.length = k)
    (hu : E.lookup u = some v) (hR : R (.returned (.tuple #[.agg cs.toArray, v])) w) : WX (bodyPost P fn R) x N E w :=
  WX.retOf hx _ (fun a hh => by
    have h1 := getD_of hh hv
    have h3 := getD_of hh hu
    simp only [Array.getD_eq_getD_getElem?] at h1 h3
    have h2 := run_loadVarB ha hs hb hk
    simp [results, h, h1, h3, asAddr, h2]) hR
end
end Go.HL
namespace Go.HL
open Go.RowKit

/-! arrays, rows made of zeros, slices that are nil, marks -/
section
variable {P : Program} {ops : Array Oper} {Q : Exit → Act → World → Prop} {N : Nat} {E : Env} {w : World} {rest : List Oper}
  {d : Nat} {ty : TypeId} {pos : String} {af : Array Edge} {t tb T : TypeId} {x y : Operand} {α : Type} {e : Enc α} {S : Nat → Prop}
theorem WL.nilCheck {ad : Addr} (hx : ev E x = some (.pointer (some ad))) (hd : Nat.blt d N = true) (h : WL P ops Q N rest ((d, .pointer (some ad)) :: E) w) : WL P ops Q N (⟨some d, .nilCheck x, ty, pos, af, none⟩ :: rest) E w :=
  WL.run _ w (fun a ha => by simp [execOp, ev_eval ha hx]) hd h
/-- a place in an array of one-cell elements that begins its block -/
theorem WL.indexArr {b n : Nat} {k : IntKind} {i : Int} (j : Nat) (ht : P.underlying t = some (.array n T)) (hs : ∀ w, (sizeOf T).run P w = .ok 1 w) (hx : ev E x = some (.pointer (some ⟨b, 0, none⟩))) (hy : ev E y = some (.int k i)) (hi : i = (j : Int) ∧ j < n) (hd : Nat.blt d N = true)
    (h : WL P ops Q N rest ((d, .pointer (some ⟨b, j, none⟩)) :: E) w) : WL P ops Q N (⟨some d, .indexAddr t x y, ty, pos, af, none⟩ :: rest) E w :=
  WL.run _ w (fun a ha => by
    obtain ⟨rfl, hj⟩ := hi
    have h2 : ((j : Int) < (n : Int)) := by omega
    simp [execOp, ev_eval ha hx, ev_eval ha hy, Instr.indexAt, asIntOf, run_underlying ht, hs, Instr.sureAddr, hj, Addr.add_lit]) hd h
/-- an element of an array that is a value -/
theorem WL.indexV {n : Nat} {k : IntKind} {i : Int} {cs : List Value} {v : Value} (j : Nat) (ht : P.underlying t = some (.array n T)) (hs : ∀ w, (sizeOf T).run P w = .ok 1 w) (hg : ∀ w, (isAgg T).run P w = .ok false w) (hx : ev E x = some (.agg cs.toArray)) (hy : ev E y = some (.int k i)) (hi : i = (j : Int) ∧ j < n) (hv : cs[j]? = some v) (hd : Nat.blt d N = true)
    (h : WL P ops Q N rest ((d, v) :: E) w) : WL P ops Q N (⟨some d, .index t x y, ty, pos, af, none⟩ :: rest) E w :=
  WL.run _ w (fun a ha => by
    obtain ⟨rfl, hj⟩ := hi
    simp [execOp, ev_eval ha hx, ev_eval ha hy, Instr.index, asIntOf, run_underlying ht, hs, hg, part, hj, hv]) hd h
theorem WL.isNil {T : TypeId} {ao : Option Addr} {n c : Nat} (ht : P.underlying t = some (.slice T)) (hx : ev E x = some (.slice ao n c)) (hy : ev E y = some (.slice none 0 0)) (hd : Nat.blt d N = true) (h : WL P ops Q N rest ((d, .bool ao.isNone) :: E) w) :
    WL P ops Q N (⟨some d, .binOp .eql t x y tb, ty, pos, af, none⟩ :: rest) E w :=
  WL.run _ w (fun a ha => by simp [execOp, ev_eval ha hx, ev_eval ha hy, eqGuard, binOp, run_equal_slice_nil w t T ao n c ht]) hd h
theorem WL.notNil {T : TypeId} {ao : Option Addr} {n c : Nat} (ht : P.underlying t = some (.slice T)) (hx : ev E x = some (.slice ao n c)) (hy : ev E y = some (.slice none 0 0)) (hd : Nat.blt d N = true) (h : WL P ops Q N rest ((d, .bool (!ao.isNone)) :: E) w) :
    WL P ops Q N (⟨some d, .binOp .neq t x y tb, ty, pos, af, none⟩ :: rest) E w :=
  WL.run _ w (fun a ha => by simp [execOp, ev_eval ha hx, ev_eval ha hy, eqGuard, binOp, run_equal_slice_nil w t T ao n c ht]) hd h
theorem WL.isNil? {T : TypeId} {ao : Option Addr} {n c : Nat} (ht : P.underlying t = some (.slice T)) (hx : ev E x = some (.slice ao n c)) (hy : ev E y = some (.slice none 0 0)) (hd : Nat.blt d N = true) (hT : ao = none → WL P ops Q N rest ((d, .bool true) :: E) w) (hf : ao ≠ none → WL P ops Q N rest ((d, .bool false) :: E) w) :
    WL P ops Q N (⟨some d, .binOp .eql t x y tb, ty, pos, af, none⟩ :: rest) E w :=
  WL.isNil ht hx hy hd (by cases ao with
    | none => exact hT rfl
    | some a => exact hf (by simp))
/-- the complement -/
theorem WL.not32 {b : UInt32} (hx : ev E x = some (v32 b)) (hd : Nat.blt d N = true) (h : WL P ops Q N rest ((d, v32 (~~~b)) :: E) w) : WL P ops Q N (⟨some d, .unOp .xor t x, ty, pos, af, none⟩ :: rest) E w :=
  WL.run _ w (fun a ha => by
    have e1 : IntKind.u32.max = ((4294967295 : UInt32).toNat : Int) := by decide
    have e2 : (Op.intBits .xor .u32 ((4294967295 : UInt32).toNat : Int) (b.toNat : Int)).run P w = .ok (v32 ((4294967295 : UInt32) ^^^ b)) w := by
      have := n_xor32 (P := P) 0 w 4294967295 b
      simpa [binOp] using this
    have e3 : (4294967295 : UInt32) ^^^ b = ~~~b := by
      apply UInt32.toBitVec_inj.1
      show 4294967295#32 ^^^ b.toBitVec = ~~~b.toBitVec
      rw [← BitVec.allOnes_xor]
      rfl
    rw [e3] at e2
    have e4 : (Op.intBits .xor .u32 4294967295 (b.toNat : Int)).run P w = .ok (v32 (~~~b)) w := e2
    simp only [execOp, ev_eval ha hx, Op.unary, show IntKind.u32.signed = false from rfl, e1]
    simp [e4]) hd h
theorem WL.shl32v {a : UInt32} {m : Int} {k : IntKind} (n : Nat) (hx : ev E x = some (v32 a)) (hy : ev E y = some (.int k m)) (hm : m = (n : Int) ∧ n < 32) (hd : Nat.blt d N = true) (h : WL P ops Q N rest ((d, v32 (a <<< UInt32.ofNat n)) :: E) w) : WL P ops Q N (⟨some d, .binOp .shl t x y tb, ty, pos, af, none⟩ :: rest) E w :=
  WL.num hx hy (by rw [hm.1]; exact n_shl32 _ _ _ _ n hm.2) hd h
theorem WL.shr32v {a : UInt32} {m : Int} {k : IntKind} (n : Nat) (hx : ev E x = some (v32 a)) (hy : ev E y = some (.int k m)) (hm : m = (n : Int) ∧ n < 32) (hd : Nat.blt d N = true) (h : WL P ops Q N rest ((d, v32 (a >>> UInt32.ofNat n)) :: E) w) : WL P ops Q N (⟨some d, .binOp .shr t x y tb, ty, pos, af, none⟩ :: rest) E w :=
  WL.num hx hy (by rw [hm.1]; exact n_shr32 _ _ _ _ n hm.2) hd h
/-- a row of zeros -/
theorem make_cells (z : Array Value) (z0 : α) (n c : Nat) (hz : z.toList = e.f z0) (hnc : n ≤ c) : (madeCells z (c * e.sz)).toList.take (n * e.sz) = e.all (List.replicate n z0) := by
  have hsz : z.size = e.sz := by rw [← e.len z0, ← hz, Array.length_toList]
  have hp := e.pos
  apply List.ext_getElem?
  intro j
  have hlen : (e.all (List.replicate n z0)).length = n * e.sz := by rw [Enc.all_len]; simp
  by_cases hj : j < n * e.sz
  · have hjc : j < c * e.sz := Nat.lt_of_lt_of_le hj (Nat.mul_le_mul_right _ hnc)
    have hq : j % e.sz < e.sz := Nat.mod_lt _ hp
    have hd : j / e.sz < n := Nat.div_lt_of_lt_mul (by rw [Nat.mul_comm]; exact hj)
    have h1 := e.all_at (xs := List.replicate n z0) (j := j / e.sz) (x := z0) (by simp [hd]) hq
    rw [show j / e.sz * e.sz + j % e.sz = j from by rw [Nat.mul_comm]; exact Nat.div_add_mod j e.sz] at h1
    rw [h1, List.getElem?_take_of_lt hj]
    simp only [madeCells, Array.getElem?_toList, Array.getElem?_map, Array.getElem?_range, hjc, if_true, Option.map_some, hsz]
    have h2 : j % e.sz < z.size := by omega
    rw [← hz, Array.getElem?_toList, Array.getElem?_eq_getElem h2]
    simp [h2]
  · rw [List.getElem?_eq_none (by simp; omega), List.getElem?_eq_none (by omega)]
theorem WL.make {lo hi : Operand} {kl kc : IntKind} {l c : Int} {bytes : Nat} {z : Value} (z0 : α) (n m : Nat) (ht : P.underlying t = some (.slice T)) (hinfo : (P.info? T).map (fun i => (i.zero, i.size, i.bytes)) = some (some z, e.sz, bytes)) (hz : z.cells.toList = e.f z0)
    (hl : ev E lo = some (.int kl l)) (hc : ev E hi = some (.int kc c)) (hn : l = (n : Int) ∧ c = (m : Int) ∧ n ≤ m) (hb : bytes * m ≤ 140737488355328 ∧ m ≤ 9223372036854775807) (hd : Nat.blt d N = true)
    (h : ∀ g w', Row (w.heap.size ≤ ·) w' T e (some ⟨g, 0, none⟩) m (List.replicate n z0) → Chg Nob w w' → w'.heap.size = w.heap.size + 1 → g = w.heap.size → WL P ops Q N rest ((d, .slice (some ⟨g, 0, none⟩) (List.replicate n z0).length m) :: E) w') :
    WL P ops Q N (⟨some d, .makeSlice t lo hi, ty, pos, af, none⟩ :: rest) E w := by
  obtain ⟨i, hi1, h1, h2, h3⟩ := info_parts hinfo
  obtain ⟨rfl, rfl, hnm⟩ := hn
  have hbb : (bytes : Int) * (m : Int) ≤ 281474976710656 := by
    have : ((bytes * m : Nat) : Int) ≤ 281474976710656 := by omega
    rwa [Int.natCast_mul] at this
  have hr := run_make (P := P) w t T i z ht hi1 h1 kl kc (n : Int) (m : Int) (by omega) (by omega) (by rw [h3]; exact hbb) (by omega)
  simp only [Int.toNat_natCast, h2] at hr
  refine WL.run (.slice (some ⟨w.heap.size, 0, none⟩) n m) (w.alloc (.cells (madeCells z.cells (m * e.sz)) T)) (fun a ha => by simp [execOp, ev_eval ha hl, ev_eval ha hc, hr]) hd ?_
  have hsz : (madeCells z.cells (m * e.sz)).size = m * e.sz := by simp [madeCells]
  have := h w.heap.size (w.alloc (.cells (madeCells z.cells (m * e.sz)) T)) ⟨fun a ea => by injection ea with ea; subst ea; exact Nat.le_refl _, ?_⟩ (Chg.alloc _ _) (by simp) rfl
  · simpa using this
  · refine ⟨by rw [Enc.all_len], by simpa using hnm, .inr ⟨w.heap.size, _, (0, 0), rfl, ?_, ?_, ?_, hsz, ?_⟩⟩
    · show (w.heap.push _)[w.heap.size]? = _
      simp
    · intro j _ hh; omega
    · simpa [maxLen] using hb.2
    · rw [List.length_replicate]
      exact make_cells _ _ _ _ hz hnm
/-- bytes of the call's own turned to bytes: a mark is laid behind their end -/
theorem WL.mark {ao : Option Addr} {c : Nat} {xs : List UInt8} (ht : P.underlying t = some (.slice T)) (hT : P.underlying T = some (.int .u8)) (hr : Row S w T eb ao c xs) (hne : xs ≠ []) (hx : ev E x = some (.slice ao xs.length c)) (hd : Nat.blt d N = true)
    (h : ∀ w', RSl S w' eb ao c xs → Chg (fun b => Eqb ao b ∧ S b) w w' → w'.heap.size = w.heap.size → WL P ops Q N rest ((d, .slice ao xs.length c) :: E) w') :
    WL P ops Q N (⟨some d, .convert t t x, ty, pos, af, none⟩ :: rest) E w := by
  cases ao with
  | none => exact absurd hr.rsl.none_nil hne
  | some a =>
    rcases hr.own.2.2 with ⟨h0, _⟩ | ⟨g, cur, fr, ea, hg, hfr, hcm, hcs, htk⟩
    · cases h0
    · injection ea with ea
      subst ea
      have hsh : w.shape? g = some (T, cur.size) := by simp [World.shape?, hg]
      have hmark : (markStringish ⟨g, 0, none⟩).run P w = .ok () (w.freeze ⟨g, cur.size, none⟩ 1) := by
        simp [markStringish, hsh]
      have hfz : (w.freeze ⟨g, cur.size, none⟩ 1).heap[g]? = some (.cells cur T (if fr.1 == fr.2 then (cur.size, cur.size + 1) else (min fr.1 cur.size, max fr.2 (cur.size + 1)))) := by
        simp only [World.freeze]
        rw [if_neg (by decide)]
        simp only [Array.getElem?_modify, hg, if_true, Option.map_some]
      have hk : Chg (fun b => Eqb (some (⟨g, 0, none⟩ : Addr)) b ∧ S b) w (w.freeze ⟨g, cur.size, none⟩ 1) := by
        have hS : S g := hr.at_ _ rfl
        refine ⟨rfl, rfl, rfl, by simp [World.freeze], fun k hk hm => ?_⟩
        have hne : k ≠ g := fun e => hm ⟨⟨_, rfl, e⟩, e ▸ hS⟩
        simp only [World.freeze]
        rw [if_neg (by decide)]
        rw [Array.getElem?_modify, if_neg (fun e => hne e.symm)]
      refine WL.run _ (w.freeze ⟨g, cur.size, none⟩ 1) (fun a ha => ?_) hd (h _ ⟨fun _ => hr.at_, hr.own.cap, hr.own.1, fun j u hj => ?_⟩ hk (by simp [World.freeze]))
      · simp [execOp, ev_eval ha hx, convert, run_underlying ht, run_underlying hT, hmark]
      · obtain ⟨b, off, e1, hc⟩ := hr.rsl.sl.2 j u hj
        injection e1 with e1
        injection e1 with e1 e2
        subst e1; subst e2
        refine ⟨_, _, rfl, ?_⟩
        unfold World.cell? at hc ⊢
        simp only [hg, hfz] at hc ⊢
        exact hc
end
end Go.HL
namespace Go.HL
open Go.RowKit
section
variable {P : Program} {ops : Array Oper} {Q : Exit → Act → World → Prop} {N : Nat} {E : Env} {w : World} {rest : List Oper}
  {d : Nat} {ty : TypeId} {pos : String} {af : Array Edge} {t tb T : TypeId}
/-- an array whose elements are all written out, each of one cell -/
theorem WL.buildArr {n : Nat} {ps : List (Nat × Operand)} {z : Value} (vs : List Value) (ht : P.underlying t = some (.array n T)) (hs : ∀ w, (sizeOf T).run P w = .ok 1 w) (hz : ∀ w, (zeroValue t).run P w = .ok z w) (hzs : z.cells.size = n)
    (hx : evp E 0 ps = some vs) (hn : vs.length = n) (hv1 : ∀ v ∈ vs, v.cells = #[v]) (hd : Nat.blt d N = true)
    (h : WL P ops Q N rest ((d, .agg vs.toArray) :: E) w) : WL P ops Q N (⟨some d, .build t ps.toArray, ty, pos, af, none⟩ :: rest) E w :=
  WL.run _ w (fun a ha => by
    obtain ⟨h1, h2⟩ := evp_eval ha hx
    have hf := fill_enum 1 vs 0 z.cells (fun v hv => by rw [hv1 v hv]; rfl) (by rw [hzs, ← hn]; omega)
    have hflat : vs.flatMap (·.cells.toList) = vs := by
      clear hx hn h h2 h1 hf
      induction vs with
      | nil => rfl
      | cons v r ih => rw [List.flatMap_cons, hv1 v (by simp), ih (fun u hu => hv1 u (by simp [hu]))]; rfl
    rw [hflat] at hf
    simp only [Nat.zero_mul, List.take_zero, List.nil_append, Nat.mul_one] at hf
    simp [execOp, h1, Instr.build, hz, run_underlying ht, hs, hf]) hd h
theorem map_at {α β : Type} {xs : List α} {j : Nat} {x : α} (f : α → β) (h : xs[j]? = some x) : (xs.map f)[j]? = some (f x) := by simp [h]
end
end Go.HL
namespace Go.HL
open Go.RowKit
section
variable {P : Program} (t : TypeId) (w : World)
theorem n_quo8 (a b : UInt8) (hb : b.toNat ≠ 0) : (binOp .quo t (v8 a) (v8 b)).run P w = .ok (v8 (a / b)) w := by
  have : ¬ ((b.toNat : Int) = 0) := by omega
  have h2 : ((a.toNat : Int).tdiv (b.toNat : Int)) = ((a.toNat / b.toNat : Nat) : Int) := rfl
  have h3 : (UInt8.ofNat (a.toNat / b.toNat)) = a / b := by
    apply UInt8.toNat_inj.1
    simp
    exact Nat.lt_of_le_of_lt (Nat.div_le_self _ _) a.toNat_lt
  simp only [binOp, Op.intDiv, if_neg this, h2, wrap8, h3]; simp
theorem n_rem8 (a b : UInt8) (hb : b.toNat ≠ 0) : (binOp .rem t (v8 a) (v8 b)).run P w = .ok (v8 (a % b)) w := by
  have : ¬ ((b.toNat : Int) = 0) := by omega
  simp only [binOp, Op.intDiv, if_neg this]; simp [this]
  congr 2
end
section
variable {P : Program} {ops : Array Oper} {Q : Exit → Act → World → Prop} {N : Nat} {E : Env} {w : World} {rest : List Oper} {ty : TypeId} {pos : String} {af : Array Edge} {α : Type} {e : Enc α} {S : Nat → Prop} {t T : TypeId} {x y : Operand}
theorem all_set (e : Enc α) (h1 : e.sz = 1) {z : α} {v : Value} (hz : e.f z = [v]) : ∀ (xs : List α) (j : Nat), e.all (xs.set j z) = (e.all xs).set j v
  | [], j => by simp [Enc.all]
  | x :: r, 0 => by
    have hl := e.len x
    rw [h1] at hl
    obtain ⟨u, hu⟩ := List.length_eq_one_iff.1 hl
    simp [Enc.all, hz, hu]
  | x :: r, j + 1 => by
    have hl := e.len x
    rw [h1] at hl
    obtain ⟨u, hu⟩ := List.length_eq_one_iff.1 hl
    have ih := all_set e h1 hz r j
    simp only [Enc.all] at ih
    simp [Enc.all, hu, ih]
theorem Row.place0 {T : TypeId} {ao : Option Addr} {c : Nat} {xs : List α} {j : Nat} (hr : Row S w T e ao c xs) (hz : j < xs.length) : ∃ g, ao = some ⟨g, 0, none⟩ := by
  rcases hr.own.2.2 with ⟨rfl, _⟩ | ⟨g, _, _, rfl, _⟩
  · have := hr.rsl.none_nil
    subst this
    simp at hz
  · exact ⟨g, rfl⟩
theorem WL.storeRow {g o c : Nat} {xs : List α} {z : α} {v : Value} (j : Nat) (hs : ∀ w, (sizeOf t).run P w = .ok 1 w) (hr : Row S w T e (some ⟨g, 0, none⟩) c xs) (h1 : e.sz = 1) (hz : e.f z = [v]) (hx : ev E x = some (.pointer (some ⟨g, o, none⟩))) (ho : o = j) (hj : j < xs.length) (hy : ev E y = some v)
    (h : ∀ w', w'.heap.size = w.heap.size → Row S w' T e (some ⟨g, 0, none⟩) c (xs.set j z) → Chg (· = g) w w' → WL P ops Q N rest E w') :
    WL P ops Q N (⟨none, .store t x y, ty, pos, af, none⟩ :: rest) E w := by
  subst ho
  have hv1 : v.oneCell' = true := e.one z v (by rw [hz]; simp)
  have hr' := hr
  obtain ⟨hat, hlen, hcap, hc | ⟨g', cur, fr, hg', hg, hfr, hmax, hsz, htk⟩⟩ := hr
  · cases hc.1
  · cases hg'
    rw [h1] at hsz htk hlen
    simp only [Nat.mul_one] at hsz htk hlen
    have hoc : o < cur.size := by omega
    refine WL.run0 (w.setCell ⟨g, o, none⟩ v) (fun a hh => by
      have hst : (Go.store ⟨g, o, none⟩ v).run P w = .ok () (w.setCell ⟨g, o, none⟩ v) := by
        rw [run_store P w _ v _ hv1]
        have h3 := hfr o hoc
        have hcell : w.cell? ⟨g, o, none⟩ = some (cur[o]'hoc) := by rw [cell_of_row w g o cur T fr hg, Array.getElem?_eq_getElem hoc]
        have hfz : w.frozen? ⟨g, o, none⟩ = false := by
          simp only [World.frozen?, hg]
          simp
          intro hh
          exact Nat.le_of_not_lt (fun hlt => h3 ⟨hh, hlt⟩)
        simp [hcell, hfz]
      have hc1 : v.cells = #[v] := by cases v <;> simp_all [Value.oneCell', Value.cells]
      simp [execOp, ev_eval hh hx, ev_eval hh hy, Instr.storeAt, Instr.sureAddr, storeVar, hs, hc1, storeCells, Addr.add_lit, hst]) (h _ (by simp) ?_ (Chg.setCell w ⟨g, o, none⟩ v))
    have hnew : (w.setCell ⟨g, o, none⟩ v).heap[g]? = some (.cells (cur.setIfInBounds o v) T fr) := by
      simp only [World.setCell, Array.getElem?_modify, hg, if_true, Option.map_some]
      simp
    refine ⟨hat, by rw [all_set e h1 hz, List.length_set, List.length_set, h1, Nat.mul_one]; exact hlen, by simpa using hcap, .inr ⟨g, cur.setIfInBounds o v, fr, rfl, hnew, by simpa using hfr, hmax, by rw [h1, Nat.mul_one]; simpa using hsz, ?_⟩⟩
    rw [all_set e h1 hz, h1, List.length_set, Nat.mul_one, ← htk, Array.toList_setIfInBounds, List.take_set]
end
end Go.HL
namespace Go.HL
open Go.RowKit
section
variable {P : Program} {ops : Array Oper} {Q : Exit → Act → World → Prop} {N : Nat} {E : Env} {w : World} {rest : List Oper} {ty : TypeId} {pos : String} {af : Array Edge} {d : Nat} {α : Type} {e : Enc α} {S : Nat → Prop} {t T : TypeId} {x y : Operand}
/-- a block as a slice from its head on -/
theorem RSl.ofBlk {g c : Nat} {zs : List α} (h : Blk w g T (e.all zs)) (hc : zs.length ≤ c) : RSl (· = g) w e (some ⟨g, 0, none⟩) c zs :=
  ⟨fun _ a ea => by injection ea with ea; subst ea; rfl, hc, by rw [Enc.all_len], fun j u hu => ⟨g, 0, rfl, by rw [Nat.zero_add]; exact h.cell hu⟩⟩
theorem WL.makeB {lo hi : Operand} {kl kc : IntKind} {l c : Int} {bytes : Nat} {z : Value} (z0 : α) (n m : Nat) (ht : P.underlying t = some (.slice T)) (hinfo : (P.info? T).map (fun i => (i.zero, i.size, i.bytes)) = some (some z, e.sz, bytes)) (hz : z.cells.toList = e.f z0)
    (hl : ev E lo = some (.int kl l)) (hc : ev E hi = some (.int kc c)) (hn : l = (n : Int) ∧ c = (m : Int) ∧ n ≤ m) (hb : bytes * m ≤ 140737488355328 ∧ m ≤ 9223372036854775807) (hd : Nat.blt d N = true)
    (h : ∀ g w', Blk w' g T (e.all (List.replicate m z0)) → Chg Nob w w' → w'.heap.size = w.heap.size + 1 → g = w.heap.size → WL P ops Q N rest ((d, .slice (some ⟨g, 0, none⟩) n m) :: E) w') :
    WL P ops Q N (⟨some d, .makeSlice t lo hi, ty, pos, af, none⟩ :: rest) E w := by
  obtain ⟨i, hi1, h1, h2, h3⟩ := info_parts hinfo
  obtain ⟨rfl, rfl, hnm⟩ := hn
  have hbb : (bytes : Int) * (m : Int) ≤ 281474976710656 := by
    have : ((bytes * m : Nat) : Int) ≤ 281474976710656 := by omega
    rwa [Int.natCast_mul] at this
  have hr := run_make (P := P) w t T i z ht hi1 h1 kl kc (n : Int) (m : Int) (by omega) (by omega) (by rw [h3]; exact hbb) (by omega)
  simp only [Int.toNat_natCast, h2] at hr
  refine WL.run (.slice (some ⟨w.heap.size, 0, none⟩) n m) (w.alloc (.cells (madeCells z.cells (m * e.sz)) T)) (fun a ha => by simp [execOp, ev_eval ha hl, ev_eval ha hc, hr]) hd ?_
  refine h w.heap.size (w.alloc (.cells (madeCells z.cells (m * e.sz)) T)) ?_ (Chg.alloc _ _) (by simp) rfl
  have h4 := make_cells (e := e) z.cells z0 m m hz (Nat.le_refl _)
  rw [List.take_of_length_le (by simp [madeCells])] at h4
  rw [← h4]
  have := Blk.new w T (madeCells z.cells (m * e.sz)).toList
  simpa using this
theorem setCells_size (g : Nat) : ∀ (vs : List Value) (o : Nat) (w : World), (w.setCells g o vs).heap.size = w.heap.size
  | [], _, _ => rfl
  | v :: r, o, w => by rw [World.setCells, setCells_size g r]; simp
theorem WL.appendB {tx : TypeId} {s : Operand} {g n c bytes : Nat} {zs ys : List α} {z v : Value} (hinfo : (P.info? T).map (fun i => (i.zero, i.size, i.bytes)) = some (some z, e.sz, bytes))
    (ht : P.underlying t = some (.slice T)) (hs : ev E s = some (.slice (some ⟨g, 0, none⟩) n c)) (hx : ev E x = some v) (ho : Blk w g T (e.all zs)) (hzc : zs.length = c) (hsrc : Src P e.sz tx v ys.length (e.all ys) w)
    (hroom : n + ys.length ≤ c) (hd : Nat.blt d N = true)
    (h : ∀ w', Blk w' g T (e.all (zs.take n ++ ys ++ zs.drop (n + ys.length))) → Chg (· = g) w w' → w'.heap.size = w.heap.size → WL P ops Q N rest ((d, .slice (some ⟨g, 0, none⟩) (n + ys.length) c) :: E) w') :
    WL P ops Q N (⟨some d, .call ⟨.builtin .append, #[s, x], #[t, tx]⟩, ty, pos, af, none⟩ :: rest) E w := by
  obtain ⟨i, hi, h1, h2, h3⟩ := info_parts hinfo
  have hlen : (e.all zs).length = c * e.sz := by rw [Enc.all_len, hzc]
  have hlen2 : (e.all ys).length = ys.length * e.sz := Enc.all_len _ _
  have hfit : n * e.sz + (e.all ys).length ≤ (e.all zs).length := by rw [hlen, hlen2, ← Nat.add_mul]; exact Nat.mul_le_mul_right _ hroom
  have hfit2 : n * i.size + (e.all ys).length ≤ (e.all zs).toArray.size := by rw [h2]; simpa using hfit
  have hr := run_append_room_src (P := P) w t tx ty T i ht hi g 0 n c v ys.length (e.all ys) (by rw [h2]; exact hsrc) hroom
    (fun j hj => by rw [Nat.zero_add, cell_of_row w g _ (e.all zs).toArray T (0, 0) ho]; rw [Array.getElem?_eq_getElem (by omega)]; rfl)
    (fun j hj => ho.free _)
  rw [Nat.zero_add, h2] at hr
  refine WL.run _ _ (fun a ha => by simp [execOp, resolve, invoke, builtin, ev_eval ha hs, ev_eval ha hx, hr]; rfl) hd (h _ ?_ (setCells_chg g _ _ w) (setCells_size _ _ _ _))
  have hs2 := setCells_blk ho (n * e.sz) (e.all ys) hfit
  rw [Enc.all_append, Enc.all_append, ← Enc.all_take, ← Enc.all_drop, Nat.add_mul, ← hlen2]
  exact hs2
/-- append to a row of the call's own: what it held is read as before at its old place -/
theorem WL.append' {tx : TypeId} {s : Operand} {ao : Option Addr} {c bytes : Nat} {xs ys : List α} {z v : Value} (hinfo : (P.info? T).map (fun i => (i.zero, i.size, i.bytes)) = some (some z, e.sz, bytes)) (hzs : z.cells.size = e.sz)
    (ht : P.underlying t = some (.slice T)) (hs : ev E s = some (.slice ao xs.length c)) (hx : ev E x = some v) (ho : Row S w T e ao c xs) (hsrc : Src P e.sz tx v ys.length (e.all ys) w)
    (hb : (xs.length + ys.length) * bytes ≤ 140737488355328 ∧ xs.length + ys.length ≤ 9223372036854775807) (hS : ∀ b, w.heap.size ≤ b → S b) (hd : Nat.blt d N = true)
    (h : ∀ ao2 c2 w', Row S w' T e ao2 c2 (xs ++ ys) → Grow S w ao w' ao2 → (ao2 = none → xs ++ ys = []) → RSl S w' e ao c xs → WL P ops Q N rest ((d, .slice ao2 (xs ++ ys).length c2) :: E) w') :
    WL P ops Q N (⟨some d, .call ⟨.builtin .append, #[s, x], #[t, tx]⟩, ty, pos, af, none⟩ :: rest) E w := by
  obtain ⟨i, hi, h1, h2, h3⟩ := info_parts hinfo
  obtain ⟨ao', c', w', hr, how, hc, hor, hno⟩ := run_append_hl (P := P) w t tx ty T i z e.sz bytes ht hi h1 h2 h3 hzs ao xs.length c (e.all xs) ho.own v ys.length (e.all ys) hsrc (by simpa [maxLen] using hb.2) hb.1
  refine WL.run _ w' (fun a ha => by simp [execOp, resolve, invoke, builtin, ev_eval ha hs, ev_eval ha hx, hr]; rfl) hd ?_
  rw [← List.length_append]
  have hrow : Row S w' T e ao' c' (xs ++ ys) := ⟨by
    rcases hor with rfl | h5
    · exact ho.at_
    · exact h5.mono hS, by rw [List.length_append, Enc.all_append]; exact how⟩
  refine h ao' c' w' hrow ⟨hc.mono fun b _ hb => ⟨hb.1, ho.at_.eqb hb.1⟩, hor⟩ (fun hn => ?_) ?_
  · obtain ⟨rfl, h6⟩ := hno hn
    have h7 := ho.rsl.none_nil
    subst h7
    simpa using h6
  · by_cases he : ao' = ao
    · subst he
      have := hrow.rsl.take xs.length (by simp)
      rw [List.take_left] at this
      exact ⟨this.at_, ho.rsl.cap, this.sl⟩
    · exact ho.rsl.chg hc (fun b _ _ h9 => he h9.2)
theorem WL.sliceTop {hi : Operand} {ao : Option Addr} {n c h : Nat} {j : IntKind} {xs : List α} (ht : P.underlying t = some (.slice T)) (hs : ∀ w, (sizeOf T).run P w = .ok e.sz w) (hr : RSl S w e ao c xs) (hx : ev E x = some (.slice ao n c))
    (hhi : ev E hi = some (.int j (h : Int))) (hl : h ≤ xs.length) (hd : Nat.blt d N = true)
    (k' : ∀ ao2, RSl S w e ao2 c (xs.take h) → WL P ops Q N rest ((d, .slice ao2 (xs.take h).length c) :: E) w) : WL P ops Q N (⟨some d, .slice t x none (some hi) none, ty, pos, af, none⟩ :: rest) E w := by
  have hcap := hr.cap
  have h1 := hr.cut 0 h ⟨Nat.zero_le _, hl⟩
  rw [List.drop_zero, Nat.sub_zero] at h1
  refine WL.run _ w (fun a ha => ?_) hd (k' _ h1)
  have := run_sliceAt (P := P) (t := t) w ht hs ao n c 0 h .i64 j none (some (.int j (h : Int))) (.inr ⟨rfl, rfl⟩) (.inl ⟨rfl, by omega⟩) (Nat.zero_le _)
  simp [execOp, ev_eval ha hx, ev_eval ha hhi, this]
  omega
end
end Go.HL
namespace Go.HL
open Go.RowKit
/-! more on ints, arrays that lie within a block -/
section
variable {P : Program}
theorem xor_int (a b : Nat) (ha : a < 4611686018427387904) (hb : b < 4611686018427387904) : IntKind.i64.wrap ((BitVec.ofInt 64 (a : Int) ^^^ BitVec.ofInt 64 (b : Int)).toNat : Int) = ((a ^^^ b : Nat) : Int) := by
  have e1 : BitVec.ofInt 64 (a : Int) = BitVec.ofNat 64 a := by simp
  have e2 : BitVec.ofInt 64 (b : Int) = BitVec.ofNat 64 b := by simp
  have h3 : a ^^^ b < 2 ^ 62 := Nat.xor_lt_two_pow (by omega) (by omega)
  rw [e1, e2, BitVec.toNat_xor, BitVec.toNat_ofNat, BitVec.toNat_ofNat, Nat.mod_eq_of_lt (by omega), Nat.mod_eq_of_lt (by omega)]
  exact wrap_i64 (by omega)
theorem n_xori (t : TypeId) (w : World) (a b : Nat) (ha : a < 4611686018427387904) (hb : b < 4611686018427387904) : (binOp .xor t (vi a) (vi b)).run P w = .ok (vi ((a ^^^ b : Nat) : Int)) w := by
  rw [← xor_int a b ha hb]
  simp only [binOp, Op.intBits, IntKind.bits]
  simp only [ne_eq, not_true_eq_false, if_false, Sem.run_pure]
  rfl
theorem n_shli (t : TypeId) (w : World) (a n : Nat) (hn : n < 62) (ha : a * 2 ^ n < 4611686018427387904) (k : IntKind) : (binOp .shl t (vi a) (.int k (n : Int))).run P w = .ok (vi ((a * 2 ^ n : Nat) : Int)) w := by
  have h1 : ¬ ((n : Int) < 0) := by omega
  have h2 : min n 64 = n := by omega
  simp only [binOp, Op.shift, if_neg h1, IntKind.bits, Int.toNat_natCast, h2]
  have h3 : (a : Int) * 2 ^ n = ((a * 2 ^ n : Nat) : Int) := by simp
  rw [h3, wrap_i64 (by omega)]
  rfl
end
section
variable {P : Program} {ops : Array Oper} {Q : Exit → Act → World → Prop} {N : Nat} {E : Env} {w : World} {rest : List Oper} {d : Nat} {ty : TypeId} {pos : String} {af : Array Edge} {t T tb : TypeId} {x y : Operand}
theorem WL.indexArrO {b o n : Nat} {k : IntKind} {i : Int} (j : Nat) (ht : P.underlying t = some (.array n T)) (hs : ∀ w, (sizeOf T).run P w = .ok 1 w) (hx : ev E x = some (.pointer (some ⟨b, o, none⟩))) (hy : ev E y = some (.int k i)) (hi : i = (j : Int) ∧ j < n) (hd : Nat.blt d N = true)
    (h : WL P ops Q N rest ((d, .pointer (some ⟨b, o + j, none⟩)) :: E) w) : WL P ops Q N (⟨some d, .indexAddr t x y, ty, pos, af, none⟩ :: rest) E w :=
  WL.run _ w (fun a ha => by
    obtain ⟨rfl, hj⟩ := hi
    have h2 : ((j : Int) < (n : Int)) := by omega
    simp [execOp, ev_eval ha hx, ev_eval ha hy, Instr.indexAt, asIntOf, run_underlying ht, hs, Instr.sureAddr, hj, Addr.add_lit]) hd h
end
end Go.HL
namespace Go.HL
open Go.RowKit
/-- a row of bytes among others: where it lies, its room, what it holds -/
structure Rw where
  ao : Option Addr
  cap : Nat
  xs : List UInt8
def erow : Enc Rw := ⟨1, fun r => [.slice r.ao r.xs.length r.cap], fun _ => rfl, by simp [Value.oneCell'], by decide⟩
/-- rows of bytes that are read -/
structure RS (S : Nat → Prop) (w : World) (ao : Option Addr) (c : Nat) (rs : List Rw) : Prop where
  outer : RSl S w erow ao c rs
  inner : ∀ r ∈ rs, RSl S w eb r.ao r.cap r.xs
section
variable {S : Nat → Prop} {w w' : World} {ao : Option Addr} {c : Nat} {rs : List Rw} {M : Nat → Prop}
theorem RS.chg (h : RS S w ao c rs) (k : Chg M w w') (hd : ∀ b, b < w.heap.size → S b → M b → False) : RS S w' ao c rs := ⟨h.outer.chg k hd, fun r hr => (h.inner r hr).chg k hd⟩
theorem RS.pure (h : RS S w ao c rs) (k : Chg Nob w w') : RS S w' ao c rs := ⟨h.outer.pure k, fun r hr => (h.inner r hr).pure k⟩
theorem RS.mono {S' : Nat → Prop} (h : RS S w ao c rs) (k : ∀ b, S b → S' b) : RS S' w ao c rs := ⟨h.outer.mono k, fun r hr => (h.inner r hr).mono k⟩
theorem RS.old (h : RS S w ao c rs) : RS (· < w.heap.size) w ao c rs := ⟨h.outer.old, fun r hr => (h.inner r hr).old⟩
theorem RS.at (h : RS S w ao c rs) {i : Nat} {r : Rw} (hr : rs[i]? = some r) : RSl S w eb r.ao r.cap r.xs := h.inner r (List.mem_of_getElem? hr)
end
end Go.HL
namespace Go.HL
open Go.ChangeShapes Go.WideShapes Go.ChangeAt Go.RowKit Go.Deep
section
variable {H : Type} {enc : TypeId × Value → H} {P : Program} {W : World} {α : Type}
/-- cells that are a slice: what it reads, as a list -/
theorem open_trod {t T : TypeId} (ht : P.underlying t = some (.slice T)) (e : Enc α) (WF : α → DataW H → Prop) (hC : P.cellsOf T = e.sz)
    (hel : ∀ (n : Nat) (cs : List Value) (y : DataW H × List MemPlace), cs.length = e.sz → (∀ (q : Nat) (v : Value), cs[q]? = some v → True) → DataW.trod enc P W 0 (fun _ => true) true n T cs = some y → ∃ x, cs = e.f x ∧ WF x y.1)
    {fuel : Nat} {cs0 : List Value} {y0 : DataW H × List MemPlace} (hf : DataW.trod enc P W 0 (fun _ => true) true fuel t cs0 = some y0) :
    ∃ (ao : Option Addr) (c : Nat) (xs : List α), cs0 = [.slice ao xs.length c] ∧ RSl (· < W.heap.size) W e ao c xs ∧ (y0.1 = .nil ∧ xs = [] ∨ ∃ el sp, y0.1 = .slice el sp ∧ xs.length = el.length ∧ ∀ (i : Nat) (x : α), xs[i]? = some x → ∃ d, el[i]? = some d ∧ WF x d) := by
  rcases open_slice ht hf with ⟨hcs, hx⟩ | ⟨a, len0, cap0, m, n, D, Pl, hcs, hb, hl, hm, hmm, hx, hi⟩
  · exact ⟨none, 0, [], hcs, RSl.nil _ _ _ _ _, .inl ⟨congrArg Prod.fst hx, rfl⟩⟩
  · simp only [if_true] at hmm
    subst hmm
    obtain ⟨X, hX⟩ := choose_lt (α := Option α) (n := len0) (p := fun i x => ∃ z, x = some z ∧ WF z (D i) ∧ ∀ q u, (e.f z)[q]? = some u → W.cell? ((a.add (i * e.sz)).add q) = some u) (fun i hil => by
      obtain ⟨cs', h1, h2⟩ := hi i (by omega)
      rw [hC] at h1
      obtain ⟨_, hlen, hat⟩ := World.cells?_some h1
      obtain ⟨z, rfl, hz⟩ := hel n cs' _ hlen (fun _ _ _ => trivial) h2
      refine ⟨some z, z, rfl, hz, fun q u hq => ?_⟩
      have hql := (List.getElem?_eq_some_iff.1 hq).1
      rw [hat q (by rw [← hlen]; exact hql)]
      exact hq)
    have hlx : ∀ (k : Nat), k ≤ len0 → ∃ xs : List α, xs.length = k ∧ ∀ i, i < k → ∃ z, xs[i]? = some z ∧ X i = some z := by
      intro k
      induction k with
      | zero => intro _; exact ⟨[], rfl, fun i hi => by omega⟩
      | succ k ih =>
        intro hk
        obtain ⟨xs, hxl, hxs⟩ := ih (by omega)
        obtain ⟨z, hz, _⟩ := hX k (by omega)
        refine ⟨xs ++ [z], by simp [hxl], fun i hi => ?_⟩
        by_cases e : i = k
        · subst e; exact ⟨z, by simp [← hxl], hz⟩
        · obtain ⟨y, h1, h2⟩ := hxs i (by omega)
          exact ⟨y, by rw [List.getElem?_append_left (by omega)]; exact h1, h2⟩
    obtain ⟨xs, hxl, hxs⟩ := hlx len0 (Nat.le_refl _)
    have hmem : ∀ (i : Nat) (x : α), xs[i]? = some x → ∃ d, ((List.range len0).map D)[i]? = some d ∧ WF x d := by
      intro i x hx
      have hil : i < len0 := by rw [← hxl]; exact (List.getElem?_eq_some_iff.1 hx).1
      obtain ⟨z, h1, h2⟩ := hxs i hil
      obtain ⟨z', h3, h4, _⟩ := hX i hil
      rw [h2] at h3; injection h3 with h3; subst h3
      rw [hx] at h1; injection h1 with h1; subst h1
      exact ⟨D i, by simp [hil], h4⟩
    have hspot : xs ≠ [] → ∃ b off, a = ⟨b, off, none⟩ := by
      intro hne
      have hpos : 0 < len0 := by rw [← hxl]; exact List.length_pos_iff.2 hne
      obtain ⟨z, _, _, hc⟩ := hX 0 hpos
      have hq : (e.f z)[0]? = some ((e.f z)[0]'(by rw [e.len]; exact e.pos)) := List.getElem?_eq_getElem _
      have h1 := hc 0 _ hq
      rw [Nat.zero_mul] at h1
      have h2 : ((a.add 0).add 0) = a := by simp [Addr.add]
      rw [h2] at h1
      unfold World.cell? at h1
      obtain ⟨b, off, sp⟩ := a
      cases sp with
      | none => exact ⟨b, off, rfl⟩
      | some s => simp at h1; split at h1 <;> simp at h1
    have hcell : ∀ j u, (e.all xs)[j]? = some u → ∃ b off, (some a) = some (⟨b, off, none⟩ : Addr) ∧ W.cell? ⟨b, off + j, none⟩ = some u := by
      intro j u hj
      have hjl := (List.getElem?_eq_some_iff.1 hj).1
      rw [Enc.all_len, hxl] at hjl
      have hil : j / e.sz < len0 := Nat.div_lt_of_lt_mul (by rw [Nat.mul_comm]; exact hjl)
      obtain ⟨z, h1, h2⟩ := hxs (j / e.sz) hil
      obtain ⟨z', h3, _, h4⟩ := hX (j / e.sz) hil
      rw [h2] at h3; injection h3 with h3; subst h3
      have hdm : j / e.sz * e.sz + j % e.sz = j := by rw [Nat.mul_comm]; exact Nat.div_add_mod j e.sz
      have hq : j % e.sz < e.sz := Nat.mod_lt _ e.pos
      have h5 := e.all_at h1 hq
      rw [hdm, hj] at h5
      obtain ⟨b, off, rfl⟩ := hspot (by rintro rfl; rw [← hxl] at hil; exact absurd hil (Nat.not_lt_zero _))
      refine ⟨b, off, rfl, ?_⟩
      have h6 := h4 (j % e.sz) u h5.symm
      rw [Addr.add_lit, Addr.add_lit] at h6
      rwa [Nat.add_assoc, hdm] at h6
    refine ⟨some a, m, xs, by rw [hxl]; exact hcs, ⟨fun hne a' ea => ?_, by omega, Enc.all_len _ _, hcell⟩, .inr ⟨_, _, congrArg Prod.fst hx, by simp [hxl], hmem⟩⟩
    injection ea with ea
    subst ea
    have hl0 : 0 < (e.all xs).length := by rw [Enc.all_len]; exact Nat.mul_pos (List.length_pos_iff.2 hne) e.pos
    obtain ⟨b, off, h1, h2⟩ := hcell 0 _ (List.getElem?_eq_getElem hl0)
    injection h1 with h1
    subst h1
    exact World.block_lt_of_cell? W _ h2
/-- what a row is, and its datum -/
def RowOf (W : World) (r : Rw) (d : DataW H) : Prop := RSl (· < W.heap.size) W eb r.ao r.cap r.xs ∧ (d = .nil ∧ r.xs = [] ∨ ∃ el sp, d = .slice el sp ∧ r.xs.length = el.length)
theorem el_row {t T : TypeId} (ht : P.underlying t = some (.slice T)) (hT : P.underlying T = some (.int .u8)) (hC : P.cellsOf T = 1) (n : Nat) (cs : List Value) (y : DataW H × List MemPlace) (_ : cs.length = erow.sz) (_ : ∀ (q : Nat) (v : Value), cs[q]? = some v → True)
    (h : DataW.trod enc P W 0 (fun _ => true) true n t cs = some y) : ∃ x, cs = erow.f x ∧ RowOf W x y.1 := by
  obtain ⟨ao, c, xs, h1, h2, h3⟩ := open_trod ht eb (fun _ _ => True) hC (fun n cs y a b c => el_u8 hT n cs y a b c) h
  refine ⟨⟨ao, c, xs⟩, h1, h2, ?_⟩
  rcases h3 with h3 | ⟨el, sp, h3, h4, _⟩
  · exact .inl h3
  · exact .inr ⟨el, sp, h3, h4⟩
/-- an argument that is rows of bytes -/
theorem open_rows {t T U : TypeId} (ht : P.underlying t = some (.slice T)) (hT : P.underlying T = some (.slice U)) (hU : P.underlying U = some (.int .u8)) (hC : P.cellsOf T = 1) (hCU : P.cellsOf U = 1)
    {base : Nat} {v : Value} {d : DataW H} {p : List MemPlace} (hv : Value.okWide P W .any base t v) (h : DataW.Trod enc P W 0 (fun _ => true) true t v d p) :
    ∃ (ao : Option Addr) (c : Nat) (rs : List Rw), v = .slice ao rs.length c ∧ RS (· < W.heap.size) W ao c rs ∧ (d = .nil ∧ rs = [] ∨ ∃ el sp, d = .slice el sp ∧ rs.length = el.length ∧ ∀ (i : Nat) (x : Rw), rs[i]? = some x → ∃ d, el[i]? = some d ∧ RowOf W x d) := by
  obtain ⟨a0, len0, cap0, rfl⟩ := okWide_slice ht hv
  obtain ⟨fuel, hf⟩ := h
  obtain ⟨ao, c, rs, h1, h2, h3⟩ := open_trod ht erow (RowOf W) hC (el_row hT hU hCU) hf
  simp [Value.cells] at h1
  obtain ⟨rfl, rfl, rfl⟩ := h1
  refine ⟨_, _, rs, rfl, ⟨h2, fun r hr => ?_⟩, h3⟩
  rcases h3 with ⟨_, rfl⟩ | ⟨el, sp, _, _, h4⟩
  · cases hr
  · obtain ⟨i, hil, rfl⟩ := List.getElem_of_mem hr
    obtain ⟨d, _, h5⟩ := h4 i _ (List.getElem?_eq_getElem hil)
    exact h5.1
theorem weightsAll_mem {e : TypeId} : ∀ {l : List (DataW H)} {i : Nat} {d : DataW H}, l[i]? = some d → ∀ x ∈ d.weights P e, x ∈ DataW.weightsAll P e l
  | [], i, d, h, x, hx => by simp at h
  | c :: r, 0, d, h, x, hx => by
    simp at h
    subst h
    simp [DataW.weightsAll, hx]
  | c :: r, i + 1, d, h, x, hx => by
    have := weightsAll_mem (l := r) (i := i) (by simpa using h) x hx
    simp [DataW.weightsAll, this]
theorem reach_rows {t T U : TypeId} {d : DataW H} {rs : List Rw} {ts : List TypeId} {ds : List (DataW H)} {j : Nat} (hsz : (DataW.weightsEach P ts ds).all (· ≤ reachBytes) = true) (htj : ts[j]? = some t) (hdj : ds[j]? = some d)
    (ht : P.underlying t = some (.slice T)) (hT : P.underlying T = some (.slice U)) (hB : P.bytesOf T = 24) (hBU : P.bytesOf U = 1) (h : d = .nil ∧ rs = [] ∨ ∃ el sp, d = .slice el sp ∧ rs.length = el.length ∧ ∀ (i : Nat) (x : Rw), rs[i]? = some x → ∃ d, el[i]? = some d ∧ RowOf W x d) :
    rs.length * 24 ≤ 140737488351232 ∧ ∀ r ∈ rs, r.xs.length ≤ 140737488351232 := by
  have hrb : reachBytes = 140737488351232 := rfl
  rcases h with ⟨_, rfl⟩ | ⟨el, sp, rfl, hl, hall⟩
  · exact ⟨by simp, fun r hr => by cases hr⟩
  · constructor
    · have z := sized_slice hsz htj hdj ht
      rw [hB, hrb] at z
      rw [hl]
      omega
    · intro r hr
      obtain ⟨i, hil, rfl⟩ := List.getElem_of_mem hr
      obtain ⟨d, h1, _, h2⟩ := hall i _ (List.getElem?_eq_getElem hil)
      rcases h2 with ⟨_, h2⟩ | ⟨el2, sp2, rfl, h2⟩
      · rw [h2]; simp
      · have hm := List.all_eq_true.1 hsz _ (DataW.weights_mem_each htj hdj ((el2.length + sp2.length) * P.bytesOf U) (by
          simp only [DataW.weights, ht]
          refine List.mem_cons_of_mem _ (List.mem_append_left _ (weightsAll_mem h1 _ ?_))
          simp [DataW.weights, hT]))
        rw [hBU] at hm
        simp at hm
        rw [hrb] at hm
        omega
end
end Go.HL
namespace Go.Proofs.Ytjdbjdgobhjbkaa
open Go.RowKit Go.HL
theorem eg_2 : ∀ (args : Array Value) (w : World), (callFunc 2 args).run Try.prog w = .ok (.enter 2 args) w := eg_of Try.func2 (by kernel_rfl) rfl
theorem eg_3 : ∀ (args : Array Value) (w : World), (callFunc 3 args).run Try.prog w = .ok (.enter 3 args) w := eg_of Try.func3 (by kernel_rfl) rfl
theorem eg_4 : ∀ (args : Array Value) (w : World), (callFunc 4 args).run Try.prog w = .ok (.enter 4 args) w := eg_of Try.func4 (by kernel_rfl) rfl
theorem eg_5 : ∀ (args : Array Value) (w : World), (callFunc 5 args).run Try.prog w = .ok (.enter 5 args) w := eg_of Try.func5 (by kernel_rfl) rfl
theorem eg_6 : ∀ (args : Array Value) (w : World), (callFunc 6 args).run Try.prog w = .ok (.enter 6 args) w := eg_of Try.func6 (by kernel_rfl) rfl
theorem eg_7 : ∀ (args : Array Value) (w : World), (callFunc 7 args).run Try.prog w = .ok (.enter 7 args) w := eg_of Try.func7 (by kernel_rfl) rfl
theorem eg_8 : ∀ (args : Array Value) (w : World), (callFunc 8 args).run Try.prog w = .ok (.enter 8 args) w := eg_of Try.func8 (by kernel_rfl) rfl
theorem eg_9 : ∀ (args : Array Value) (w : World), (callFunc 9 args).run Try.prog w = .ok (.enter 9 args) w := eg_of Try.func9 (by kernel_rfl) rfl
theorem eg_10 : ∀ (args : Array Value) (w : World), (callFunc 10 args).run Try.prog w = .ok (.enter 10 args) w := eg_of Try.func10 (by kernel_rfl) rfl
theorem eg_11 : ∀ (args : Array Value) (w : World), (callFunc 11 args).run Try.prog w = .ok (.enter 11 args) w := eg_of Try.func11 (by kernel_rfl) rfl
theorem eg_12 : ∀ (args : Array Value) (w : World), (callFunc 12 args).run Try.prog w = .ok (.enter 12 args) w := eg_of Try.func12 (by kernel_rfl) rfl
theorem eg_13 : ∀ (args : Array Value) (w : World), (callFunc 13 args).run Try.prog w = .ok (.enter 13 args) w := eg_of Try.func13 (by kernel_rfl) rfl
theorem eg_14 : ∀ (args : Array Value) (w : World), (callFunc 14 args).run Try.prog w = .ok (.enter 14 args) w := eg_of Try.func14 (by kernel_rfl) rfl
theorem eg_15 : ∀ (args : Array Value) (w : World), (callFunc 15 args).run Try.prog w = .ok (.enter 15 args) w := eg_of Try.func15 (by kernel_rfl) rfl
theorem eg_16 : ∀ (args : Array Value) (w : World), (callFunc 16 args).run Try.prog w = .ok (.enter 16 args) w := eg_of Try.func16 (by kernel_rfl) rfl
theorem eg_17 : ∀ (args : Array Value) (w : World), (callFunc 17 args).run Try.prog w = .ok (.enter 17 args) w := eg_of Try.func17 (by kernel_rfl) rfl
theorem eg_18 : ∀ (args : Array Value) (w : World), (callFunc 18 args).run Try.prog w = .ok (.enter 18 args) w := eg_of Try.func18 (by kernel_rfl) rfl
theorem eg_19 : ∀ (args : Array Value) (w : World), (callFunc 19 args).run Try.prog w = .ok (.enter 19 args) w := eg_of Try.func19 (by kernel_rfl) rfl
theorem eg_20 : ∀ (args : Array Value) (w : World), (callFunc 20 args).run Try.prog w = .ok (.enter 20 args) w := eg_of Try.func20 (by kernel_rfl) rfl
theorem eg_21 : ∀ (args : Array Value) (w : World), (callFunc 21 args).run Try.prog w = .ok (.enter 21 args) w := eg_of Try.func21 (by kernel_rfl) rfl
theorem eg_22 : ∀ (args : Array Value) (w : World), (callFunc 22 args).run Try.prog w = .ok (.enter 22 args) w := eg_of Try.func22 (by kernel_rfl) rfl
theorem eg_23 : ∀ (args : Array Value) (w : World), (callFunc 23 args).run Try.prog w = .ok (.enter 23 args) w := eg_of Try.func23 (by kernel_rfl) rfl
theorem eg_24 : ∀ (args : Array Value) (w : World), (callFunc 24 args).run Try.prog w = .ok (.enter 24 args) w := eg_of Try.func24 (by kernel_rfl) rfl
theorem eg_25 : ∀ (args : Array Value) (w : World), (callFunc 25 args).run Try.prog w = .ok (.enter 25 args) w := eg_of Try.func25 (by kernel_rfl) rfl
theorem eg_26 : ∀ (args : Array Value) (w : World), (callFunc 26 args).run Try.prog w = .ok (.enter 26 args) w := eg_of Try.func26 (by kernel_rfl) rfl
theorem eg_27 : ∀ (args : Array Value) (w : World), (callFunc 27 args).run Try.prog w = .ok (.enter 27 args) w := eg_of Try.func27 (by kernel_rfl) rfl
theorem eg_28 : ∀ (args : Array Value) (w : World), (callFunc 28 args).run Try.prog w = .ok (.enter 28 args) w := eg_of Try.func28 (by kernel_rfl) rfl
theorem eg_29 : ∀ (args : Array Value) (w : World), (callFunc 29 args).run Try.prog w = .ok (.enter 29 args) w := eg_of Try.func29 (by kernel_rfl) rfl
theorem eg_30 : ∀ (args : Array Value) (w : World), (callFunc 30 args).run Try.prog w = .ok (.enter 30 args) w := eg_of Try.func30 (by kernel_rfl) rfl
theorem eg_31 : ∀ (args : Array Value) (w : World), (callFunc 31 args).run Try.prog w = .ok (.enter 31 args) w := eg_of Try.func31 (by kernel_rfl) rfl
theorem eg_32 : ∀ (args : Array Value) (w : World), (callFunc 32 args).run Try.prog w = .ok (.enter 32 args) w := eg_of Try.func32 (by kernel_rfl) rfl
theorem eg_33 : ∀ (args : Array Value) (w : World), (callFunc 33 args).run Try.prog w = .ok (.enter 33 args) w := eg_of Try.func33 (by kernel_rfl) rfl
theorem eg_34 : ∀ (args : Array Value) (w : World), (callFunc 34 args).run Try.prog w = .ok (.enter 34 args) w := eg_of Try.func34 (by kernel_rfl) rfl
theorem eg_35 : ∀ (args : Array Value) (w : World), (callFunc 35 args).run Try.prog w = .ok (.enter 35 args) w := eg_of Try.func35 (by kernel_rfl) rfl
theorem eg_36 : ∀ (args : Array Value) (w : World), (callFunc 36 args).run Try.prog w = .ok (.enter 36 args) w := eg_of Try.func36 (by kernel_rfl) rfl
theorem eg_37 : ∀ (args : Array Value) (w : World), (callFunc 37 args).run Try.prog w = .ok (.enter 37 args) w := eg_of Try.func37 (by kernel_rfl) rfl
theorem eg_38 : ∀ (args : Array Value) (w : World), (callFunc 38 args).run Try.prog w = .ok (.enter 38 args) w := eg_of Try.func38 (by kernel_rfl) rfl
theorem eg_39 : ∀ (args : Array Value) (w : World), (callFunc 39 args).run Try.prog w = .ok (.enter 39 args) w := eg_of Try.func39 (by kernel_rfl) rfl
theorem eg_40 : ∀ (args : Array Value) (w : World), (callFunc 40 args).run Try.prog w = .ok (.enter 40 args) w := eg_of Try.func40 (by kernel_rfl) rfl
theorem eg_41 : ∀ (args : Array Value) (w : World), (callFunc 41 args).run Try.prog w = .ok (.enter 41 args) w := eg_of Try.func41 (by kernel_rfl) rfl
theorem eg_42 : ∀ (args : Array Value) (w : World), (callFunc 42 args).run Try.prog w = .ok (.enter 42 args) w := eg_of Try.func42 (by kernel_rfl) rfl
theorem eg_43 : ∀ (args : Array Value) (w : World), (callFunc 43 args).run Try.prog w = .ok (.enter 43 args) w := eg_of Try.func43 (by kernel_rfl) rfl
theorem eg_44 : ∀ (args : Array Value) (w : World), (callFunc 44 args).run Try.prog w = .ok (.enter 44 args) w := eg_of Try.func44 (by kernel_rfl) rfl
theorem eg_45 : ∀ (args : Array Value) (w : World), (callFunc 45 args).run Try.prog w = .ok (.enter 45 args) w := eg_of Try.func45 (by kernel_rfl) rfl
theorem eg_46 : ∀ (args : Array Value) (w : World), (callFunc 46 args).run Try.prog w = .ok (.enter 46 args) w := eg_of Try.func46 (by kernel_rfl) rfl
theorem eg_47 : ∀ (args : Array Value) (w : World), (callFunc 47 args).run Try.prog w = .ok (.enter 47 args) w := eg_of Try.func47 (by kernel_rfl) rfl
theorem eg_48 : ∀ (args : Array Value) (w : World), (callFunc 48 args).run Try.prog w = .ok (.enter 48 args) w := eg_of Try.func48 (by kernel_rfl) rfl
theorem eg_49 : ∀ (args : Array Value) (w : World), (callFunc 49 args).run Try.prog w = .ok (.enter 49 args) w := eg_of Try.func49 (by kernel_rfl) rfl
theorem eg_50 : ∀ (args : Array Value) (w : World), (callFunc 50 args).run Try.prog w = .ok (.enter 50 args) w := eg_of Try.func50 (by kernel_rfl) rfl
theorem eg_51 : ∀ (args : Array Value) (w : World), (callFunc 51 args).run Try.prog w = .ok (.enter 51 args) w := eg_of Try.func51 (by kernel_rfl) rfl
theorem eg_52 : ∀ (args : Array Value) (w : World), (callFunc 52 args).run Try.prog w = .ok (.enter 52 args) w := eg_of Try.func52 (by kernel_rfl) rfl
theorem eg_53 : ∀ (args : Array Value) (w : World), (callFunc 53 args).run Try.prog w = .ok (.enter 53 args) w := eg_of Try.func53 (by kernel_rfl) rfl
theorem eg_54 : ∀ (args : Array Value) (w : World), (callFunc 54 args).run Try.prog w = .ok (.enter 54 args) w := eg_of Try.func54 (by kernel_rfl) rfl
theorem eg_55 : ∀ (args : Array Value) (w : World), (callFunc 55 args).run Try.prog w = .ok (.enter 55 args) w := eg_of Try.func55 (by kernel_rfl) rfl
theorem eg_56 : ∀ (args : Array Value) (w : World), (callFunc 56 args).run Try.prog w = .ok (.enter 56 args) w := eg_of Try.func56 (by kernel_rfl) rfl
theorem eg_58 : ∀ (args : Array Value) (w : World), (callFunc 58 args).run Try.prog w = .ok (.enter 58 args) w := eg_of Try.func58 (by kernel_rfl) rfl
theorem eg_59 : ∀ (args : Array Value) (w : World), (callFunc 59 args).run Try.prog w = .ok (.enter 59 args) w := eg_of Try.func59 (by kernel_rfl) rfl
theorem eg_60 : ∀ (args : Array Value) (w : World), (callFunc 60 args).run Try.prog w = .ok (.enter 60 args) w := eg_of Try.func60 (by kernel_rfl) rfl
theorem eg_61 : ∀ (args : Array Value) (w : World), (callFunc 61 args).run Try.prog w = .ok (.enter 61 args) w := eg_of Try.func61 (by kernel_rfl) rfl
theorem eg_62 : ∀ (args : Array Value) (w : World), (callFunc 62 args).run Try.prog w = .ok (.enter 62 args) w := eg_of Try.func62 (by kernel_rfl) rfl
theorem eg_64 : ∀ (args : Array Value) (w : World), (callFunc 64 args).run Try.prog w = .ok (.enter 64 args) w := eg_of Try.func64 (by kernel_rfl) rfl
theorem eg_69 : ∀ (args : Array Value) (w : World), (callFunc 69 args).run Try.prog w = .ok (.enter 69 args) w := eg_of Try.func69 (by kernel_rfl) rfl
theorem eg_72 : ∀ (args : Array Value) (w : World), (callFunc 72 args).run Try.prog w = .ok (.enter 72 args) w := eg_of Try.func72 (by kernel_rfl) rfl
theorem fld_7_0 (b o : Nat) (w : World) : (Instr.fieldAt 7 (.pointer (some ⟨b, o, none⟩)) 0).run Try.prog w = .ok (.pointer (some ⟨b, o + 0, none⟩)) w := by
  simp [Instr.fieldAt, run_underlying Try.underlying7, Instr.sureAddr, fieldPlace, Try.sizeOf2, Addr.add_lit]
theorem fld_7_1 (b o : Nat) (w : World) : (Instr.fieldAt 7 (.pointer (some ⟨b, o, none⟩)) 1).run Try.prog w = .ok (.pointer (some ⟨b, o + 1, none⟩)) w := by
  simp [Instr.fieldAt, run_underlying Try.underlying7, Instr.sureAddr, fieldPlace, Try.sizeOf3, Addr.add_lit]
theorem fld_7_2 (b o : Nat) (w : World) : (Instr.fieldAt 7 (.pointer (some ⟨b, o, none⟩)) 2).run Try.prog w = .ok (.pointer (some ⟨b, o + 2, none⟩)) w := by
  simp [Instr.fieldAt, run_underlying Try.underlying7, Instr.sureAddr, fieldPlace, Try.sizeOf4, Addr.add_lit]
theorem fld_7_3 (b o : Nat) (w : World) : (Instr.fieldAt 7 (.pointer (some ⟨b, o, none⟩)) 3).run Try.prog w = .ok (.pointer (some ⟨b, o + 3, none⟩)) w := by
  simp [Instr.fieldAt, run_underlying Try.underlying7, Instr.sureAddr, fieldPlace, Try.sizeOf6, Addr.add_lit]
theorem fld_13_0 (b o : Nat) (w : World) : (Instr.fieldAt 13 (.pointer (some ⟨b, o, none⟩)) 0).run Try.prog w = .ok (.pointer (some ⟨b, o + 0, none⟩)) w := by
  simp [Instr.fieldAt, run_underlying Try.underlying13, Instr.sureAddr, fieldPlace, Try.sizeOf9, Addr.add_lit]
theorem fld_13_1 (b o : Nat) (w : World) : (Instr.fieldAt 13 (.pointer (some ⟨b, o, none⟩)) 1).run Try.prog w = .ok (.pointer (some ⟨b, o + 1, none⟩)) w := by
  simp [Instr.fieldAt, run_underlying Try.underlying13, Instr.sureAddr, fieldPlace, Try.sizeOf12, Addr.add_lit]
theorem fld_18_0 (b o : Nat) (w : World) : (Instr.fieldAt 18 (.pointer (some ⟨b, o, none⟩)) 0).run Try.prog w = .ok (.pointer (some ⟨b, o + 0, none⟩)) w := by
  simp [Instr.fieldAt, run_underlying Try.underlying18, Instr.sureAddr, fieldPlace, Try.sizeOf17, Addr.add_lit]
theorem fld_40_0 (b o : Nat) (w : World) : (Instr.fieldAt 40 (.pointer (some ⟨b, o, none⟩)) 0).run Try.prog w = .ok (.pointer (some ⟨b, o + 0, none⟩)) w := by
  simp [Instr.fieldAt, run_underlying Try.underlying40, Instr.sureAddr, fieldPlace, Try.sizeOf22, Addr.add_lit]
theorem fld_40_1 (b o : Nat) (w : World) : (Instr.fieldAt 40 (.pointer (some ⟨b, o, none⟩)) 1).run Try.prog w = .ok (.pointer (some ⟨b, o + 1, none⟩)) w := by
  simp [Instr.fieldAt, run_underlying Try.underlying40, Instr.sureAddr, fieldPlace, Try.sizeOf33, Addr.add_lit]
theorem fld_40_2 (b o : Nat) (w : World) : (Instr.fieldAt 40 (.pointer (some ⟨b, o, none⟩)) 2).run Try.prog w = .ok (.pointer (some ⟨b, o + 2, none⟩)) w := by
  simp [Instr.fieldAt, run_underlying Try.underlying40, Instr.sureAddr, fieldPlace, Try.sizeOf23, Addr.add_lit]
theorem fld_41_0 (b o : Nat) (w : World) : (Instr.fieldAt 41 (.pointer (some ⟨b, o, none⟩)) 0).run Try.prog w = .ok (.pointer (some ⟨b, o + 0, none⟩)) w := by
  simp [Instr.fieldAt, run_underlying Try.underlying41, Instr.sureAddr, fieldPlace, Try.sizeOf22, Addr.add_lit]
theorem fld_41_1 (b o : Nat) (w : World) : (Instr.fieldAt 41 (.pointer (some ⟨b, o, none⟩)) 1).run Try.prog w = .ok (.pointer (some ⟨b, o + 1, none⟩)) w := by
  simp [Instr.fieldAt, run_underlying Try.underlying41, Instr.sureAddr, fieldPlace, Try.sizeOf33, Addr.add_lit]
theorem fld_41_2 (b o : Nat) (w : World) : (Instr.fieldAt 41 (.pointer (some ⟨b, o, none⟩)) 2).run Try.prog w = .ok (.pointer (some ⟨b, o + 2, none⟩)) w := by
  simp [Instr.fieldAt, run_underlying Try.underlying41, Instr.sureAddr, fieldPlace, Try.sizeOf23, Addr.add_lit]
theorem fld_54_1 (b o : Nat) (w : World) : (Instr.fieldAt 54 (.pointer (some ⟨b, o, none⟩)) 1).run Try.prog w = .ok (.pointer (some ⟨b, o + 0, none⟩)) w := by
  simp [Instr.fieldAt, run_underlying Try.underlying54, Instr.sureAddr, fieldPlace, Try.sizeOf53, Addr.add_lit]
theorem fld_55_1 (b o : Nat) (w : World) : (Instr.fieldAt 55 (.pointer (some ⟨b, o, none⟩)) 1).run Try.prog w = .ok (.pointer (some ⟨b, o + 0, none⟩)) w := by
  simp [Instr.fieldAt, run_underlying Try.underlying55, Instr.sureAddr, fieldPlace, Try.sizeOf53, Addr.add_lit]
theorem fld_56_0 (b o : Nat) (w : World) : (Instr.fieldAt 56 (.pointer (some ⟨b, o, none⟩)) 0).run Try.prog w = .ok (.pointer (some ⟨b, o + 0, none⟩)) w := by
  simp [Instr.fieldAt, run_underlying Try.underlying56, Instr.sureAddr, fieldPlace, Try.sizeOf21, Addr.add_lit]
theorem fld_56_1 (b o : Nat) (w : World) : (Instr.fieldAt 56 (.pointer (some ⟨b, o, none⟩)) 1).run Try.prog w = .ok (.pointer (some ⟨b, o + 1, none⟩)) w := by
  simp [Instr.fieldAt, run_underlying Try.underlying56, Instr.sureAddr, fieldPlace, Try.sizeOf53, Addr.add_lit]
theorem fld_57_0 (b o : Nat) (w : World) : (Instr.fieldAt 57 (.pointer (some ⟨b, o, none⟩)) 0).run Try.prog w = .ok (.pointer (some ⟨b, o + 0, none⟩)) w := by
  simp [Instr.fieldAt, run_underlying Try.underlying57, Instr.sureAddr, fieldPlace, Try.sizeOf21, Addr.add_lit]
theorem fld_57_1 (b o : Nat) (w : World) : (Instr.fieldAt 57 (.pointer (some ⟨b, o, none⟩)) 1).run Try.prog w = .ok (.pointer (some ⟨b, o + 1, none⟩)) w := by
  simp [Instr.fieldAt, run_underlying Try.underlying57, Instr.sureAddr, fieldPlace, Try.sizeOf53, Addr.add_lit]
theorem fld_58_1 (b o : Nat) (w : World) : (Instr.fieldAt 58 (.pointer (some ⟨b, o, none⟩)) 1).run Try.prog w = .ok (.pointer (some ⟨b, o + 0, none⟩)) w := by
  simp [Instr.fieldAt, run_underlying Try.underlying58, Instr.sureAddr, fieldPlace, Try.sizeOf57, Addr.add_lit]
theorem fld_59_1 (b o : Nat) (w : World) : (Instr.fieldAt 59 (.pointer (some ⟨b, o, none⟩)) 1).run Try.prog w = .ok (.pointer (some ⟨b, o + 0, none⟩)) w := by
  simp [Instr.fieldAt, run_underlying Try.underlying59, Instr.sureAddr, fieldPlace, Try.sizeOf57, Addr.add_lit]
theorem fld_60_1 (b o : Nat) (w : World) : (Instr.fieldAt 60 (.pointer (some ⟨b, o, none⟩)) 1).run Try.prog w = .ok (.pointer (some ⟨b, o + 0, none⟩)) w := by
  simp [Instr.fieldAt, run_underlying Try.underlying60, Instr.sureAddr, fieldPlace, Try.sizeOf55, Addr.add_lit]
theorem fld_60_2 (b o : Nat) (w : World) : (Instr.fieldAt 60 (.pointer (some ⟨b, o, none⟩)) 2).run Try.prog w = .ok (.pointer (some ⟨b, o + 1, none⟩)) w := by
  simp [Instr.fieldAt, run_underlying Try.underlying60, Instr.sureAddr, fieldPlace, Try.sizeOf59, Addr.add_lit]
theorem fld_61_1 (b o : Nat) (w : World) : (Instr.fieldAt 61 (.pointer (some ⟨b, o, none⟩)) 1).run Try.prog w = .ok (.pointer (some ⟨b, o + 0, none⟩)) w := by
  simp [Instr.fieldAt, run_underlying Try.underlying61, Instr.sureAddr, fieldPlace, Try.sizeOf55, Addr.add_lit]
theorem fld_61_2 (b o : Nat) (w : World) : (Instr.fieldAt 61 (.pointer (some ⟨b, o, none⟩)) 2).run Try.prog w = .ok (.pointer (some ⟨b, o + 1, none⟩)) w := by
  simp [Instr.fieldAt, run_underlying Try.underlying61, Instr.sureAddr, fieldPlace, Try.sizeOf59, Addr.add_lit]
theorem fld_64_0 (b o : Nat) (w : World) : (Instr.fieldAt 64 (.pointer (some ⟨b, o, none⟩)) 0).run Try.prog w = .ok (.pointer (some ⟨b, o + 0, none⟩)) w := by
  simp [Instr.fieldAt, run_underlying Try.underlying64, Instr.sureAddr, fieldPlace, Try.sizeOf61, Addr.add_lit]
theorem fld_64_1 (b o : Nat) (w : World) : (Instr.fieldAt 64 (.pointer (some ⟨b, o, none⟩)) 1).run Try.prog w = .ok (.pointer (some ⟨b, o + 3, none⟩)) w := by
  simp [Instr.fieldAt, run_underlying Try.underlying64, Instr.sureAddr, fieldPlace, Try.sizeOf62, Addr.add_lit]
theorem fld_64_2 (b o : Nat) (w : World) : (Instr.fieldAt 64 (.pointer (some ⟨b, o, none⟩)) 2).run Try.prog w = .ok (.pointer (some ⟨b, o + 513, none⟩)) w := by
  simp [Instr.fieldAt, run_underlying Try.underlying64, Instr.sureAddr, fieldPlace, Try.sizeOf63, Addr.add_lit]
theorem fld_65_0 (b o : Nat) (w : World) : (Instr.fieldAt 65 (.pointer (some ⟨b, o, none⟩)) 0).run Try.prog w = .ok (.pointer (some ⟨b, o + 0, none⟩)) w := by
  simp [Instr.fieldAt, run_underlying Try.underlying65, Instr.sureAddr, fieldPlace, Try.sizeOf61, Addr.add_lit]
theorem fld_65_1 (b o : Nat) (w : World) : (Instr.fieldAt 65 (.pointer (some ⟨b, o, none⟩)) 1).run Try.prog w = .ok (.pointer (some ⟨b, o + 3, none⟩)) w := by
  simp [Instr.fieldAt, run_underlying Try.underlying65, Instr.sureAddr, fieldPlace, Try.sizeOf62, Addr.add_lit]
theorem fld_65_2 (b o : Nat) (w : World) : (Instr.fieldAt 65 (.pointer (some ⟨b, o, none⟩)) 2).run Try.prog w = .ok (.pointer (some ⟨b, o + 513, none⟩)) w := by
  simp [Instr.fieldAt, run_underlying Try.underlying65, Instr.sureAddr, fieldPlace, Try.sizeOf63, Addr.add_lit]
theorem fld_109_0 (b o : Nat) (w : World) : (Instr.fieldAt 109 (.pointer (some ⟨b, o, none⟩)) 0).run Try.prog w = .ok (.pointer (some ⟨b, o + 0, none⟩)) w := by
  simp [Instr.fieldAt, run_underlying Try.underlying109, Instr.sureAddr, fieldPlace, Try.sizeOf17, Addr.add_lit]
theorem fld_109_1 (b o : Nat) (w : World) : (Instr.fieldAt 109 (.pointer (some ⟨b, o, none⟩)) 1).run Try.prog w = .ok (.pointer (some ⟨b, o + 1, none⟩)) w := by
  simp [Instr.fieldAt, run_underlying Try.underlying109, Instr.sureAddr, fieldPlace, Try.sizeOf17, Addr.add_lit]
theorem fld_109_2 (b o : Nat) (w : World) : (Instr.fieldAt 109 (.pointer (some ⟨b, o, none⟩)) 2).run Try.prog w = .ok (.pointer (some ⟨b, o + 2, none⟩)) w := by
  simp [Instr.fieldAt, run_underlying Try.underlying109, Instr.sureAddr, fieldPlace, Try.sizeOf17, Addr.add_lit]
theorem fld_109_3 (b o : Nat) (w : World) : (Instr.fieldAt 109 (.pointer (some ⟨b, o, none⟩)) 3).run Try.prog w = .ok (.pointer (some ⟨b, o + 3, none⟩)) w := by
  simp [Instr.fieldAt, run_underlying Try.underlying109, Instr.sureAddr, fieldPlace, Try.sizeOf9, Addr.add_lit]
theorem fld_121_0 (b o : Nat) (w : World) : (Instr.fieldAt 121 (.pointer (some ⟨b, o, none⟩)) 0).run Try.prog w = .ok (.pointer (some ⟨b, o + 0, none⟩)) w := by
  simp [Instr.fieldAt, run_underlying Try.underlying121, Instr.sureAddr, fieldPlace, Try.sizeOf12, Addr.add_lit]
theorem fld_121_1 (b o : Nat) (w : World) : (Instr.fieldAt 121 (.pointer (some ⟨b, o, none⟩)) 1).run Try.prog w = .ok (.pointer (some ⟨b, o + 1, none⟩)) w := by
  simp [Instr.fieldAt, run_underlying Try.underlying121, Instr.sureAddr, fieldPlace, Try.sizeOf12, Addr.add_lit]
theorem fld_121_2 (b o : Nat) (w : World) : (Instr.fieldAt 121 (.pointer (some ⟨b, o, none⟩)) 2).run Try.prog w = .ok (.pointer (some ⟨b, o + 2, none⟩)) w := by
  simp [Instr.fieldAt, run_underlying Try.underlying121, Instr.sureAddr, fieldPlace, Try.sizeOf53, Addr.add_lit]
theorem fld_121_3 (b o : Nat) (w : World) : (Instr.fieldAt 121 (.pointer (some ⟨b, o, none⟩)) 3).run Try.prog w = .ok (.pointer (some ⟨b, o + 3, none⟩)) w := by
  simp [Instr.fieldAt, run_underlying Try.underlying121, Instr.sureAddr, fieldPlace, Try.sizeOf115, Addr.add_lit]
theorem fld_121_4 (b o : Nat) (w : World) : (Instr.fieldAt 121 (.pointer (some ⟨b, o, none⟩)) 4).run Try.prog w = .ok (.pointer (some ⟨b, o + 4, none⟩)) w := by
  simp [Instr.fieldAt, run_underlying Try.underlying121, Instr.sureAddr, fieldPlace, Try.sizeOf5, Addr.add_lit]
theorem fld_121_5 (b o : Nat) (w : World) : (Instr.fieldAt 121 (.pointer (some ⟨b, o, none⟩)) 5).run Try.prog w = .ok (.pointer (some ⟨b, o + 5, none⟩)) w := by
  simp [Instr.fieldAt, run_underlying Try.underlying121, Instr.sureAddr, fieldPlace, Try.sizeOf5, Addr.add_lit]
theorem fld_121_6 (b o : Nat) (w : World) : (Instr.fieldAt 121 (.pointer (some ⟨b, o, none⟩)) 6).run Try.prog w = .ok (.pointer (some ⟨b, o + 6, none⟩)) w := by
  simp [Instr.fieldAt, run_underlying Try.underlying121, Instr.sureAddr, fieldPlace, Try.sizeOf116, Addr.add_lit]
theorem fld_121_7 (b o : Nat) (w : World) : (Instr.fieldAt 121 (.pointer (some ⟨b, o, none⟩)) 7).run Try.prog w = .ok (.pointer (some ⟨b, o + 7, none⟩)) w := by
  simp [Instr.fieldAt, run_underlying Try.underlying121, Instr.sureAddr, fieldPlace, Try.sizeOf117, Addr.add_lit]
theorem fld_121_8 (b o : Nat) (w : World) : (Instr.fieldAt 121 (.pointer (some ⟨b, o, none⟩)) 8).run Try.prog w = .ok (.pointer (some ⟨b, o + 8, none⟩)) w := by
  simp [Instr.fieldAt, run_underlying Try.underlying121, Instr.sureAddr, fieldPlace, Try.sizeOf118, Addr.add_lit]
theorem fld_121_9 (b o : Nat) (w : World) : (Instr.fieldAt 121 (.pointer (some ⟨b, o, none⟩)) 9).run Try.prog w = .ok (.pointer (some ⟨b, o + 9, none⟩)) w := by
  simp [Instr.fieldAt, run_underlying Try.underlying121, Instr.sureAddr, fieldPlace, Try.sizeOf119, Addr.add_lit]
theorem fld_121_10 (b o : Nat) (w : World) : (Instr.fieldAt 121 (.pointer (some ⟨b, o, none⟩)) 10).run Try.prog w = .ok (.pointer (some ⟨b, o + 10, none⟩)) w := by
  simp [Instr.fieldAt, run_underlying Try.underlying121, Instr.sureAddr, fieldPlace, Try.sizeOf120, Addr.add_lit]
theorem info_3 : (Try.prog.info? 3).map (fun i => (i.zero, i.size, i.bytes)) = some (some (.int .i64 0), 1, 8) := by kernel_rfl
theorem info_4 : (Try.prog.info? 4).map (fun i => (i.zero, i.size, i.bytes)) = some (some (.bool false), 1, 1) := by kernel_rfl
theorem info_5 : (Try.prog.info? 5).map (fun i => (i.zero, i.size, i.bytes)) = some (some (.int .u8 0), 1, 1) := by kernel_rfl
theorem info_23 : (Try.prog.info? 23).map (fun i => (i.zero, i.size, i.bytes)) = some (some (.slice none 0 0), 1, 24) := by kernel_rfl
theorem bld_84_0_1_2 (x0 : Int) (x1 : Int) (x2 : Int) (w : World) : (Instr.build 84 #[(0, .int .u8 x0), (1, .int .u8 x1), (2, .int .u8 x2)]).run Try.prog w = .ok (.agg #[.int .u8 x0, .int .u8 x1, .int .u8 x2]) w := by
  simp [Instr.build, run_underlying Try.underlying84, Try.zeroValue84, Instr.fill, Value.cells, Try.sizeOf5]
theorem mixed : Try.prog.follows .mixedOrders = true := by kernel_rfl
end Go.Proofs.Ytjdbjdgobhjbkaa
namespace Go.Proofs.Ytjdbjdgobhjbkaa
open Go.RowKit Go.HL

/-! sync.Once, one goroutine: its parts -/
theorem raceDisable (w : World) : (callFunc 65 #[]).run Try.prog w = .ok (.value (.tuple #[])) w := run_call_mark0 Try.func65 (by kernel_rfl) (by kernel_rfl) (by kernel_rfl) .disable (by kernel_rfl) w
theorem raceEnable (w : World) : (callFunc 67 #[]).run Try.prog w = .ok (.value (.tuple #[])) w := run_call_mark0 Try.func67 (by kernel_rfl) (by kernel_rfl) (by kernel_rfl) .enable (by kernel_rfl) w
theorem raceAcquire (a : Addr) (w : World) : (callFunc 68 #[.pointer (some a)]).run Try.prog w = .ok (.value (.tuple #[])) w := run_call_marked Try.func68 (by kernel_rfl) (by kernel_rfl) (by kernel_rfl) .acquire (by kernel_rfl) a w
theorem raceRelease (a : Addr) (w : World) : (callFunc 70 #[.pointer (some a)]).run Try.prog w = .ok (.value (.tuple #[])) w := run_call_marked Try.func70 (by kernel_rfl) (by kernel_rfl) (by kernel_rfl) .releaseMerge (by kernel_rfl) a w
theorem store_deferred (a : Addr) (x : Value) (u : FrameMode) (w : World) (hc : w.cell? a = some x) (hz : w.frozen? a = false) :
    CallsD Try.prog 60 #[.pointer (some a), .bool true] u w fun e u' w' => u' = u ∧ (e = .returned (.tuple #[]) ∧ w' = w.drew.setCell a (.int .u32 1)) := by
  have hc' : w.drew.cell? a = some x := by go_simp
  have hz' : w.drew.frozen? a = false := by go_simp
  have hst := run_call_store (P := Try.prog) Try.func63 (by kernel_rfl) (by kernel_rfl) (by kernel_rfl) (by kernel_rfl) (k := .u32) (y := 1) hc' hz'
  go_enter_d Try.func60, Try.ntmps60
  go_wp2
  go_region_calls
  all_goals (go_end0; exact ⟨rfl, rfl⟩)
set_option maxRecDepth 100000 in
theorem unlock_deferred (a : Addr) (u : FrameMode) (w : World) (hc : w.cell? a = some (.int .i32 1)) (hz : w.frozen? a = false) :
    CallsD Try.prog 59 #[.pointer (some a)] u w fun e u' w' => u' = u ∧ (e = .returned (.tuple #[]) ∧ w' = w.setCell a (.int .i32 0)) := by
  have hd := raceDisable
  have he := raceEnable
  have hr := raceRelease
  have hadd := run_call_add (P := Try.prog) Try.func71 (by kernel_rfl) (by kernel_rfl) (by kernel_rfl) .i32 (by kernel_rfl) (y := -1) (s := 0) hc hz (by simp [go_sem]; rfl)
  have hcv := run_convert_to_unsafe (P := Try.prog) (src := 97) (dst := 101) Try.underlying97 Try.underlying101 (by kernel_rfl) hc
  go_enter_d Try.func59, Try.ntmps59
  go_wp2
  go_end0
  go_wp2
  go_end0
  exact ⟨rfl, rfl⟩
set_option maxRecDepth 100000 in
theorem lock_free (a : Addr) (w : World) (hc : w.cell? a = some (.int .i32 0)) (hz : w.frozen? a = false) :
    Calls Try.prog 58 #[.pointer (some a)] w fun e w' => e = .returned (.tuple #[]) ∧ w' = w.setCell a (.int .i32 1) := by
  have hd := raceDisable
  have he := raceEnable
  have ha := raceAcquire
  have hcas := run_call_cas_hit (P := Try.prog) Try.func66 (by kernel_rfl) (by kernel_rfl) (by kernel_rfl) .i32 (by kernel_rfl) (y := 1) hc hz
  have hc' : (w.setCell a (.int .i32 1)).cell? a = some (.int .i32 1) := World.cell?_setCell_same w a _ hc
  have hcv := run_convert_to_unsafe (P := Try.prog) (src := 97) (dst := 101) Try.underlying97 Try.underlying101 (by kernel_rfl) hc'
  go_enter Try.func58, Try.ntmps58
  go_wp2
  first | go_end0 | (simp only [Exit.inBlock, Exit.then]; refine bodyPost_ret (results_none rfl _ _ _) rfl ?_) | refine bodyPost_ret (results_none rfl _ _ _) rfl ?_
  go_wp2
  go_end0
  exact ⟨rfl, rfl⟩
end Go.Proofs.Ytjdbjdgobhjbkaa
/-! the field of 256 elements: plain laws -/
namespace Go.HL
/-- twice an element -/
def xt (b : UInt8) : UInt8 := if b < 128 then b <<< 1 else (b <<< 1) ^^^ 0x1D
theorem fin_all {p : UInt8 → Prop} (h : ∀ n : Fin 256, p (UInt8.ofNat n.1)) (b : UInt8) : p b := by
  have := h ⟨b.toNat, b.toNat_lt⟩
  simpa using this
def hi1 (u : UInt8) : UInt8 := if u = 0 then 0 else 0x1D
theorem xt_eq (b : UInt8) : xt b = (b <<< 1) ^^^ hi1 (b >>> 7) ∧ (b >>> 7 = 0 ∨ b >>> 7 = 1) :=
  fin_all (p := fun b => xt b = (b <<< 1) ^^^ hi1 (b >>> 7) ∧ (b >>> 7 = 0 ∨ b >>> 7 = 1)) (by decide +kernel) b
theorem hi1_xor {u v : UInt8} (hu : u = 0 ∨ u = 1) (hv : v = 0 ∨ v = 1) : hi1 (u ^^^ v) = hi1 u ^^^ hi1 v := by
  rcases hu with rfl | rfl <;> rcases hv with rfl | rfl <;> decide
theorem xor4 (a b c d : UInt8) : (a ^^^ b) ^^^ (c ^^^ d) = (a ^^^ c) ^^^ (b ^^^ d) := by
  rw [UInt8.xor_assoc, ← UInt8.xor_assoc b, UInt8.xor_comm b c, UInt8.xor_assoc c, ← UInt8.xor_assoc]
theorem xt_xor (b c : UInt8) : xt (b ^^^ c) = xt b ^^^ xt c := by
  have hs : (b ^^^ c) <<< 1 = b <<< 1 ^^^ c <<< 1 := by
    apply UInt8.toBitVec_inj.1
    simp [BitVec.shiftLeft_xor_distrib]
  have hr : (b ^^^ c) >>> 7 = b >>> 7 ^^^ c >>> 7 := by
    apply UInt8.toBitVec_inj.1
    simp [BitVec.ushiftRight_xor_distrib]
  rw [(xt_eq b).1, (xt_eq c).1, (xt_eq (b ^^^ c)).1, hs, hr, hi1_xor (xt_eq b).2 (xt_eq c).2, xor4]
def xtN : Nat → UInt8 → UInt8
  | 0, b => b
  | k + 1, b => xt (xtN k b)
theorem xtN_xor (k : Nat) (b c : UInt8) : xtN k (b ^^^ c) = xtN k b ^^^ xtN k c := by
  induction k with
  | zero => rfl
  | succ k ih => rw [xtN, ih, xt_xor]; rfl
def EXP : List UInt8 := [1, 2, 4, 8, 16, 32, 64, 128, 29, 58, 116, 232, 205, 135, 19, 38, 76, 152, 45, 90, 180, 117, 234, 201, 143, 3, 6, 12, 24, 48, 96, 192, 157, 39, 78, 156, 37, 74, 148, 53, 106, 212, 181, 119, 238, 193, 159, 35, 70, 140, 5, 10, 20, 40, 80, 160, 93, 186, 105, 210, 185, 111, 222, 161, 95, 190, 97, 194, 153, 47, 94, 188, 101, 202, 137, 15, 30, 60, 120, 240, 253, 231, 211, 187, 107, 214, 177, 127, 254, 225, 223, 163, 91, 182, 113, 226, 217, 175, 67, 134, 17, 34, 68, 136, 13, 26, 52, 104, 208, 189, 103, 206, 129, 31, 62, 124, 248, 237, 199, 147, 59, 118, 236, 197, 151, 51, 102, 204, 133, 23, 46, 92, 184, 109, 218, 169, 79, 158, 33, 66, 132, 21, 42, 84, 168, 77, 154, 41, 82, 164, 85, 170, 73, 146, 57, 114, 228, 213, 183, 115, 230, 209, 191, 99, 198, 145, 63, 126, 252, 229, 215, 179, 123, 246, 241, 255, 227, 219, 171, 75, 150, 49, 98, 196, 149, 55, 110, 220, 165, 87, 174, 65, 130, 25, 50, 100, 200, 141, 7, 14, 28, 56, 112, 224, 221, 167, 83, 166, 81, 162, 89, 178, 121, 242, 249, 239, 195, 155, 43, 86, 172, 69, 138, 9, 18, 36, 72, 144, 61, 122, 244, 245, 247, 243, 251, 235, 203, 139, 11, 22, 44, 88, 176, 125, 250, 233, 207, 131, 27, 54, 108, 216, 173, 71, 142, 1, 2, 4, 8, 16, 32, 64, 128, 29, 58, 116, 232, 205, 135, 19, 38, 76, 152, 45, 90, 180, 117, 234, 201, 143, 3, 6, 12, 24, 48, 96, 192, 157, 39, 78, 156, 37, 74, 148, 53, 106, 212, 181, 119, 238, 193, 159, 35, 70, 140, 5, 10, 20, 40, 80, 160, 93, 186, 105, 210, 185, 111, 222, 161, 95, 190, 97, 194, 153, 47, 94, 188, 101, 202, 137, 15, 30, 60, 120, 240, 253, 231, 211, 187, 107, 214, 177, 127, 254, 225, 223, 163, 91, 182, 113, 226, 217, 175, 67, 134, 17, 34, 68, 136, 13, 26, 52, 104, 208, 189, 103, 206, 129, 31, 62, 124, 248, 237, 199, 147, 59, 118, 236, 197, 151, 51, 102, 204, 133, 23, 46, 92, 184, 109, 218, 169, 79, 158, 33, 66, 132, 21, 42, 84, 168, 77, 154, 41, 82, 164, 85, 170, 73, 146, 57, 114, 228, 213, 183, 115, 230, 209, 191, 99, 198, 145, 63, 126, 252, 229, 215, 179, 123, 246, 241, 255, 227, 219, 171, 75, 150, 49, 98, 196, 149, 55, 110, 220, 165, 87, 174, 65, 130, 25, 50, 100, 200, 141, 7, 14, 28, 56, 112, 224, 221, 167, 83, 166, 81, 162, 89, 178, 121, 242, 249, 239, 195, 155, 43, 86, 172, 69, 138, 9, 18, 36, 72, 144, 61, 122, 244, 245, 247, 243, 251, 235, 203, 139, 11, 22, 44, 88, 176, 125, 250, 233, 207, 131, 27, 54, 108, 216, 173, 71, 142]
def LOG : List Nat := [0, 0, 1, 25, 2, 50, 26, 198, 3, 223, 51, 238, 27, 104, 199, 75, 4, 100, 224, 14, 52, 141, 239, 129, 28, 193, 105, 248, 200, 8, 76, 113, 5, 138, 101, 47, 225, 36, 15, 33, 53, 147, 142, 218, 240, 18, 130, 69, 29, 181, 194, 125, 106, 39, 249, 185, 201, 154, 9, 120, 77, 228, 114, 166, 6, 191, 139, 98, 102, 221, 48, 253, 226, 152, 37, 179, 16, 145, 34, 136, 54, 208, 148, 206, 143, 150, 219, 189, 241, 210, 19, 92, 131, 56, 70, 64, 30, 66, 182, 163, 195, 72, 126, 110, 107, 58, 40, 84, 250, 133, 186, 61, 202, 94, 155, 159, 10, 21, 121, 43, 78, 212, 229, 172, 115, 243, 167, 87, 7, 112, 192, 247, 140, 128, 99, 13, 103, 74, 222, 237, 49, 197, 254, 24, 227, 165, 153, 119, 38, 184, 180, 124, 17, 68, 146, 217, 35, 32, 137, 46, 55, 63, 209, 91, 149, 188, 207, 205, 144, 135, 151, 178, 220, 252, 190, 97, 242, 86, 211, 171, 20, 42, 93, 158, 132, 60, 57, 83, 71, 109, 65, 162, 31, 45, 67, 216, 183, 123, 164, 118, 196, 23, 73, 236, 127, 12, 111, 246, 108, 161, 59, 82, 41, 157, 85, 170, 251, 96, 134, 177, 187, 204, 62, 90, 203, 89, 95, 176, 156, 169, 160, 81, 11, 245, 22, 235, 122, 117, 44, 215, 79, 174, 213, 233, 230, 231, 173, 232, 116, 214, 244, 234, 168, 80, 88, 175]
def E (i : Nat) : UInt8 := EXP.getD i 0
def L (a : UInt8) : Nat := LOG.getD a.toNat 0
set_option maxRecDepth 100000 in
theorem E_zero : E 0 = 1 := by decide +kernel
set_option maxRecDepth 100000 in
theorem E_next : ∀ i : Fin 255, E ((i.1 + 1) % 255) = xt (E i.1) ∧ E (i.1 + 255) = E i.1 ∧ E i.1 ≠ 0 ∧ L (E i.1) = i.1 := by decide +kernel
set_option maxRecDepth 100000 in
theorem L_all : ∀ n : Fin 256, L (UInt8.ofNat n.1) < 255 ∧ (n.1 = 0 ∨ E (L (UInt8.ofNat n.1)) = UInt8.ofNat n.1) := by decide +kernel
theorem L_lt (a : UInt8) : L a < 255 := fin_all (p := fun a => L a < 255) (fun n => (L_all n).1) a
theorem E_L {a : UInt8} (h : a ≠ 0) : E (L a) = a := by
  have := (L_all ⟨a.toNat, a.toNat_lt⟩).2
  simp at this
  rcases this with h1 | h1
  · exact absurd (UInt8.toNat_inj.1 (by simpa using h1)) h
  · exact h1
theorem E_mod {i : Nat} (h : i < 510) : E i = E (i % 255) := by
  rcases Nat.lt_or_ge i 255 with h1 | h1
  · rw [Nat.mod_eq_of_lt h1]
  · have e : i % 255 = i - 255 := by omega
    have h2 : E (i - 255 + 255) = E (i - 255) := (E_next ⟨i - 255, by omega⟩).2.1
    rw [e, ← h2, show i - 255 + 255 = i from by omega]
/-- the powers of 2, of any exponent -/
def G (i : Nat) : UInt8 := E (i % 255)
theorem G_zero : G 0 = 1 := E_zero
theorem G_next (i : Nat) : G (i + 1) = xt (G i) := by
  have h2 : E ((i % 255 + 1) % 255) = xt (E (i % 255)) := (E_next ⟨i % 255, Nat.mod_lt _ (by decide)⟩).1
  rw [G, G, ← h2, show (i % 255 + 1) % 255 = (i + 1) % 255 from by omega]
theorem G_ne (i : Nat) : G i ≠ 0 := (E_next ⟨i % 255, Nat.mod_lt _ (by decide)⟩).2.2.1
theorem L_G (i : Nat) : L (G i) = i % 255 := (E_next ⟨i % 255, Nat.mod_lt _ (by decide)⟩).2.2.2
theorem G_L {a : UInt8} (h : a ≠ 0) : G (L a) = a := by rw [G, Nat.mod_eq_of_lt (L_lt a), E_L h]
theorem G_mod (i : Nat) : G (i % 255) = G i := by rw [G, Nat.mod_mod]; rfl
theorem xtN_G (k i : Nat) : xtN k (G i) = G (i + k) := by
  induction k with
  | zero => rfl
  | succ k ih => rw [xtN, ih, ← Nat.add_assoc, G_next]
theorem xtN_zero (k : Nat) : xtN k 0 = 0 := by
  induction k with
  | zero => rfl
  | succ k ih => rw [xtN, ih]; rfl
/-- the product, as the program reckons it -/
def mul (a b : UInt8) : UInt8 := if a = 0 ∨ b = 0 then 0 else E (L a + L b)
theorem mul_G {a b : UInt8} (ha : a ≠ 0) (hb : b ≠ 0) : mul a b = G (L a + L b) := by
  rw [mul, if_neg (by simp [ha, hb]), E_mod (by have := L_lt a; have := L_lt b; omega)]
  rfl
theorem mul_xt {a : UInt8} (ha : a ≠ 0) (b : UInt8) : mul a b = xtN (L a) b := by
  by_cases hb : b = 0
  · rw [mul, if_pos (.inr hb), hb, xtN_zero]
  · rw [mul_G ha hb, ← G_L hb, xtN_G, L_G, Nat.mod_eq_of_lt (L_lt b), Nat.add_comm]
theorem mul_zero_l (b : UInt8) : mul 0 b = 0 := by rw [mul, if_pos (.inl rfl)]
theorem mul_zero_r (b : UInt8) : mul b 0 = 0 := by rw [mul, if_pos (.inr rfl)]
theorem mul_comm (a b : UInt8) : mul a b = mul b a := by
  rw [mul, mul, Nat.add_comm]
  by_cases h : a = 0 ∨ b = 0
  · rw [if_pos h, if_pos h.symm]
  · rw [if_neg h, if_neg (fun k => h k.symm)]
theorem mul_ne {a b : UInt8} (ha : a ≠ 0) (hb : b ≠ 0) : mul a b ≠ 0 := by rw [mul_G ha hb]; exact G_ne _
theorem L_mul {a b : UInt8} (ha : a ≠ 0) (hb : b ≠ 0) : L (mul a b) = (L a + L b) % 255 := by rw [mul_G ha hb, L_G]
theorem mul_assoc (a b c : UInt8) : mul a (mul b c) = mul (mul a b) c := by
  by_cases ha : a = 0
  · subst ha; rw [mul_zero_l, mul_zero_l, mul_zero_l]
  by_cases hb : b = 0
  · subst hb; rw [mul_zero_l, mul_zero_r, mul_zero_l]
  by_cases hc : c = 0
  · subst hc; rw [mul_zero_r, mul_zero_r, mul_zero_r]
  rw [mul_G ha (mul_ne hb hc), mul_G (mul_ne ha hb) hc, L_mul hb hc, L_mul ha hb, ← G_mod, ← G_mod ((L a + L b) % 255 + L c), show (L a + (L b + L c) % 255) % 255 = ((L a + L b) % 255 + L c) % 255 from by omega]
theorem mul_xor (a b c : UInt8) : mul a (b ^^^ c) = mul a b ^^^ mul a c := by
  by_cases ha : a = 0
  · subst ha; rw [mul_zero_l, mul_zero_l, mul_zero_l]; rfl
  · rw [mul_xt ha, mul_xt ha, mul_xt ha, xtN_xor]
theorem mul_one (a : UInt8) : mul a 1 = a := by
  by_cases ha : a = 0
  · subst ha; rw [mul_zero_l]
  · rw [mul_G ha (by decide), ← G_zero, L_G, show 0 % 255 = 0 from rfl, Nat.add_zero, G_L ha]
/-- the inverse, as the program reckons it -/
def inv (a : UInt8) : UInt8 := if a = 0 then 0 else E (255 - L a)
theorem mul_inv {a : UInt8} (ha : a ≠ 0) : mul a (inv a) = 1 := by
  have hl := L_lt a
  have e : inv a = G (255 - L a) := by rw [inv, if_neg ha, E_mod (by omega)]; rfl
  rw [e, mul_G ha (G_ne _), L_G, ← G_mod, ← G_zero, ← G_mod 0, show (L a + (255 - L a) % 255) % 255 = 0 % 255 from by omega]
theorem mul_self_xor (a b : UInt8) : mul (a ^^^ b) (a ^^^ b) = mul a a ^^^ mul b b := by
  rw [mul_xor, mul_comm (a ^^^ b) a, mul_comm (a ^^^ b) b, mul_xor, mul_xor, mul_comm b a]
  have : ∀ x y z : UInt8, (x ^^^ y) ^^^ (y ^^^ z) = x ^^^ z := fun x y z => by rw [UInt8.xor_assoc, ← UInt8.xor_assoc y y z, UInt8.xor_self, UInt8.zero_xor]
  rw [this]
end Go.HL
namespace Go.HL
def xNext (x : Nat) : Nat := if 255 < 2 * x then (2 * x) ^^^ 285 else 2 * x
def X : Nat → Nat
  | 0 => 1
  | n + 1 => xNext (X n)
def expN : Nat → List UInt8
  | 0 => List.replicate 510 0
  | n + 1 => ((expN n).set n (UInt8.ofNat (X n))).set (n + 255) (UInt8.ofNat (X n))
def logN : Nat → List Nat
  | 0 => List.replicate 256 0
  | n + 1 => (logN n).set (X n) n
theorem X_lt : ∀ n : Fin 256, X n.1 < 256 := by decide +kernel
set_option maxRecDepth 100000 in
theorem exp_end : expN 255 = EXP := by decide +kernel
set_option maxRecDepth 100000 in
theorem log_end : logN 255 = LOG := by decide +kernel
end Go.HL
namespace Go.Proofs.Ytjdbjdgobhjbkaa
open Go.RowKit Go.HL

/-! the tables are worked out -/
abbrev lv (n : Nat) : Value := vi (n : Int)
def tabs (es : List UInt8) (ls : List Nat) : List Value := es.map v8 ++ ls.map lv
def cellsF (d s : Value) (es : List UInt8) (ls : List Nat) : List Value := d :: s :: .int .u32 0 :: tabs es ls
theorem set_e (d s : Value) {es : List UInt8} {ls : List Nat} {j : Nat} (x : UInt8) (h : j < es.length) : (cellsF d s es ls).set (0 + 3 + j) (v8 x) = cellsF d s (es.set j x) ls := by
  rw [show 0 + 3 + j = j + 1 + 1 + 1 from by omega]
  simp only [cellsF, tabs, List.set_cons_succ]
  rw [List.set_append_left _ _ (by rw [List.length_map]; exact h), List.map_set]
theorem set_l (d s : Value) {es : List UInt8} {ls : List Nat} {j : Nat} (n : Nat) (h : es.length = 510) : (cellsF d s es ls).set (0 + 513 + j) (lv n) = cellsF d s es (ls.set j n) := by
  rw [show 0 + 513 + j = (510 + j) + 1 + 1 + 1 from by omega]
  simp only [cellsF, tabs, List.set_cons_succ]
  rw [List.set_append_right _ _ (by rw [List.length_map]; omega), List.map_set, List.length_map, h, show 510 + j - 510 = j from by omega]
theorem at_e (d s : Value) {es : List UInt8} {ls : List Nat} {j : Nat} {x : UInt8} (h : es[j]? = some x) : (cellsF d s es ls)[0 + 3 + j]? = some (v8 x) := by
  rw [show 0 + 3 + j = j + 1 + 1 + 1 from by omega]
  simp only [cellsF, tabs, List.getElem?_cons_succ]
  rw [List.getElem?_append_left (by rw [List.length_map]; exact (List.getElem?_eq_some_iff.1 h).1), List.getElem?_map, h]
  rfl
theorem at_l (d s : Value) {es : List UInt8} {ls : List Nat} {j : Nat} {x : Nat} (h : es.length = 510) (hx : ls[j]? = some x) : (cellsF d s es ls)[0 + 513 + j]? = some (lv x) := by
  rw [show 0 + 513 + j = (510 + j) + 1 + 1 + 1 from by omega]
  simp only [cellsF, tabs, List.getElem?_cons_succ]
  rw [List.getElem?_append_right (by rw [List.length_map]; omega), List.length_map, h, show 510 + j - 510 = j from by omega, List.getElem?_map, hx]
  rfl
theorem cellsF_len (d s : Value) {es : List UInt8} {ls : List Nat} (h : es.length = 510) (h2 : ls.length = 256) : (cellsF d s es ls).length = 769 := by
  simp [cellsF, tabs, h, h2]
theorem expN_len (n : Nat) : (expN n).length = 510 := by
  induction n with
  | zero => rw [expN, List.length_replicate]
  | succ n ih => rw [expN, List.length_set, List.length_set, ih]
theorem logN_len (n : Nat) : (logN n).length = 256 := by
  induction n with
  | zero => rw [logN, List.length_replicate]
  | succ n ih => rw [logN, List.length_set, ih]
theorem b8X {n : Nat} (h : n < 256) : B8 (n : Int) = UInt8.ofNat n := by
  rw [B8, show ((n : Int) % 256).toNat = n from by omega]
set_option maxHeartbeats 2000000 in
theorem fill_calls {w : World} {g gv : Nat} (hb : Blk w g 65 (cellsF (.int .u32 0) (.int .i32 1) (expN 0) (logN 0))) (hv : Blk w gv 28 [.pointer (some ⟨g, 0, none⟩)]) (hne : g ≠ gv) :
    Calls Try.prog 53 [.pointer (some ⟨gv, 0, none⟩)].toArray w (Ret fun v w' => v = .tuple #[] ∧ Blk w' g 65 (cellsF (.int .u32 0) (.int .i32 1) (expN 255) (logN 255)) ∧ Chg (fun x => x = g) w w') := by
  have hw : Chg (fun x => x = g) w w := Chg.refl _ w
  have lg := hb.lt
  refine Calls.of_WC Try.func53 rfl Try.ntmps53 (by simp) ?_
  refine WC.seq (WC.region (WL.assign rfl rfl (WL.nil (WX.then_normal (WC.seq (WC.region (WL.move rfl rfl (?_))))))))
  refine WL.nil (WX.then_normal (WC.block (?_)))
  refine WC.loop (σ := Nat) (fun n => [(0, .pointer (some ⟨gv, 0, none⟩)), (1, vi (X n)), (3, vi n)])
    (fun n w' => n ≤ 255 ∧ Blk w' g 65 (cellsF (.int .u32 0) (.int .i32 1) (expN n) (logN n)) ∧ Blk w' gv 28 [.pointer (some ⟨g, 0, none⟩)] ∧ Chg (fun x => x = g) w w') (fun n => 255 - n) 0 ⟨rfl, rfl, rfl, trivial⟩ ⟨Nat.zero_le _, hb, hv, hw⟩ ?_
  clear hb hv hw
  rintro n w2 ⟨hn, hb, hv, hw⟩
  have hX : X n < 256 := X_lt ⟨n, by omega⟩
  have hel := expN_len n
  have hll := logN_len n
  obtain ⟨x, hx⟩ : ∃ x, x = X n := ⟨_, rfl⟩
  obtain ⟨es, hes⟩ : ∃ es, es = expN n := ⟨_, rfl⟩
  obtain ⟨ls, hls⟩ : ∃ ls, ls = logN n := ⟨_, rfl⟩
  rw [← hx] at hX ⊢
  rw [← hes] at hel hb
  rw [← hls] at hll hb
  refine WC.seq (WC.region (?_))
  refine WL.lss? rfl rfl rfl (fun h4 => ?_) (fun h4 => ?_)
  ·
    refine WL.nil (WX.then_normal (WC.seq (WC.cond_true rfl (WC.skip (WX.then_normal (WC.seq (WC.block (?_))))))))
    refine WC.seq (WC.region (WL.move rfl rfl (WL.assign rfl rfl (WL.nil (WX.then_normal (WC.seq (?_)))))))
    refine WC.draw (fun x => x = g) [0, 1, 2, 3, 4, 5, 6, 7, 8, 9, 10, 11, 13, 14, 15] [12, 16] mixed rfl rfl (fun wd_1 kd_1 zd_1 => ?_)
    have zs_kd_1 := kd_1.size
    replace hb := hb.pure kd_1
    replace hv := hv.pure kd_1
    replace hw := hw.pure kd_1
    apply DQ.step (E' := [(0, _)])
    case ho => rfl
    case hs => exact ⟨rfl, trivial⟩
    case hk => rfl
    case h1 =>
      intro wq_3 kq_3
      have zs_kq_3 := kq_3.size
      replace hv := hv.chg kq_3 (by first | (intro x h1 h2; exact h2) | (intro x h0 h1 h2; exact hS x h1 h2) | (intro x h0 h1 h2; have h3 : _ = _ := h2; subst h3; exact hSR h1.1) | (intro x h1 h2; have h3 : _ = _ := h2; subst h3; assumption) | (intro x h1 h2; have h3 : _ = _ := h2; exfalso; omega) | (intro b h1 h2 h3; have h4 : _ = _ := h3; (try dsimp only at h2); exfalso; omega) | (intro h1; have h2 : _ = _ := h1; exfalso; omega) | (intro h1; have h2 : _ ≤ _ := h1; exfalso; omega) | (intros; exfalso; (try dsimp only at *); omega) | (intro b h1 h2 h3; exfalso; have h4 := h3.2; (try dsimp only at *); omega) | (intro h1; exfalso; have h4 := h1.2; (try dsimp only at *); omega) | (intro x h1 h2; exfalso; have h4 := h2.2; (try dsimp only at *); omega) | (intro x h1 h2; exact ⟨_, rfl, h2⟩) | (intro x h1 h2; have h4 := h2.1; have h5 := h2.2; exfalso; omega) | (intro x h1 h2; exact h2.1) | (intro x h1 h2; rcases h2.1 with h3 | h3; exact h3; exfalso; omega) | (intro x h1 h2; rcases h2 with h3 | h3; exact h3; exfalso; omega))
      refine WL.loadB Try.isAgg28 hv rfl rfl rfl (?_)
      refine WL.nil ?_
      exact WX.one ⟨rfl, by first | exact Chg.refl _ _ | assumption⟩
    apply DQ.step (E' := [(2, _)])
    case ho => rfl
    case hs => exact ⟨rfl, trivial⟩
    case hk => rfl
    case h1 =>
      intro wq_4 kq_4
      refine WL.move rfl rfl (?_)
      refine WL.nil ?_
      exact WX.one ⟨rfl, by first | exact Chg.refl _ _ | assumption⟩
    apply DQ.step (E' := [(0, _)])
    case ho => rfl
    case hs => exact ⟨rfl, trivial⟩
    case hk => rfl
    case h1 =>
      intro wq_5 kq_5
      have zs_kq_5 := kq_5.size
      replace hv := hv.chg kq_5 (by first | (intro x h1 h2; exact h2) | (intro x h0 h1 h2; exact hS x h1 h2) | (intro x h0 h1 h2; have h3 : _ = _ := h2; subst h3; exact hSR h1.1) | (intro x h1 h2; have h3 : _ = _ := h2; subst h3; assumption) | (intro x h1 h2; have h3 : _ = _ := h2; exfalso; omega) | (intro b h1 h2 h3; have h4 : _ = _ := h3; (try dsimp only at h2); exfalso; omega) | (intro h1; have h2 : _ = _ := h1; exfalso; omega) | (intro h1; have h2 : _ ≤ _ := h1; exfalso; omega) | (intros; exfalso; (try dsimp only at *); omega) | (intro b h1 h2 h3; exfalso; have h4 := h3.2; (try dsimp only at *); omega) | (intro h1; exfalso; have h4 := h1.2; (try dsimp only at *); omega) | (intro x h1 h2; exfalso; have h4 := h2.2; (try dsimp only at *); omega) | (intro x h1 h2; exact ⟨_, rfl, h2⟩) | (intro x h1 h2; have h4 := h2.1; have h5 := h2.2; exfalso; omega) | (intro x h1 h2; exact h2.1) | (intro x h1 h2; rcases h2.1 with h3 | h3; exact h3; exfalso; omega) | (intro x h1 h2; rcases h2 with h3 | h3; exact h3; exfalso; omega))
      refine WL.loadB Try.isAgg28 hv rfl rfl rfl (?_)
      refine WL.nil ?_
      exact WX.one ⟨rfl, by first | exact Chg.refl _ _ | assumption⟩
    apply DQ.step (E' := [(2, _)])
    case ho => rfl
    case hs => exact ⟨rfl, trivial⟩
    case hk => rfl
    case h1 =>
      intro wq_6 kq_6
      refine WL.move rfl rfl (?_)
      refine WL.nil ?_
      exact WX.one ⟨rfl, by first | exact Chg.refl _ _ | assumption⟩
    apply DQ.step (E' := [(9, _)])
    case ho => rfl
    case hs => exact ⟨rfl, trivial⟩
    case hk => rfl
    case h1 =>
      intro wq_7 kq_7
      refine WL.add64 rfl rfl (by first | omega | (constructor <;> omega)) rfl (?_)
      refine WL.nil ?_
      exact WX.one ⟨rfl, by first | exact Chg.refl _ _ | assumption⟩
    apply DQ.step (E' := [(1, _)])
    case ho => rfl
    case hs => exact ⟨rfl, trivial⟩
    case hk => rfl
    case h1 =>
      intro wq_8 kq_8
      refine WL.move rfl rfl (?_)
      refine WL.nil ?_
      exact WX.one ⟨rfl, by first | exact Chg.refl _ _ | assumption⟩
    apply DQ.step (E' := [(11, _)])
    case ho => rfl
    case hs => exact ⟨rfl, trivial⟩
    case hk => rfl
    case h1 =>
      intro wq_9 kq_9
      have zs_kq_9 := kq_9.size
      replace hv := hv.chg kq_9 (by first | (intro x h1 h2; exact h2) | (intro x h0 h1 h2; exact hS x h1 h2) | (intro x h0 h1 h2; have h3 : _ = _ := h2; subst h3; exact hSR h1.1) | (intro x h1 h2; have h3 : _ = _ := h2; subst h3; assumption) | (intro x h1 h2; have h3 : _ = _ := h2; exfalso; omega) | (intro b h1 h2 h3; have h4 : _ = _ := h3; (try dsimp only at h2); exfalso; omega) | (intro h1; have h2 : _ = _ := h1; exfalso; omega) | (intro h1; have h2 : _ ≤ _ := h1; exfalso; omega) | (intros; exfalso; (try dsimp only at *); omega) | (intro b h1 h2 h3; exfalso; have h4 := h3.2; (try dsimp only at *); omega) | (intro h1; exfalso; have h4 := h1.2; (try dsimp only at *); omega) | (intro x h1 h2; exfalso; have h4 := h2.2; (try dsimp only at *); omega) | (intro x h1 h2; exact ⟨_, rfl, h2⟩) | (intro x h1 h2; have h4 := h2.1; have h5 := h2.2; exfalso; omega) | (intro x h1 h2; exact h2.1) | (intro x h1 h2; rcases h2.1 with h3 | h3; exact h3; exfalso; omega) | (intro x h1 h2; rcases h2 with h3 | h3; exact h3; exfalso; omega))
      refine WL.c_i64_u8 Try.underlying3 Try.underlying5 rfl rfl ?_
      rw [b8X hX]
      refine WL.nil ?_
      exact WX.one ⟨rfl, by first | exact Chg.refl _ _ | assumption⟩
    apply DQ.step (E' := [(1, _)])
    case ho => rfl
    case hs => exact ⟨rfl, trivial⟩
    case hk => rfl
    case h1 =>
      intro wq_10 kq_10
      refine WL.move rfl rfl (?_)
      refine WL.nil ?_
      exact WX.one ⟨rfl, by first | exact Chg.refl _ _ | assumption⟩
    apply DQ.step (E' := [(13, _)])
    case ho => rfl
    case hs => exact ⟨rfl, trivial⟩
    case hk => rfl
    case h1 =>
      intro wq_11 kq_11
      have zs_kq_11 := kq_11.size
      replace hv := hv.chg kq_11 (by first | (intro x h1 h2; exact h2) | (intro x h0 h1 h2; exact hS x h1 h2) | (intro x h0 h1 h2; have h3 : _ = _ := h2; subst h3; exact hSR h1.1) | (intro x h1 h2; have h3 : _ = _ := h2; subst h3; assumption) | (intro x h1 h2; have h3 : _ = _ := h2; exfalso; omega) | (intro b h1 h2 h3; have h4 : _ = _ := h3; (try dsimp only at h2); exfalso; omega) | (intro h1; have h2 : _ = _ := h1; exfalso; omega) | (intro h1; have h2 : _ ≤ _ := h1; exfalso; omega) | (intros; exfalso; (try dsimp only at *); omega) | (intro b h1 h2 h3; exfalso; have h4 := h3.2; (try dsimp only at *); omega) | (intro h1; exfalso; have h4 := h1.2; (try dsimp only at *); omega) | (intro x h1 h2; exfalso; have h4 := h2.2; (try dsimp only at *); omega) | (intro x h1 h2; exact ⟨_, rfl, h2⟩) | (intro x h1 h2; have h4 := h2.1; have h5 := h2.2; exfalso; omega) | (intro x h1 h2; exact h2.1) | (intro x h1 h2; rcases h2.1 with h3 | h3; exact h3; exfalso; omega) | (intro x h1 h2; rcases h2 with h3 | h3; exact h3; exfalso; omega))
      refine WL.c_i64_u8 Try.underlying3 Try.underlying5 rfl rfl ?_
      rw [b8X hX]
      refine WL.nil ?_
      exact WX.one ⟨rfl, by first | exact Chg.refl _ _ | assumption⟩
    apply DQ.step (E' := [(6, _)])
    case ho => rfl
    case hs => exact ⟨rfl, trivial⟩
    case hk => rfl
    case h1 =>
      intro wq_12 kq_12
      refine WL.nilCheck rfl rfl (?_)
      refine WL.nil ?_
      exact WX.one ⟨rfl, by first | exact Chg.refl _ _ | assumption⟩
    apply DQ.step (E' := [(15, _)])
    case ho => rfl
    case hs => exact ⟨rfl, trivial⟩
    case hk => rfl
    case h1 =>
      intro wq_13 kq_13
      refine WL.fieldAddr (fld_65_1) rfl rfl (?_)
      refine WL.nil ?_
      exact WX.one ⟨rfl, by first | exact Chg.refl _ _ | assumption⟩
    apply DQ.step (E' := [(16, _), (7, _)])
    case ho => rfl
    case hs => exact ⟨rfl, rfl, trivial⟩
    case hk => rfl
    case h1 =>
      intro wq_14 kq_14
      have zs_kq_14 := kq_14.size
      replace hv := hv.chg kq_14 (by first | (intro x h1 h2; exact h2) | (intro x h0 h1 h2; exact hS x h1 h2) | (intro x h0 h1 h2; have h3 : _ = _ := h2; subst h3; exact hSR h1.1) | (intro x h1 h2; have h3 : _ = _ := h2; subst h3; assumption) | (intro x h1 h2; have h3 : _ = _ := h2; exfalso; omega) | (intro b h1 h2 h3; have h4 : _ = _ := h3; (try dsimp only at h2); exfalso; omega) | (intro h1; have h2 : _ = _ := h1; exfalso; omega) | (intro h1; have h2 : _ ≤ _ := h1; exfalso; omega) | (intros; exfalso; (try dsimp only at *); omega) | (intro b h1 h2 h3; exfalso; have h4 := h3.2; (try dsimp only at *); omega) | (intro h1; exfalso; have h4 := h1.2; (try dsimp only at *); omega) | (intro x h1 h2; exfalso; have h4 := h2.2; (try dsimp only at *); omega) | (intro x h1 h2; exact ⟨_, rfl, h2⟩) | (intro x h1 h2; have h4 := h2.1; have h5 := h2.2; exfalso; omega) | (intro x h1 h2; exact h2.1) | (intro x h1 h2; rcases h2.1 with h3 | h3; exact h3; exfalso; omega) | (intro x h1 h2; rcases h2 with h3 | h3; exact h3; exfalso; omega))
      refine WL.indexArrO n Try.underlying62 Try.sizeOf5 rfl rfl ⟨rfl, by omega⟩ rfl ?_
      refine WL.nil ?_
      exact WX.one ⟨rfl, by first | exact Chg.refl _ _ | assumption⟩
    apply DQ.step (E' := [(8, _)])
    case ho => rfl
    case hs => exact ⟨rfl, trivial⟩
    case hk => rfl
    case h1 =>
      intro wq_15 kq_15
      refine WL.nilCheck rfl rfl (?_)
      refine WL.nil ?_
      exact WX.one ⟨rfl, by first | exact Chg.refl _ _ | assumption⟩
    apply DQ.step (E' := [(18, _)])
    case ho => rfl
    case hs => exact ⟨rfl, trivial⟩
    case hk => rfl
    case h1 =>
      intro wq_16 kq_16
      refine WL.fieldAddr (fld_65_1) rfl rfl (?_)
      refine WL.nil ?_
      exact WX.one ⟨rfl, by first | exact Chg.refl _ _ | assumption⟩
    apply DQ.step (E' := [(19, _), (10, _)])
    case ho => rfl
    case hs => exact ⟨rfl, rfl, trivial⟩
    case hk => rfl
    case h1 =>
      intro wq_17 kq_17
      have zs_kq_17 := kq_17.size
      replace hv := hv.chg kq_17 (by first | (intro x h1 h2; exact h2) | (intro x h0 h1 h2; exact hS x h1 h2) | (intro x h0 h1 h2; have h3 : _ = _ := h2; subst h3; exact hSR h1.1) | (intro x h1 h2; have h3 : _ = _ := h2; subst h3; assumption) | (intro x h1 h2; have h3 : _ = _ := h2; exfalso; omega) | (intro b h1 h2 h3; have h4 : _ = _ := h3; (try dsimp only at h2); exfalso; omega) | (intro h1; have h2 : _ = _ := h1; exfalso; omega) | (intro h1; have h2 : _ ≤ _ := h1; exfalso; omega) | (intros; exfalso; (try dsimp only at *); omega) | (intro b h1 h2 h3; exfalso; have h4 := h3.2; (try dsimp only at *); omega) | (intro h1; exfalso; have h4 := h1.2; (try dsimp only at *); omega) | (intro x h1 h2; exfalso; have h4 := h2.2; (try dsimp only at *); omega) | (intro x h1 h2; exact ⟨_, rfl, h2⟩) | (intro x h1 h2; have h4 := h2.1; have h5 := h2.2; exfalso; omega) | (intro x h1 h2; exact h2.1) | (intro x h1 h2; rcases h2.1 with h3 | h3; exact h3; exfalso; omega) | (intro x h1 h2; rcases h2 with h3 | h3; exact h3; exfalso; omega))
      refine WL.indexArrO (n + 255) Try.underlying62 Try.sizeOf5 rfl rfl ⟨by omega, by omega⟩ rfl ?_
      refine WL.nil ?_
      exact WX.one ⟨rfl, by first | exact Chg.refl _ _ | assumption⟩
    refine DQ.done (fun hd_2 => ?_)
    refine DL.step [(17, _), (12, _)] rfl ⟨rfl, rfl, trivial⟩ rfl (fun wq_18 kq_18 => ?_)
    have zs_kq_18 := kq_18.size
    replace hb := hb.pure kq_18
    replace hv := hv.pure kq_18
    replace hw := hw.pure kq_18
    replace hd_2 := hd_2.pure kq_18
    refine WL.store Try.sizeOf5 hb rfl rfl rfl (by rw [List.getElem?_eq_getElem (by rw [cellsF_len _ _ hel hll]; omega)]; rfl) ?_
    intro w3 hs3 hn3 k3
    rw [set_e _ _ _ (by omega)] at hn3
    have zs_k3 := k3.size
    replace hv := hv.chg k3 (by first | (intro x h1 h2; exact h2) | (intro x h0 h1 h2; exact hS x h1 h2) | (intro x h0 h1 h2; have h3 : _ = _ := h2; subst h3; exact hSR h1.1) | (intro x h1 h2; have h3 : _ = _ := h2; subst h3; assumption) | (intro x h1 h2; have h3 : _ = _ := h2; exfalso; omega) | (intro b h1 h2 h3; have h4 : _ = _ := h3; (try dsimp only at h2); exfalso; omega) | (intro h1; have h2 : _ = _ := h1; exfalso; omega) | (intro h1; have h2 : _ ≤ _ := h1; exfalso; omega) | (intros; exfalso; (try dsimp only at *); omega) | (intro b h1 h2 h3; exfalso; have h4 := h3.2; (try dsimp only at *); omega) | (intro h1; exfalso; have h4 := h1.2; (try dsimp only at *); omega) | (intro x h1 h2; exfalso; have h4 := h2.2; (try dsimp only at *); omega) | (intro x h1 h2; exact ⟨_, rfl, h2⟩) | (intro x h1 h2; have h4 := h2.1; have h5 := h2.2; exfalso; omega) | (intro x h1 h2; exact h2.1) | (intro x h1 h2; rcases h2.1 with h3 | h3; exact h3; exfalso; omega) | (intro x h1 h2; rcases h2 with h3 | h3; exact h3; exfalso; omega))
    replace hw := hw.chg k3 (by first | (intro x h1 h2; exact h2) | (intro x h0 h1 h2; exact hS x h1 h2) | (intro x h0 h1 h2; have h3 : _ = _ := h2; subst h3; exact hSR h1.1) | (intro x h1 h2; have h3 : _ = _ := h2; subst h3; assumption) | (intro x h1 h2; have h3 : _ = _ := h2; exfalso; omega) | (intro b h1 h2 h3; have h4 : _ = _ := h3; (try dsimp only at h2); exfalso; omega) | (intro h1; have h2 : _ = _ := h1; exfalso; omega) | (intro h1; have h2 : _ ≤ _ := h1; exfalso; omega) | (intros; exfalso; (try dsimp only at *); omega) | (intro b h1 h2 h3; exfalso; have h4 := h3.2; (try dsimp only at *); omega) | (intro h1; exfalso; have h4 := h1.2; (try dsimp only at *); omega) | (intro x h1 h2; exfalso; have h4 := h2.2; (try dsimp only at *); omega) | (intro x h1 h2; exact ⟨_, rfl, h2⟩) | (intro x h1 h2; have h4 := h2.1; have h5 := h2.2; exfalso; omega) | (intro x h1 h2; exact h2.1) | (intro x h1 h2; rcases h2.1 with h3 | h3; exact h3; exfalso; omega) | (intro x h1 h2; rcases h2 with h3 | h3; exact h3; exfalso; omega))
    replace hd_2 := hd_2.chg k3 (by first | (intro x h1 h2; exact h2) | (intro x h0 h1 h2; exact hS x h1 h2) | (intro x h0 h1 h2; have h3 : _ = _ := h2; subst h3; exact hSR h1.1) | (intro x h1 h2; have h3 : _ = _ := h2; subst h3; assumption) | (intro x h1 h2; have h3 : _ = _ := h2; exfalso; omega) | (intro b h1 h2 h3; have h4 : _ = _ := h3; (try dsimp only at h2); exfalso; omega) | (intro h1; have h2 : _ = _ := h1; exfalso; omega) | (intro h1; have h2 : _ ≤ _ := h1; exfalso; omega) | (intros; exfalso; (try dsimp only at *); omega) | (intro b h1 h2 h3; exfalso; have h4 := h3.2; (try dsimp only at *); omega) | (intro h1; exfalso; have h4 := h1.2; (try dsimp only at *); omega) | (intro x h1 h2; exfalso; have h4 := h2.2; (try dsimp only at *); omega) | (intro x h1 h2; exact ⟨_, rfl, h2⟩) | (intro x h1 h2; have h4 := h2.1; have h5 := h2.2; exfalso; omega) | (intro x h1 h2; exact h2.1) | (intro x h1 h2; rcases h2.1 with h3 | h3; exact h3; exfalso; omega) | (intro x h1 h2; rcases h2 with h3 | h3; exact h3; exfalso; omega))
    replace hb := hn3
    have hel3 : (es.set n (UInt8.ofNat x)).length = 510 := by rw [List.length_set]; exact hel
    refine WL.nil ?_
    refine WX.one0 (v := undef) ⟨hd_2, ?_⟩
    refine DL.step [(20, _), (14, _)] rfl ⟨rfl, rfl, trivial⟩ rfl (fun wq_19 kq_19 => ?_)
    have zs_kq_19 := kq_19.size
    replace hb := hb.pure kq_19
    replace hv := hv.pure kq_19
    replace hw := hw.pure kq_19
    replace hd_2 := hd_2.pure kq_19
    refine WL.store Try.sizeOf5 hb rfl rfl rfl (by rw [List.getElem?_eq_getElem (by rw [cellsF_len _ _ hel3 hll]; omega)]; rfl) ?_
    intro w4 hs4 hn4 k4
    rw [set_e _ _ _ (by omega)] at hn4
    have zs_k4 := k4.size
    replace hv := hv.chg k4 (by first | (intro x h1 h2; exact h2) | (intro x h0 h1 h2; exact hS x h1 h2) | (intro x h0 h1 h2; have h3 : _ = _ := h2; subst h3; exact hSR h1.1) | (intro x h1 h2; have h3 : _ = _ := h2; subst h3; assumption) | (intro x h1 h2; have h3 : _ = _ := h2; exfalso; omega) | (intro b h1 h2 h3; have h4 : _ = _ := h3; (try dsimp only at h2); exfalso; omega) | (intro h1; have h2 : _ = _ := h1; exfalso; omega) | (intro h1; have h2 : _ ≤ _ := h1; exfalso; omega) | (intros; exfalso; (try dsimp only at *); omega) | (intro b h1 h2 h3; exfalso; have h4 := h3.2; (try dsimp only at *); omega) | (intro h1; exfalso; have h4 := h1.2; (try dsimp only at *); omega) | (intro x h1 h2; exfalso; have h4 := h2.2; (try dsimp only at *); omega) | (intro x h1 h2; exact ⟨_, rfl, h2⟩) | (intro x h1 h2; have h4 := h2.1; have h5 := h2.2; exfalso; omega) | (intro x h1 h2; exact h2.1) | (intro x h1 h2; rcases h2.1 with h3 | h3; exact h3; exfalso; omega) | (intro x h1 h2; rcases h2 with h3 | h3; exact h3; exfalso; omega))
    replace hw := hw.chg k4 (by first | (intro x h1 h2; exact h2) | (intro x h0 h1 h2; exact hS x h1 h2) | (intro x h0 h1 h2; have h3 : _ = _ := h2; subst h3; exact hSR h1.1) | (intro x h1 h2; have h3 : _ = _ := h2; subst h3; assumption) | (intro x h1 h2; have h3 : _ = _ := h2; exfalso; omega) | (intro b h1 h2 h3; have h4 : _ = _ := h3; (try dsimp only at h2); exfalso; omega) | (intro h1; have h2 : _ = _ := h1; exfalso; omega) | (intro h1; have h2 : _ ≤ _ := h1; exfalso; omega) | (intros; exfalso; (try dsimp only at *); omega) | (intro b h1 h2 h3; exfalso; have h4 := h3.2; (try dsimp only at *); omega) | (intro h1; exfalso; have h4 := h1.2; (try dsimp only at *); omega) | (intro x h1 h2; exfalso; have h4 := h2.2; (try dsimp only at *); omega) | (intro x h1 h2; exact ⟨_, rfl, h2⟩) | (intro x h1 h2; have h4 := h2.1; have h5 := h2.2; exfalso; omega) | (intro x h1 h2; exact h2.1) | (intro x h1 h2; rcases h2.1 with h3 | h3; exact h3; exfalso; omega) | (intro x h1 h2; rcases h2 with h3 | h3; exact h3; exfalso; omega))
    replace hd_2 := hd_2.chg k4 (by first | (intro x h1 h2; exact h2) | (intro x h0 h1 h2; exact hS x h1 h2) | (intro x h0 h1 h2; have h3 : _ = _ := h2; subst h3; exact hSR h1.1) | (intro x h1 h2; have h3 : _ = _ := h2; subst h3; assumption) | (intro x h1 h2; have h3 : _ = _ := h2; exfalso; omega) | (intro b h1 h2 h3; have h4 : _ = _ := h3; (try dsimp only at h2); exfalso; omega) | (intro h1; have h2 : _ = _ := h1; exfalso; omega) | (intro h1; have h2 : _ ≤ _ := h1; exfalso; omega) | (intros; exfalso; (try dsimp only at *); omega) | (intro b h1 h2 h3; exfalso; have h4 := h3.2; (try dsimp only at *); omega) | (intro h1; exfalso; have h4 := h1.2; (try dsimp only at *); omega) | (intro x h1 h2; exfalso; have h4 := h2.2; (try dsimp only at *); omega) | (intro x h1 h2; exact ⟨_, rfl, h2⟩) | (intro x h1 h2; have h4 := h2.1; have h5 := h2.2; exfalso; omega) | (intro x h1 h2; exact h2.1) | (intro x h1 h2; rcases h2.1 with h3 | h3; exact h3; exfalso; omega) | (intro x h1 h2; rcases h2 with h3 | h3; exact h3; exfalso; omega))
    replace hb := hn4
    have hel4 : ((es.set n (UInt8.ofNat x)).set (n + 255) (UInt8.ofNat x)).length = 510 := by rw [List.length_set]; exact hel3
    refine WL.nil ?_
    refine WX.one0 (v := undef) ⟨hd_2, ?_⟩
    refine DL.done (fun we_20 ke_20 => ?_)
    have zs_ke_20 := ke_20.size
    replace hb := hb.pure ke_20
    replace hv := hv.pure ke_20
    replace hw := hw.pure ke_20
    replace hd_2 := hd_2.pure ke_20
    refine WX.then_normal (WC.seq (WC.region (WL.loadB Try.isAgg28 hv rfl rfl rfl (WL.move rfl rfl (WL.move rfl rfl (WL.nilCheck rfl rfl (WL.fieldAddr (fld_65_2) rfl rfl (?_))))))))
    refine WL.indexArrO x Try.underlying63 Try.sizeOf3 rfl rfl ⟨rfl, by omega⟩ rfl ?_
    refine WL.store Try.sizeOf3 hb rfl rfl rfl (by rw [List.getElem?_eq_getElem (by rw [cellsF_len _ _ hel4 hll]; omega)]; rfl) ?_
    intro w5 hs5 hn5 k5
    rw [set_l _ _ _ hel4] at hn5
    have zs_k5 := k5.size
    replace hv := hv.chg k5 (by first | (intro x h1 h2; exact h2) | (intro x h0 h1 h2; exact hS x h1 h2) | (intro x h0 h1 h2; have h3 : _ = _ := h2; subst h3; exact hSR h1.1) | (intro x h1 h2; have h3 : _ = _ := h2; subst h3; assumption) | (intro x h1 h2; have h3 : _ = _ := h2; exfalso; omega) | (intro b h1 h2 h3; have h4 : _ = _ := h3; (try dsimp only at h2); exfalso; omega) | (intro h1; have h2 : _ = _ := h1; exfalso; omega) | (intro h1; have h2 : _ ≤ _ := h1; exfalso; omega) | (intros; exfalso; (try dsimp only at *); omega) | (intro b h1 h2 h3; exfalso; have h4 := h3.2; (try dsimp only at *); omega) | (intro h1; exfalso; have h4 := h1.2; (try dsimp only at *); omega) | (intro x h1 h2; exfalso; have h4 := h2.2; (try dsimp only at *); omega) | (intro x h1 h2; exact ⟨_, rfl, h2⟩) | (intro x h1 h2; have h4 := h2.1; have h5 := h2.2; exfalso; omega) | (intro x h1 h2; exact h2.1) | (intro x h1 h2; rcases h2.1 with h3 | h3; exact h3; exfalso; omega) | (intro x h1 h2; rcases h2 with h3 | h3; exact h3; exfalso; omega))
    replace hw := hw.chg k5 (by first | (intro x h1 h2; exact h2) | (intro x h0 h1 h2; exact hS x h1 h2) | (intro x h0 h1 h2; have h3 : _ = _ := h2; subst h3; exact hSR h1.1) | (intro x h1 h2; have h3 : _ = _ := h2; subst h3; assumption) | (intro x h1 h2; have h3 : _ = _ := h2; exfalso; omega) | (intro b h1 h2 h3; have h4 : _ = _ := h3; (try dsimp only at h2); exfalso; omega) | (intro h1; have h2 : _ = _ := h1; exfalso; omega) | (intro h1; have h2 : _ ≤ _ := h1; exfalso; omega) | (intros; exfalso; (try dsimp only at *); omega) | (intro b h1 h2 h3; exfalso; have h4 := h3.2; (try dsimp only at *); omega) | (intro h1; exfalso; have h4 := h1.2; (try dsimp only at *); omega) | (intro x h1 h2; exfalso; have h4 := h2.2; (try dsimp only at *); omega) | (intro x h1 h2; exact ⟨_, rfl, h2⟩) | (intro x h1 h2; have h4 := h2.1; have h5 := h2.2; exfalso; omega) | (intro x h1 h2; exact h2.1) | (intro x h1 h2; rcases h2.1 with h3 | h3; exact h3; exfalso; omega) | (intro x h1 h2; rcases h2 with h3 | h3; exact h3; exfalso; omega))
    replace hb := hn5
    refine WL.nil (WX.then_normal (WC.seq (WC.region (WL.move rfl rfl (?_)))))
    refine WL.num rfl rfl (n_shli _ _ x 1 (by decide) (by omega) _) rfl ?_
    refine WL.assign rfl rfl (WL.nil (WX.then_normal (WC.seq (WC.region (WL.move rfl rfl (?_))))))
    refine WL.gtr? rfl rfl rfl (fun h30 => ?_) (fun h30 => ?_)
    ·
      refine WL.nil (WX.then_normal (WC.cond_true rfl (WC.region (WL.move rfl rfl (?_)))))
      refine WL.num rfl rfl (n_xori _ _ (x * 2 ^ 1) 285 (by omega) (by decide)) rfl ?_
      refine WL.assign rfl rfl (WL.nil (WX.block_normal (WX.then_normal (WC.region (WL.add64 rfl rfl (by first | omega | (constructor <;> omega)) rfl (WL.move rfl rfl (WL.nil (?_))))))))
      have e1 : expN (n + 1) = (es.set n (UInt8.ofNat x)).set (n + 255) (UInt8.ofNat x) := by rw [expN, ← hes, ← hx]
      have e2 : logN (n + 1) = ls.set x n := by rw [logN, ← hls, ← hx]
      first
        | (have e3 : X (n + 1) = (x * 2 ^ 1) ^^^ 285 := by rw [X, ← hx, xNext, if_pos (by omega), Nat.mul_comm]
           refine WX.loop_next (n + 1) ⟨rfl, ?_, rfl, trivial⟩ ⟨by omega, ?_, hv, hw⟩ (by show _ - _ < _ - _; omega)
           ·
             rw [e3]; rfl
           ·
             rw [e1, e2]; exact hb)
        | (have e3 : X (n + 1) = x * 2 ^ 1 := by rw [X, ← hx, xNext, if_neg (by omega), Nat.mul_comm]
           refine WX.loop_next (n + 1) ⟨rfl, ?_, rfl, trivial⟩ ⟨by omega, ?_, hv, hw⟩ (by show _ - _ < _ - _; omega)
           ·
             rw [e3]; rfl
           ·
             rw [e1, e2]; exact hb)
    ·
      refine WL.nil (WX.then_normal (WC.cond_false rfl (WC.skip (WX.block_normal (WX.then_normal (WC.region (WL.add64 rfl rfl (by first | omega | (constructor <;> omega)) rfl (?_))))))))
      refine WL.move rfl rfl (WL.nil (?_))
      have e1 : expN (n + 1) = (es.set n (UInt8.ofNat x)).set (n + 255) (UInt8.ofNat x) := by rw [expN, ← hes, ← hx]
      have e2 : logN (n + 1) = ls.set x n := by rw [logN, ← hls, ← hx]
      first
        | (have e3 : X (n + 1) = (x * 2 ^ 1) ^^^ 285 := by rw [X, ← hx, xNext, if_pos (by omega), Nat.mul_comm]
           refine WX.loop_next (n + 1) ⟨rfl, ?_, rfl, trivial⟩ ⟨by omega, ?_, hv, hw⟩ (by show _ - _ < _ - _; omega)
           ·
             rw [e3]; rfl
           ·
             rw [e1, e2]; exact hb)
        | (have e3 : X (n + 1) = x * 2 ^ 1 := by rw [X, ← hx, xNext, if_neg (by omega), Nat.mul_comm]
           refine WX.loop_next (n + 1) ⟨rfl, ?_, rfl, trivial⟩ ⟨by omega, ?_, hv, hw⟩ (by show _ - _ < _ - _; omega)
           ·
             rw [e3]; rfl
           ·
             rw [e1, e2]; exact hb)
  ·
    refine WL.nil (WX.then_normal (WC.seq (WC.cond_false rfl (WC.exit (WX.then_exit (WX.then_exit (WX.block_here (?_))))))))
    refine WX.ret0 (.inr rfl) Try.results53 ?_
    have h255 : n = 255 := by omega
    refine ⟨_, rfl, rfl, ?_, hw⟩
    rw [← h255, ← hes, ← hls]
    exact hb
end Go.Proofs.Ytjdbjdgobhjbkaa
namespace Go.Proofs.Ytjdbjdgobhjbkaa
open Go.RowKit Go.HL

/-- a field that was not asked yet -/
def FZ : List Value := cellsF (.int .u32 0) (.int .i32 0) (expN 0) (logN 0)
/-- a field whose tables are there -/
def FR : List Value := cellsF (.int .u32 1) (.int .i32 0) EXP LOG
theorem Blk.drew {w : World} {b : Nat} {e : TypeId} {cs : List Value} (h : Blk w b e cs) : Blk w.drew b e cs := h
set_option maxRecDepth 100000 in
set_option maxHeartbeats 1600000 in
theorem slow_calls {w : World} {g gv : Nat} (hb : Blk w g 65 FZ) (hv : Blk w gv 28 [.pointer (some ⟨g, 0, none⟩)]) (hne : g ≠ gv) :
    Calls Try.prog 56 #[.pointer (some ⟨g, 0, none⟩), .func (.func 53) #[] #[.pointer (some ⟨gv, 0, none⟩)]] w fun e w' => e = .returned (.tuple #[]) ∧ Blk w' g 65 FR ∧ Chg (fun x => x = g) w w' := by
  have h0 : w.cell? ⟨g, 0, none⟩ = some (.int .u32 0) := hb.cell rfl
  have h1 : w.cell? ⟨g, 0 + 1, none⟩ = some (.int .i32 0) := hb.cell rfl
  have f1 : w.frozen? ⟨g, 0 + 1, none⟩ = false := hb.free _
  have hb1 : Blk (w.setCell ⟨g, 0 + 1, none⟩ (.int .i32 1)) g 65 (cellsF (.int .u32 0) (.int .i32 1) (expN 0) (logN 0)) := hb.set (0 + 1) (.int .i32 1)
  have c1 : Chg (fun x => x = g) w (w.setCell ⟨g, 0 + 1, none⟩ (.int .i32 1)) := Chg.setCell w ⟨g, 0 + 1, none⟩ _
  have hv1 := Blk.chg hv c1 (fun h => hne h.symm)
  have hl := run_call_load (P := Try.prog) Try.func57 (by kernel_rfl) (by kernel_rfl) (by kernel_rfl) .u32 (by kernel_rfl) (w := w.setCell ⟨g, 0 + 1, none⟩ (.int .i32 1)) (a := ⟨g, 0, none⟩) (x := 0) (hb1.cell rfl)
  have hnot : ∀ (x : Bool) (w : World), (Op.unary .not (.bool x)).run Try.prog w = .ok (.bool (!x)) w := fun _ _ => rfl
  go_enter_defers Try.func56, Try.ntmps56
  go_wp2_with (first | (go_at_call 58; refine (lock_free ⟨g, 0 + 1, none⟩ _ h1 f1).mono ?_; rintro e w' ⟨rfl, rfl⟩) | (go_at_call 55; go_in) | (go_at_call 53; refine (fill_calls hb1 hv1 hne).mono ?_; rintro e w2 ⟨v, rfl, rfl, hb2, c2⟩))
  have d1 : w2.cell? ⟨g, 0, none⟩ = some (.int .u32 0) := hb2.cell rfl
  have d2 : w2.frozen? ⟨g, 0, none⟩ = false := hb2.free _
  have hb3 : Blk (w2.drew.setCell ⟨g, 0, none⟩ (.int .u32 1)) g 65 (cellsF (.int .u32 1) (.int .i32 1) (expN 255) (logN 255)) := (Blk.drew hb2).set 0 (.int .u32 1)
  have c3 : Chg (fun x => x = g) w2 (w2.drew.setCell ⟨g, 0, none⟩ (.int .u32 1)) := ((Chg.drew w2).mono (M' := fun x => x = g) (fun _ _ h => h.elim)).trans (Chg.setCell w2.drew ⟨g, 0, none⟩ _) (fun _ _ h => h)
  have d3 : (w2.drew.setCell ⟨g, 0, none⟩ (.int .u32 1)).cell? ⟨g, 1, none⟩ = some (.int .i32 1) := hb3.cell rfl
  have d4 : (w2.drew.setCell ⟨g, 0, none⟩ (.int .u32 1)).frozen? ⟨g, 1, none⟩ = false := hb3.free _
  have hb4 : Blk ((w2.drew.setCell ⟨g, 0, none⟩ (.int .u32 1)).setCell ⟨g, 1, none⟩ (.int .i32 0)) g 65 (cellsF (.int .u32 1) (.int .i32 0) (expN 255) (logN 255)) := hb3.set 1 (.int .i32 0)
  rw [exp_end, log_end] at hb4
  have c4 := (c1.trans c2 (fun _ _ h => h)).trans (c3.trans (Chg.setCell (w2.drew.setCell ⟨g, 0, none⟩ (.int .u32 1)) ⟨g, 1, none⟩ (.int .i32 0)) (fun _ _ h => h)) (fun _ _ h => h)
  refine leaves_cons (f := 60) (args := #[.pointer (some ⟨g, 0, none⟩), .bool true]) (by simp) (by simp [go_sem]) ?_
  refine (store_deferred ⟨g, 0, none⟩ (.int .u32 0) .returning _ d1 d2).mono ?_
  rintro e u' w'' ⟨rfl, rfl, rfl⟩
  refine leaves_cons (f := 59) (args := #[.pointer (some ⟨g, 1, none⟩)]) (by simp [settle]) (by simp [go_sem]) ?_
  refine (unlock_deferred ⟨g, 1, none⟩ _ _ d3 d4).mono ?_
  rintro e u' w'' ⟨rfl, rfl, rfl⟩
  have hend : Blk ((w2.drew.setCell ⟨g, 0, none⟩ (.int .u32 1)).setCell ⟨g, 1, none⟩ (.int .i32 0)) g 65 FR ∧ Chg (fun x => x = g) w ((w2.drew.setCell ⟨g, 0, none⟩ (.int .u32 1)).setCell ⟨g, 1, none⟩ (.int .i32 0)) := ⟨hb4, c4⟩
  refine ⟨.tuple #[], ?_, rfl, hend⟩
  simp [results, Try.results56]
/-- Do, for the first time -/
theorem do_first {w : World} {g gv : Nat} (hb : Blk w g 65 FZ) (hv : Blk w gv 28 [.pointer (some ⟨g, 0, none⟩)]) (hne : g ≠ gv) :
    Calls Try.prog 52 #[.pointer (some ⟨g, 0, none⟩), .func (.func 53) #[] #[.pointer (some ⟨gv, 0, none⟩)]] w fun e w' => e = .returned (.tuple #[]) ∧ Blk w' g 65 FR ∧ Chg (fun x => x = g) w w' := by
  have h0 : w.cell? ⟨g, 0, none⟩ = some (.int .u32 0) := hb.cell rfl
  have hl := run_call_load (P := Try.prog) Try.func57 (by kernel_rfl) (by kernel_rfl) (by kernel_rfl) .u32 (by kernel_rfl) h0
  have hnot : ∀ (x : Bool) (w : World), (Op.unary .not (.bool x)).run Try.prog w = .ok (.bool (!x)) w := fun _ _ => rfl
  go_enter Try.func52, Try.ntmps52
  go_wp2_with (first | (go_at_call 56; refine (slow_calls hb hv hne).mono ?_; rintro e w' ⟨rfl, hend⟩) | (go_at_call 55; go_in))
  go_end0
  exact ⟨rfl, hend⟩
/-- Do, later -/
theorem do_done {w : World} {g : Nat} (hb : Blk w g 65 FR) (fv : Value) :
    Calls Try.prog 52 #[.pointer (some ⟨g, 0, none⟩), fv] w fun e w' => e = .returned (.tuple #[]) ∧ w' = w := by
  have h0 : w.cell? ⟨g, 0, none⟩ = some (.int .u32 1) := hb.cell rfl
  have hl := run_call_load (P := Try.prog) Try.func57 (by kernel_rfl) (by kernel_rfl) (by kernel_rfl) .u32 (by kernel_rfl) h0
  have hnot : ∀ (x : Bool) (w : World), (Op.unary .not (.bool x)).run Try.prog w = .ok (.bool (!x)) w := fun _ _ => rfl
  go_enter Try.func52, Try.ntmps52
  go_wp2
  go_end0
  exact ⟨rfl, rfl⟩
/-- a field, asked or not -/
def Fld (w : World) (g : Nat) : Prop := Blk w g 65 FZ ∨ Blk w g 65 FR
theorem Fld.lt {w : World} {g : Nat} (h : Fld w g) : g < w.heap.size := by rcases h with h | h <;> exact Blk.lt h
theorem Fld.chg {w w' : World} {g : Nat} {M : Nat → Prop} (h : Fld w g) (k : Chg M w w') (hm : ¬ M g) : Fld w' g := by
  rcases h with h | h
  · exact .inl (Blk.chg h k hm)
  · exact .inr (Blk.chg h k hm)
theorem Fld.pure {w w' : World} {g : Nat} (h : Fld w g) (k : Chg Nob w w') : Fld w' g := h.chg k (fun x => x)
/-- Do, the first time or later -/
theorem do_calls {w : World} {g gv : Nat} (hb : Fld w g) (hv : Blk w gv 28 [.pointer (some ⟨g, 0, none⟩)]) (hne : g ≠ gv) :
    Calls Try.prog 52 [.pointer (some ⟨g, 0, none⟩), .func (.func 53) #[] #[.pointer (some ⟨gv, 0, none⟩)]].toArray w (Ret fun v w' => v = .tuple #[] ∧ Blk w' g 65 FR ∧ Chg (fun x => x = g) w w') := by
  rcases hb with hb | hb
  · refine (do_first hb hv hne).mono ?_
    rintro e w' ⟨rfl, h1, h2⟩
    exact ⟨_, rfl, rfl, h1, h2⟩
  · refine (do_done hb _).mono ?_
    rintro e w' ⟨rfl, rfl⟩
    exact ⟨_, rfl, rfl, hb, Chg.refl _ _⟩
end Go.Proofs.Ytjdbjdgobhjbkaa
namespace Go.HL
open Go.RowKit
section
variable {P : Program} {ops : Array Oper} {Q : Exit → Act → World → Prop} {N : Nat} {E : Env} {w : World} {rest : List Oper} {d : Nat} {ty : TypeId} {pos : String} {af : Array Edge} {t tb : TypeId} {x y : Operand}
theorem WL.makeFunc {f : FuncId} {v : Value} (hx : ev E x = some v) (hd : Nat.blt d N = true) (h : WL P ops Q N rest ((d, .func (.func f) #[] #[v]) :: E) w) :
    WL P ops Q N (⟨some d, .makeFunc (.func f) #[] #[x], ty, pos, af, none⟩ :: rest) E w :=
  WL.run _ w (fun a ha => by simp [execOp, ev_eval ha hx, Instr.makeFunc]) hd h
theorem WL.pnil {ao : Option Addr} (ht : P.underlying t = some (.pointer (P.pointee t))) (hx : ev E x = some (.pointer ao)) (hy : ev E y = some (.pointer none)) (hd : Nat.blt d N = true) (h : WL P ops Q N rest ((d, .bool ao.isNone) :: E) w) :
    WL P ops Q N (⟨some d, .binOp .eql t x y tb, ty, pos, af, none⟩ :: rest) E w :=
  WL.run _ w (fun a ha => by simp [execOp, ev_eval ha hx, ev_eval ha hy, eqGuard, binOp, run_equal_pointer_nil (P := P) w t ao ht]) hd h
end
end Go.HL
namespace Go.Proofs.Ytjdbjdgobhjbkaa
open Go.RowKit Go.HL

theorem fz_info : (Try.prog.info? 65).map (fun i => (i.zero, i.size, i.bytes)) = some (some (.agg FZ.toArray), 769, 2576) := by kernel_rfl
theorem fz_zero (w : World) : (zeroValue 65).run Try.prog w = .ok (.agg FZ.toArray) w := by
  obtain ⟨i, h1, h2, _, _⟩ := info_parts fz_info
  simp only [zeroValue, typeInfo]
  simp [h1, h2]
theorem bldF (w : World) : (Instr.build 65 #[]).run Try.prog w = .ok (.agg FZ.toArray) w := by
  simp [Instr.build, fz_zero, run_underlying Try.underlying65, Instr.fill, Value.cells, Try.sizeOf61, Try.sizeOf62, Try.sizeOf63] <;> kernel_rfl
theorem fresh_calls (w : World) : Calls Try.prog 13 [].toArray w (Ret fun v w' => (∃ g, v = .pointer (some ⟨g, 0, none⟩) ∧ Fld w' g ∧ w.heap.size ≤ g) ∧ Chg Nob w w') := by
  have hw := Chg.refl Nob w
  refine Calls.of_WC Try.func13 rfl Try.ntmps13 (by simp) ?_
  refine WC.seq (WC.region (WL.assign rfl rfl (WL.nil (WX.then_normal (WC.seq (WC.region (?_)))))))
  refine WL.bld rfl bldF rfl ?_
  refine WL.box rfl rfl ?_
  intro g_1 w_1 hge_1 hlt_1 hb_1 k_1
  have zs_k_1 := k_1.size
  replace hw := hw.pure k_1
  refine WL.assign rfl rfl (WL.nil (WX.then_normal (WC.ret (?_))))
  refine WX.ret1 (.inl rfl) Try.results13 rfl ?_
  exact ⟨_, rfl, ⟨g_1, rfl, .inl hb_1, hge_1⟩, hw⟩
theorem nobody_calls (w : World) : Calls Try.prog 23 [].toArray w (Ret fun v w' => v = .pointer none ∧ Chg Nob w w') := by
  have hw := Chg.refl Nob w
  refine Calls.of_WC Try.func23 rfl Try.ntmps23 (by simp) ?_
  refine WC.seq (WC.region (WL.assign rfl rfl (WL.nil (WX.then_normal (WC.seq (WC.region (WL.assign rfl rfl (?_))))))))
  refine WL.nil (WX.then_normal (WC.ret (?_)))
  refine WX.ret1 (.inl rfl) Try.results23 rfl ?_
  exact ⟨_, rfl, rfl, hw⟩
set_option maxRecDepth 100000 in
theorem tables_calls {w : World} {g : Nat} (hF : Fld w g) : Calls Try.prog 47 [.pointer (some ⟨g, 0, none⟩)].toArray w (Ret fun v w' => v = .tuple #[] ∧ Blk w' g 65 FR ∧ Chg (fun x => x = g) w w') := by
  have hw := Chg.refl (fun x => x = g) w
  have lg := hF.lt
  refine Calls.of_WC Try.func47 rfl Try.ntmps47 (by simp) ?_
  refine WC.seq (WC.region (?_))
  refine WL.box rfl rfl ?_
  intro g_1 w_1 hge_1 hlt_1 hb_1 k_1
  have zs_k_1 := k_1.size
  replace hF := hF.pure k_1
  replace hw := hw.pure k_1
  refine WL.nil (WX.then_normal (WC.region (WL.loadB Try.isAgg28 hb_1 rfl rfl rfl (WL.nilCheck rfl rfl (WL.fieldAddr (fld_65_0) rfl rfl (?_))))))
  refine WL.makeFunc rfl rfl ?_
  refine WL.call eg_52 rfl rfl (do_calls hF hb_1 (by omega)) ?_
  rintro v w2 ⟨rfl, hR, k⟩
  have zs_k := k.size
  replace hw := hw.chg k (by first | (intro x h1 h2; exact h2) | (intro x h0 h1 h2; exact hS x h1 h2) | (intro x h0 h1 h2; have h3 : _ = _ := h2; subst h3; exact hSR h1.1) | (intro x h1 h2; have h3 : _ = _ := h2; subst h3; assumption) | (intro x h1 h2; have h3 : _ = _ := h2; exfalso; omega) | (intro b h1 h2 h3; have h4 : _ = _ := h3; (try dsimp only at h2); exfalso; omega) | (intro h1; have h2 : _ = _ := h1; exfalso; omega) | (intro h1; have h2 : _ ≤ _ := h1; exfalso; omega) | (intros; exfalso; (try dsimp only at *); omega) | (intro b h1 h2 h3; exfalso; have h4 := h3.2; (try dsimp only at *); omega) | (intro h1; exfalso; have h4 := h1.2; (try dsimp only at *); omega) | (intro x h1 h2; exfalso; have h4 := h2.2; (try dsimp only at *); omega) | (intro x h1 h2; exact ⟨_, rfl, h2⟩) | (intro x h1 h2; have h4 := h2.1; have h5 := h2.2; exfalso; omega) | (intro x h1 h2; exact h2.1) | (intro x h1 h2; rcases h2.1 with h3 | h3; exact h3; exfalso; omega) | (intro x h1 h2; rcases h2 with h3 | h3; exact h3; exfalso; omega))
  refine WL.nil (?_)
  refine WX.ret0 (.inr rfl) Try.results47 ?_
  exact ⟨_, rfl, rfl, hR, hw⟩
set_option maxRecDepth 100000 in
theorem ready_calls {w : World} {g : Nat} (hF : Fld w g) : Calls Try.prog 29 [.pointer (some ⟨g, 0, none⟩)].toArray w (Ret fun v w' => v = .pointer (some ⟨g, 0, none⟩) ∧ Blk w' g 65 FR ∧ Chg (fun x => x = g) w w') := by
  have hw := Chg.refl (fun x => x = g) w
  refine Calls.of_WC Try.func29 rfl Try.ntmps29 (by simp) ?_
  refine WC.seq (WC.region (WL.assign rfl rfl (WL.nil (WX.then_normal (WC.seq (WC.seq (WC.region (?_))))))))
  refine WL.move rfl rfl (?_)
  refine WL.pnil Try.underlying28 rfl rfl rfl ?_
  rw [show (some (⟨g, 0, none⟩ : Addr)).isNone = false from rfl]
  refine WL.nil (WX.then_normal (WC.cond_false rfl (WC.skip (WX.then_normal (WC.seq (WC.region (WL.move rfl rfl (?_))))))))
  refine WL.call eg_47 rfl rfl (tables_calls hF) ?_
  rintro v w2 ⟨rfl, hR, k⟩
  have zs_k := k.size
  replace hw := hw.chg k (by first | (intro x h1 h2; exact h2) | (intro x h0 h1 h2; exact hS x h1 h2) | (intro x h0 h1 h2; have h3 : _ = _ := h2; subst h3; exact hSR h1.1) | (intro x h1 h2; have h3 : _ = _ := h2; subst h3; assumption) | (intro x h1 h2; have h3 : _ = _ := h2; exfalso; omega) | (intro b h1 h2 h3; have h4 : _ = _ := h3; (try dsimp only at h2); exfalso; omega) | (intro h1; have h2 : _ = _ := h1; exfalso; omega) | (intro h1; have h2 : _ ≤ _ := h1; exfalso; omega) | (intros; exfalso; (try dsimp only at *); omega) | (intro b h1 h2 h3; exfalso; have h4 := h3.2; (try dsimp only at *); omega) | (intro h1; exfalso; have h4 := h1.2; (try dsimp only at *); omega) | (intro x h1 h2; exfalso; have h4 := h2.2; (try dsimp only at *); omega) | (intro x h1 h2; exact ⟨_, rfl, h2⟩) | (intro x h1 h2; have h4 := h2.1; have h5 := h2.2; exfalso; omega) | (intro x h1 h2; exact h2.1) | (intro x h1 h2; rcases h2.1 with h3 | h3; exact h3; exfalso; omega) | (intro x h1 h2; rcases h2 with h3 | h3; exact h3; exfalso; omega))
  refine WL.nil (WX.then_normal (WC.seq (WC.region (WL.move rfl rfl (WL.assign rfl rfl (WL.nil (WX.then_normal (?_))))))))
  refine WC.ret (?_)
  refine WX.ret1 (.inl rfl) Try.results29 rfl ?_
  exact ⟨_, rfl, rfl, hR, hw⟩
set_option maxRecDepth 100000 in
theorem ready_nil (w : World) : Calls Try.prog 29 [.pointer none].toArray w (Ret fun v w' => (∃ g, v = .pointer (some ⟨g, 0, none⟩) ∧ Blk w' g 65 FR ∧ w.heap.size ≤ g) ∧ Chg Nob w w') := by
  have hw := Chg.refl Nob w
  refine Calls.of_WC Try.func29 rfl Try.ntmps29 (by simp) ?_
  refine WC.seq (WC.region (WL.assign rfl rfl (WL.nil (WX.then_normal (WC.seq (WC.seq (WC.region (?_))))))))
  refine WL.move rfl rfl (?_)
  refine WL.pnil Try.underlying28 rfl rfl rfl ?_
  rw [show (none : Option Addr).isNone = true from rfl]
  refine WL.nil (WX.then_normal (WC.cond_true rfl (WC.region (?_))))
  refine WL.bld rfl bldF rfl ?_
  refine WL.box rfl rfl ?_
  intro g_1 w_1 hge_1 hlt_1 hb_1 k_1
  have zs_k_1 := k_1.size
  replace hw := hw.pure k_1
  refine WL.assign rfl rfl (WL.nil (WX.then_normal (WC.seq (WC.region (WL.move rfl rfl (?_))))))
  have hF : Fld w_1 g_1 := .inl hb_1
  refine WL.call eg_47 rfl rfl (tables_calls hF) ?_
  rintro v w2 ⟨rfl, hR, k⟩
  have zs_k := k.size
  replace hw := hw.chg k (by first | (intro x h1 h2; exact h2) | (intro x h0 h1 h2; exact hS x h1 h2) | (intro x h0 h1 h2; have h3 : _ = _ := h2; subst h3; exact hSR h1.1) | (intro x h1 h2; have h3 : _ = _ := h2; subst h3; assumption) | (intro x h1 h2; have h3 : _ = _ := h2; exfalso; omega) | (intro b h1 h2 h3; have h4 : _ = _ := h3; (try dsimp only at h2); exfalso; omega) | (intro h1; have h2 : _ = _ := h1; exfalso; omega) | (intro h1; have h2 : _ ≤ _ := h1; exfalso; omega) | (intros; exfalso; (try dsimp only at *); omega) | (intro b h1 h2 h3; exfalso; have h4 := h3.2; (try dsimp only at *); omega) | (intro h1; exfalso; have h4 := h1.2; (try dsimp only at *); omega) | (intro x h1 h2; exfalso; have h4 := h2.2; (try dsimp only at *); omega) | (intro x h1 h2; exact ⟨_, rfl, h2⟩) | (intro x h1 h2; have h4 := h2.1; have h5 := h2.2; exfalso; omega) | (intro x h1 h2; exact h2.1) | (intro x h1 h2; rcases h2.1 with h3 | h3; exact h3; exfalso; omega) | (intro x h1 h2; rcases h2 with h3 | h3; exact h3; exfalso; omega))
  refine WL.nil (WX.then_normal (WC.seq (WC.region (WL.move rfl rfl (WL.assign rfl rfl (WL.nil (WX.then_normal (?_))))))))
  refine WC.ret (?_)
  refine WX.ret1 (.inl rfl) Try.results29 rfl ?_
  exact ⟨_, rfl, ⟨g_1, rfl, hR, hge_1⟩, hw⟩
theorem exp_len : EXP.length = 510 := by rw [← exp_end, expN_len]
theorem log_len : LOG.length = 256 := by rw [← log_end, logN_len]
theorem exp_at {i : Nat} (h : i < 510) : EXP[i]? = some (Go.HL.E i) := by
  rw [Go.HL.E, List.getD_eq_getElem?_getD, List.getElem?_eq_getElem (by rw [exp_len]; exact h)]
  rfl
theorem log_at (a : UInt8) : LOG[a.toNat]? = some (L a) := by
  rw [L, List.getD_eq_getElem?_getD, List.getElem?_eq_getElem (by rw [log_len]; exact a.toNat_lt)]
  rfl
theorem FR_e {i : Nat} (h : i < 510) : FR[0 + 3 + i]? = some (v8 (Go.HL.E i)) := at_e _ _ (exp_at h)
theorem FR_l (a : UInt8) : FR[0 + 513 + a.toNat]? = some (lv (L a)) := at_l _ _ exp_len (log_at a)
theorem u8_zero {a : UInt8} (h : (a.toNat : Int) = 0) : a = 0 := UInt8.toNat_inj.1 (by have h0 : (0 : UInt8).toNat = 0 := rfl; omega)
theorem u8_ne {a : UInt8} (h : (a.toNat : Int) ≠ 0) : a ≠ 0 := fun e => h (by rw [e]; rfl)
end Go.Proofs.Ytjdbjdgobhjbkaa
