import Derived.Laws.Small
import Derived.Test.YtjdbjdgobhjbkaaHi
namespace Go.HL
open Go.RowKit
section
variable {P : Program} {ops : Array Oper} {Q : Exit → Act → World → Prop} {N : Nat} {E : Env} {w : World} {rest : List Oper}
  {d : Nat} {ty : TypeId} {pos : String} {af : Array Edge} {t tb : TypeId} {x y : Operand}
theorem WL.beql {a b : Bool} (ht : P.underlying t = some .bool) (hx : ev E x = some (.bool a)) (hy : ev E y = some (.bool b)) (hd : Nat.blt d N = true) (h : WL P ops Q N rest ((d, .bool (a == b)) :: E) w) :
    WL P ops Q N (⟨some d, .binOp .eql t x y tb, ty, pos, af, none⟩ :: rest) E w :=
  WL.run _ w (fun c ha => by simp [execOp, ev_eval ha hx, ev_eval ha hy, eqGuard, binOp, run_equal_bool w t a b ht]) hd h
theorem WL.bneq {a b : Bool} (ht : P.underlying t = some .bool) (hx : ev E x = some (.bool a)) (hy : ev E y = some (.bool b)) (hd : Nat.blt d N = true) (h : WL P ops Q N rest ((d, .bool (!(a == b))) :: E) w) :
    WL P ops Q N (⟨some d, .binOp .neq t x y tb, ty, pos, af, none⟩ :: rest) E w :=
  WL.run _ w (fun c ha => by simp [execOp, ev_eval ha hx, ev_eval ha hy, eqGuard, binOp, run_equal_bool w t a b ht]) hd h
theorem WL.bneqF {a b : Bool} (ht : P.underlying t = some .bool) (hx : ev E x = some (.bool a)) (hy : ev E y = some (.bool b)) (hab : a = b) (hd : Nat.blt d N = true) (h : WL P ops Q N rest ((d, .bool false) :: E) w) :
    WL P ops Q N (⟨some d, .binOp .neq t x y tb, ty, pos, af, none⟩ :: rest) E w :=
  WL.bneq ht hx hy hd (by subst hab; simpa using h)
theorem WL.maxi {k : IntKind} {m n : Int} {ats : Array TypeId} (hx : ev E x = some (.int k m)) (hy : ev E y = some (.int k n)) (hd : Nat.blt d N = true) (h : WL P ops Q N rest ((d, .int k (if n > m then n else m)) :: E) w) :
    WL P ops Q N (⟨some d, .call ⟨.builtin .max, #[x, y], ats⟩, ty, pos, af, none⟩ :: rest) E w :=
  WL.run _ w (fun c ha => by simp [execOp, resolve, invoke, builtin, ev_eval ha hx, ev_eval ha hy, run_max_int2]) hd h
theorem WL.mini {k : IntKind} {m n : Int} {ats : Array TypeId} (hx : ev E x = some (.int k m)) (hy : ev E y = some (.int k n)) (hd : Nat.blt d N = true) (h : WL P ops Q N rest ((d, .int k (if n < m then n else m)) :: E) w) :
    WL P ops Q N (⟨some d, .call ⟨.builtin .min, #[x, y], ats⟩, ty, pos, af, none⟩ :: rest) E w :=
  WL.run _ w (fun c ha => by simp [execOp, resolve, invoke, builtin, ev_eval ha hx, ev_eval ha hy, run_min_int2]) hd h
end
end Go.HL
