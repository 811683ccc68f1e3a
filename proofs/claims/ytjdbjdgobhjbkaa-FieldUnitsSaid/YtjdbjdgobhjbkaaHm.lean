import Derived.Test.YtjdbjdgobhjbkaaHl
namespace Go.HL
open Go.RowKit
section
variable {P : Program} {ops : Array Oper} {Q : Exit → Act → World → Prop} {N : Nat} {E : Env} {w : World} {rest : List Oper}
  {d : Nat} {ty : TypeId} {pos : String} {af : Array Edge} {t tb T : TypeId}
/-- an array whose elements are all written out, each of one cell -/
theorem WL.buildArr {n : Nat} {ps : List (Nat × Operand)} {z : Value} (vs : List Value) (ht : P.underlying t = some (.array n T)) (hs : ∀ w, (sizeOf T).run P w = .ok 1 w) (hz : ∀ w, (zeroValue t).run P w = .ok z w) (hzs : z.cells.size = n)
    (hx : evp E 0 ps = some vs) (hn : vs.length = n) (hv1 : ∀ v ∈ vs, v.cells = #[v]) (hd : Nat.blt d N = true)
    (h : WL P ops Q N rest ((d, .agg vs.toArray) :: E) w) : WL P ops Q N (⟨some d, .build t ps.toArray, ty, pos, af, none⟩ :: rest) E w :=
  WL.run _ w (fun a ha => by
    obtain ⟨h1, h2⟩ := evp_eval ha hx
    have hf := fill_enum 1 vs 0 z.cells (fun v hv => by rw [hv1 v hv]; rfl) (by rw [hzs, ← hn]; omega)
    have hflat : vs.flatMap (·.cells.toList) = vs := by
      clear hx hn h h2 h1 hf
      induction vs with
      | nil => rfl
      | cons v r ih => rw [List.flatMap_cons, hv1 v (by simp), ih (fun u hu => hv1 u (by simp [hu]))]; rfl
    rw [hflat] at hf
    simp only [Nat.zero_mul, List.take_zero, List.nil_append, Nat.mul_one] at hf
    simp [execOp, h1, Instr.build, hz, run_underlying ht, hs, hf]) hd h
theorem map_at {α β : Type} {xs : List α} {j : Nat} {x : α} (f : α → β) (h : xs[j]? = some x) : (xs.map f)[j]? = some (f x) := by simp [h]
end
end Go.HL
