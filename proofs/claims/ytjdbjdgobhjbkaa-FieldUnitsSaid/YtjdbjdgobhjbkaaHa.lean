import Derived.WalkKit
import Derived.KernelRfl
import Derived.Below
import Derived.Deep.Draws
namespace Go.HL
open Go.RowKit

abbrev Env := List (Nat × Value)

structure Holds (N : Nat) (E : Env) (a : Act) : Prop where
  size : a.tmps.size = N
  defs : a.defers = []
  env : ∀ t v, E.lookup t = some v → a.tmps[t]? = some v

def ev (E : Env) : Operand → Option Value
  | .tmp t => E.lookup t
  | .const v => some v
  | .global g => some (.pointer (some ⟨g, 0, none⟩))
  | .func f => some (.func (.func f) #[] #[])

theorem ev_eval {N : Nat} {E : Env} {a : Act} {x : Operand} {v : Value} (h : Holds N E a) (hx : ev E x = some v) : a.eval x = v := by
  cases x with
  | tmp t => simp only [Act.eval, Array.getD_eq_getD_getElem?, h.env t v hx, Option.getD_some]
  | const u => simpa [ev, Act.eval] using hx
  | global g => simpa [ev, Act.eval] using hx
  | func f => simpa [ev, Act.eval] using hx

theorem Holds.put {N : Nat} {E : Env} {a : Act} (h : Holds N E a) {d : Nat} (hd : Nat.blt d N = true) (v : Value) : Holds N ((d, v) :: E) (a.put (some d) v) := by
  refine ⟨by simpa [Act.put] using h.size, h.defs, fun t u hu => ?_⟩
  have hd' : d < a.tmps.size := by rw [h.size]; simpa using hd
  by_cases e : t = d
  · subst e
    simp at hu
    subst hu
    simp [Act.put, hd']
  · have hne : (t == d) = false := by simpa using e
    simp only [List.lookup, hne] at hu
    have := h.env t u hu
    have hne' : d ≠ t := fun x => e x.symm
    simp [Act.put, Array.getElem?_setIfInBounds_ne hne', this]

section
variable {P : Program} {ops : Array Oper} {Q : Exit → Act → World → Prop} {N : Nat} {E : Env} {w : World} {rest : List Oper} {o : Oper}

def WL (P : Program) (ops : Array Oper) (Q : Exit → Act → World → Prop) (N : Nat) (l : List Oper) (E : Env) (w : World) : Prop := ∀ a, Holds N E a → wpList P ops Q l a w
def WC (P : Program) (c : Code) (Q : Exit → Act → World → Prop) (N : Nat) (E : Env) (w : World) : Prop := ∀ a, Holds N E a → c.wp P Q a w
def WX (Q : Exit → Act → World → Prop) (x : Exit) (N : Nat) (E : Env) (w : World) : Prop := ∀ a, Holds N E a → Q x a w

theorem WC.seq {x y : Code} (h : WC P x (Exit.then (y.wp P Q) Q) N E w) : WC P (.seq x y) Q N E w := fun a ha => wp_seq (h a ha)
theorem WC.block {id : Nat} {c : Code} (h : WC P c (Exit.inBlock id Q) N E w) : WC P (.block id c) Q N E w := fun a ha => wp_block (h a ha)
theorem WC.ret (h : WX Q .ret N E w) : WC P .ret Q N E w := fun a ha => wp_ret (h a ha)
theorem WC.skip (h : WX Q .normal N E w) : WC P .skip Q N E w := fun a ha => wp_skip (h a ha)
theorem WC.exit {id : Nat} (h : WX Q (.exit id) N E w) : WC P (.exit id) Q N E w := fun a ha => wp_exit (h a ha)
theorem WC.region {id : Nat} {l : List Oper} (h : WL P l.toArray Q N l E w) : WC P (.region id l.toArray false) Q N E w := fun a ha => wp_region_lit (h a ha)
theorem WC.cond_true {c : Operand} {x y : Code} (hc : ev E c = some (.bool true)) (h : WC P x Q N E w) : WC P (.cond c x y) Q N E w :=
  fun a ha => wp_cond_true (ev_eval ha hc) (h a ha)
theorem WC.cond_false {c : Operand} {x y : Code} (hc : ev E c = some (.bool false)) (h : WC P y Q N E w) : WC P (.cond c x y) Q N E w :=
  fun a ha => wp_cond_false (ev_eval ha hc) (h a ha)
theorem WC.cond_split {c : Operand} {x y : Code} {b : Bool} (hc : ev E c = some (.bool b)) (ht : b = true → WC P x Q N E w) (hf : b = false → WC P y Q N E w) : WC P (.cond c x y) Q N E w := by
  cases b with
  | true => exact WC.cond_true hc (ht rfl)
  | false => exact WC.cond_false hc (hf rfl)
/-- a test that stands in a slot as the decision of a sentence -/
theorem WC.cond_dec {c : Operand} {x y : Code} {p : Prop} [Decidable p] (hc : ev E c = some (.bool (decide p))) (ht : p → WC P x Q N E w) (hf : ¬ p → WC P y Q N E w) : WC P (.cond c x y) Q N E w :=
  WC.cond_split hc (fun h => ht (of_decide_eq_true h)) (fun h => hf (of_decide_eq_false h))

theorem WX.then_normal {y : Code} (h : WC P y Q N E w) : WX (Exit.then (y.wp P Q) Q) .normal N E w := h
theorem WX.then_ret {K : Act → World → Prop} (h : WX Q .ret N E w) : WX (Exit.then K Q) .ret N E w := h
theorem WX.then_exit {K : Act → World → Prop} {id : Nat} (h : WX Q (.exit id) N E w) : WX (Exit.then K Q) (.exit id) N E w := h
theorem WX.block_normal {id : Nat} (h : WX Q .normal N E w) : WX (Exit.inBlock id Q) .normal N E w := h
theorem WX.block_ret {id : Nat} (h : WX Q .ret N E w) : WX (Exit.inBlock id Q) .ret N E w := h
theorem WX.block_here {id : Nat} (h : WX Q .normal N E w) : WX (Exit.inBlock id Q) (.exit id) N E w := fun a ha => by simpa [Exit.inBlock] using h a ha
theorem WX.block_on {id id' : Nat} (hne : Nat.beq id' id = false) (h : WX Q (.exit id') N E w) : WX (Exit.inBlock id Q) (.exit id') N E w := fun a ha => by
  have : id' ≠ id := by intro e; subst e; simp at hne
  simpa [Exit.inBlock, this] using h a ha

theorem WL.nil (h : WX Q .normal N E w) : WL P ops Q N [] E w := fun a ha => wpList_nil (h a ha)

/-- one operation whose run is known -/
theorem WL.run {d : Nat} {op : Op} {ty : TypeId} {pos : String} {af : Array Edge} (v : Value) (w' : World)
    (hrun : ∀ a, Holds N E a → (execOp a.eval ⟨some d, op, ty, pos, af, none⟩).run P w = .ok (.value v) w') (hd : Nat.blt d N = true)
    (h : WL P ops Q N rest ((d, v) :: E) w') : WL P ops Q N (⟨some d, op, ty, pos, af, none⟩ :: rest) E w := fun a ha => by
  refine wpList_plain rfl fun K hK => ?_
  unfold Oper.wp
  rw [hrun a ha]
  exact hK _ _ (h _ (ha.put hd v))
theorem WL.run0 {op : Op} {ty : TypeId} {pos : String} {af : Array Edge} (w' : World)
    (hrun : ∀ a, Holds N E a → (execOp a.eval ⟨none, op, ty, pos, af, none⟩).run P w = .ok .skip w')
    (h : WL P ops Q N rest E w') : WL P ops Q N (⟨none, op, ty, pos, af, none⟩ :: rest) E w := fun a ha => by
  refine wpList_plain rfl fun K hK => ?_
  unfold Oper.wp
  rw [hrun a ha]
  exact hK _ _ (h _ ha)
/-- the same where what comes of it is only described -/
theorem WL.runs {d : Nat} {op : Op} {ty : TypeId} {pos : String} {af : Array Edge} (φ : Value → World → Prop)
    (hrun : ∀ a, Holds N E a → ∃ v w', (execOp a.eval ⟨some d, op, ty, pos, af, none⟩).run P w = .ok (.value v) w' ∧ φ v w') (hd : Nat.blt d N = true)
    (h : ∀ v w', φ v w' → WL P ops Q N rest ((d, v) :: E) w') : WL P ops Q N (⟨some d, op, ty, pos, af, none⟩ :: rest) E w := fun a ha => by
  refine wpList_plain rfl fun K hK => ?_
  obtain ⟨v, w', hr, hφ⟩ := hrun a ha
  unfold Oper.wp
  rw [hr]
  exact hK _ _ (h v w' hφ _ (ha.put hd v))
/-- an operation that is passed over: its guard says no -/
theorem WL.pass {d j : Nat} {want got : Bool} {op : Op} {ty : TypeId} {pos : String} {af : Array Edge} {g : Nat}
    (hj : (ops[j]?).bind (·.dst) = some g) (hg : E.lookup g = some (.bool got)) (hne : (got == want) = false) (hd : Nat.blt d N = true)
    (h : WL P ops Q N rest ((d, undef) :: E) w) : WL P ops Q N (⟨some d, op, ty, pos, af, some (j, want)⟩ :: rest) E w := fun a ha => by
  have hy : yielded ops a.tmps j = some got := by
    cases ho : ops[j]? with
    | none => rw [ho] at hj; simp at hj
    | some o => rw [ho] at hj; simp at hj; simp [yielded, ho, hj, ha.env _ _ hg]
  have hw : Region.wanted ⟨some d, op, ty, pos, af, some (j, want)⟩ (yielded ops a.tmps) = false := by
    simp only [Region.wanted, hy]
    cases got <;> cases want <;> simp_all
  unfold wpList
  rw [hw]
  exact h _ (ha.put hd undef)
theorem WL.passU {d j : Nat} {want : Bool} {op : Op} {ty : TypeId} {pos : String} {af : Array Edge} {g : Nat}
    (hj : (ops[j]?).bind (·.dst) = some g) (hg : E.lookup g = some undef) (hd : Nat.blt d N = true)
    (h : WL P ops Q N rest ((d, undef) :: E) w) : WL P ops Q N (⟨some d, op, ty, pos, af, some (j, want)⟩ :: rest) E w := fun a ha => by
  have hy : yielded ops a.tmps j = none := by
    cases ho : ops[j]? with
    | none => rw [ho] at hj; simp at hj
    | some o => rw [ho] at hj; simp at hj; simp [yielded, ho, hj, ha.env _ _ hg, undef]
  have hw : Region.wanted ⟨some d, op, ty, pos, af, some (j, want)⟩ (yielded ops a.tmps) = false := by
    simp only [Region.wanted, hy]
    rfl
  unfold wpList
  rw [hw]
  exact h _ (ha.put hd undef)
theorem WL.want {dst : Option Nat} {j : Nat} {want got : Bool} {op : Op} {ty : TypeId} {pos : String} {af : Array Edge} {g : Nat}
    (hj : (ops[j]?).bind (·.dst) = some g) (hg : E.lookup g = some (.bool got)) (hne : (got == want) = true)
    (h : WL P ops Q N (⟨dst, op, ty, pos, af, none⟩ :: rest) E w) : WL P ops Q N (⟨dst, op, ty, pos, af, some (j, want)⟩ :: rest) E w := fun a ha => by
  have hy : yielded ops a.tmps j = some got := by
    cases ho : ops[j]? with
    | none => rw [ho] at hj; simp at hj
    | some o => rw [ho] at hj; simp at hj; simp [yielded, ho, hj, ha.env _ _ hg]
  have hw : Region.wanted ⟨dst, op, ty, pos, af, some (j, want)⟩ (yielded ops a.tmps) = true := by
    simp only [Region.wanted, hy]
    cases got <;> cases want <;> simp_all
  have h' := h a ha
  unfold wpList at h' ⊢
  rw [if_pos (by simp [Region.wanted])] at h'
  rw [if_pos hw]
  exact h'
end
end Go.HL
