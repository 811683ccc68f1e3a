import Derived.WalkKit
import Derived.KernelRfl
import Derived.Below
import Derived.Deep.Draws
import Derived.Deep.AppendSrc
import Derived.Laws.AppendOwn
import Derived.Laws.IdiomCopy
import Derived.Lib.ConvBytes
import Derived.IntWalk
import Derived.Laws.BytesString
import Derived.Laws.MakeOwn
import Derived.Deep.Slices
import Derived.Deep.Fields
import Derived.ChangeSame
import Derived.ProofKit
import Derived.OpenShut
import Derived.ShutString
import Derived.ChangeOld
import Derived.SizedLaws
import Derived.Orders
import Derived.Laws.StructEq
import Derived.Laws.Small
import Derived.Laws.Cover3
namespace Go.HL
open Go.RowKit

abbrev Env := List (Nat × Value)

structure Holds (N : Nat) (E : Env) (a : Act) : Prop where
  size : a.tmps.size = N
  defs : a.defers = []
  env : ∀ t v, E.lookup t = some v → a.tmps[t]? = some v

def ev (E : Env) : Operand → Option Value
  | .tmp t => E.lookup t
  | .const v => some v
  | .global g => some (.pointer (some ⟨g, 0, none⟩))
  | .func f => some (.func (.func f) #[] #[])

theorem ev_eval {N : Nat} {E : Env} {a : Act} {x : Operand} {v : Value} (h : Holds N E a) (hx : ev E x = some v) : a.eval x = v := by
  cases x with
  | tmp t => simp only [Act.eval, Array.getD_eq_getD_getElem?, h.env t v hx, Option.getD_some]
  | const u => simpa [ev, Act.eval] using hx
  | global g => simpa [ev, Act.eval] using hx
  | func f => simpa [ev, Act.eval] using hx

theorem Holds.put {N : Nat} {E : Env} {a : Act} (h : Holds N E a) {d : Nat} (hd : Nat.blt d N = true) (v : Value) : Holds N ((d, v) :: E) (a.put (some d) v) := by
  refine ⟨by simpa [Act.put] using h.size, h.defs, fun t u hu => ?_⟩
  have hd' : d < a.tmps.size := by rw [h.size]; simpa using hd
  by_cases e : t = d
  · subst e
    simp at hu
    subst hu
    simp [Act.put, hd']
  · have hne : (t == d) = false := by simpa using e
    simp only [List.lookup, hne] at hu
    have := h.env t u hu
    have hne' : d ≠ t := fun x => e x.symm
    simp [Act.put, Array.getElem?_setIfInBounds_ne hne', this]

section
variable {P : Program} {ops : Array Oper} {Q : Exit → Act → World → Prop} {N : Nat} {E : Env} {w : World} {rest : List Oper} {o : Oper}

def WL (P : Program) (ops : Array Oper) (Q : Exit → Act → World → Prop) (N : Nat) (l : List Oper) (E : Env) (w : World) : Prop := ∀ a, Holds N E a → wpList P ops Q l a w
def WC (P : Program) (c : Code) (Q : Exit → Act → World → Prop) (N : Nat) (E : Env) (w : World) : Prop := ∀ a, Holds N E a → c.wp P Q a w
def WX (Q : Exit → Act → World → Prop) (x : Exit) (N : Nat) (E : Env) (w : World) : Prop := ∀ a, Holds N E a → Q x a w

theorem WC.seq {x y : Code} (h : WC P x (Exit.then (y.wp P Q) Q) N E w) : WC P (.seq x y) Q N E w := fun a ha => wp_seq (h a ha)
theorem WC.block {id : Nat} {c : Code} (h : WC P c (Exit.inBlock id Q) N E w) : WC P (.block id c) Q N E w := fun a ha => wp_block (h a ha)
theorem WC.ret (h : WX Q .ret N E w) : WC P .ret Q N E w := fun a ha => wp_ret (h a ha)
theorem WC.skip (h : WX Q .normal N E w) : WC P .skip Q N E w := fun a ha => wp_skip (h a ha)
theorem WC.exit {id : Nat} (h : WX Q (.exit id) N E w) : WC P (.exit id) Q N E w := fun a ha => wp_exit (h a ha)
theorem WC.region {id : Nat} {l : List Oper} (h : WL P l.toArray Q N l E w) : WC P (.region id l.toArray false) Q N E w := fun a ha => wp_region_lit (h a ha)
theorem WC.cond_true {c : Operand} {x y : Code} (hc : ev E c = some (.bool true)) (h : WC P x Q N E w) : WC P (.cond c x y) Q N E w :=
  fun a ha => wp_cond_true (ev_eval ha hc) (h a ha)
theorem WC.cond_false {c : Operand} {x y : Code} (hc : ev E c = some (.bool false)) (h : WC P y Q N E w) : WC P (.cond c x y) Q N E w :=
  fun a ha => wp_cond_false (ev_eval ha hc) (h a ha)
theorem WC.cond_split {c : Operand} {x y : Code} {b : Bool} (hc : ev E c = some (.bool b)) (ht : b = true → WC P x Q N E w) (hf : b = false → WC P y Q N E w) : WC P (.cond c x y) Q N E w := by
  cases b with
  | true => exact WC.cond_true hc (ht rfl)
  | false => exact WC.cond_false hc (hf rfl)
/-- a test that stands in a slot as the decision of a sentence -/
theorem WC.cond_dec {c : Operand} {x y : Code} {p : Prop} [Decidable p] (hc : ev E c = some (.bool (decide p))) (ht : p → WC P x Q N E w) (hf : ¬ p → WC P y Q N E w) : WC P (.cond c x y) Q N E w :=
  WC.cond_split hc (fun h => ht (of_decide_eq_true h)) (fun h => hf (of_decide_eq_false h))

theorem WX.then_normal {y : Code} (h : WC P y Q N E w) : WX (Exit.then (y.wp P Q) Q) .normal N E w := h
theorem WX.then_ret {K : Act → World → Prop} (h : WX Q .ret N E w) : WX (Exit.then K Q) .ret N E w := h
theorem WX.then_exit {K : Act → World → Prop} {id : Nat} (h : WX Q (.exit id) N E w) : WX (Exit.then K Q) (.exit id) N E w := h
theorem WX.block_normal {id : Nat} (h : WX Q .normal N E w) : WX (Exit.inBlock id Q) .normal N E w := h
theorem WX.block_ret {id : Nat} (h : WX Q .ret N E w) : WX (Exit.inBlock id Q) .ret N E w := h
theorem WX.block_here {id : Nat} (h : WX Q .normal N E w) : WX (Exit.inBlock id Q) (.exit id) N E w := fun a ha => by simpa [Exit.inBlock] using h a ha
theorem WL.nil (h : WX Q .normal N E w) : WL P ops Q N [] E w := fun a ha => wpList_nil (h a ha)

/-- one operation whose run is known -/
theorem WL.run {d : Nat} {op : Op} {ty : TypeId} {pos : String} {af : Array Edge} (v : Value) (w' : World)
    (hrun : ∀ a, Holds N E a → (execOp a.eval ⟨some d, op, ty, pos, af, none⟩).run P w = .ok (.value v) w') (hd : Nat.blt d N = true)
    (h : WL P ops Q N rest ((d, v) :: E) w') : WL P ops Q N (⟨some d, op, ty, pos, af, none⟩ :: rest) E w := fun a ha => by
  refine wpList_plain rfl fun K hK => ?_
  unfold Oper.wp
  rw [hrun a ha]
  exact hK _ _ (h _ (ha.put hd v))
theorem WL.run0 {op : Op} {ty : TypeId} {pos : String} {af : Array Edge} (w' : World)
    (hrun : ∀ a, Holds N E a → (execOp a.eval ⟨none, op, ty, pos, af, none⟩).run P w = .ok .skip w')
    (h : WL P ops Q N rest E w') : WL P ops Q N (⟨none, op, ty, pos, af, none⟩ :: rest) E w := fun a ha => by
  refine wpList_plain rfl fun K hK => ?_
  unfold Oper.wp
  rw [hrun a ha]
  exact hK _ _ (h _ ha)
/-- an operation that is passed over: its guard says no -/
theorem WL.pass {d j : Nat} {want got : Bool} {op : Op} {ty : TypeId} {pos : String} {af : Array Edge} {g : Nat}
    (hj : (ops[j]?).bind (·.dst) = some g) (hg : E.lookup g = some (.bool got)) (hne : (got == want) = false) (hd : Nat.blt d N = true)
    (h : WL P ops Q N rest ((d, undef) :: E) w) : WL P ops Q N (⟨some d, op, ty, pos, af, some (j, want)⟩ :: rest) E w := fun a ha => by
  have hy : yielded ops a.tmps j = some got := by
    cases ho : ops[j]? with
    | none => rw [ho] at hj; simp at hj
    | some o => rw [ho] at hj; simp at hj; simp [yielded, ho, hj, ha.env _ _ hg]
  have hw : Region.wanted ⟨some d, op, ty, pos, af, some (j, want)⟩ (yielded ops a.tmps) = false := by
    simp only [Region.wanted, hy]
    cases got <;> cases want <;> simp_all
  unfold wpList
  rw [hw]
  exact h _ (ha.put hd undef)
theorem WL.passU {d j : Nat} {want : Bool} {op : Op} {ty : TypeId} {pos : String} {af : Array Edge} {g : Nat}
    (hj : (ops[j]?).bind (·.dst) = some g) (hg : E.lookup g = some undef) (hd : Nat.blt d N = true)
    (h : WL P ops Q N rest ((d, undef) :: E) w) : WL P ops Q N (⟨some d, op, ty, pos, af, some (j, want)⟩ :: rest) E w := fun a ha => by
  have hy : yielded ops a.tmps j = none := by
    cases ho : ops[j]? with
    | none => rw [ho] at hj; simp at hj
    | some o => rw [ho] at hj; simp at hj; simp [yielded, ho, hj, ha.env _ _ hg, undef]
  have hw : Region.wanted ⟨some d, op, ty, pos, af, some (j, want)⟩ (yielded ops a.tmps) = false := by
    simp only [Region.wanted, hy]
    rfl
  unfold wpList
  rw [hw]
  exact h _ (ha.put hd undef)
theorem WL.want {dst : Option Nat} {j : Nat} {want got : Bool} {op : Op} {ty : TypeId} {pos : String} {af : Array Edge} {g : Nat}
    (hj : (ops[j]?).bind (·.dst) = some g) (hg : E.lookup g = some (.bool got)) (hne : (got == want) = true)
    (h : WL P ops Q N (⟨dst, op, ty, pos, af, none⟩ :: rest) E w) : WL P ops Q N (⟨dst, op, ty, pos, af, some (j, want)⟩ :: rest) E w := fun a ha => by
  have hy : yielded ops a.tmps j = some got := by
    cases ho : ops[j]? with
    | none => rw [ho] at hj; simp at hj
    | some o => rw [ho] at hj; simp at hj; simp [yielded, ho, hj, ha.env _ _ hg]
  have hw : Region.wanted ⟨dst, op, ty, pos, af, some (j, want)⟩ (yielded ops a.tmps) = true := by
    simp only [Region.wanted, hy]
    cases got <;> cases want <;> simp_all
  have h' := h a ha
  unfold wpList at h' ⊢
  rw [if_pos (by simp [Region.wanted])] at h'
  rw [if_pos hw]
  exact h'
end
end Go.HL
namespace Go.HL
open Go.RowKit

/-- what may have turned: of the blocks that were there, those of M alone -/
structure Chg (M : Nat → Prop) (w w' : World) : Prop where
  os : w'.os = w.os
  tape : w'.tape = w.tape
  output : w'.output = w.output
  size : w.heap.size ≤ w'.heap.size
  block : ∀ k, k < w.heap.size → ¬ M k → w'.heap[k]? = w.heap[k]?

abbrev Nob : Nat → Prop := fun _ => False

theorem Chg.refl (M : Nat → Prop) (w : World) : Chg M w w := ⟨rfl, rfl, rfl, Nat.le_refl _, fun _ _ _ => rfl⟩
theorem Chg.trans {M M' : Nat → Prop} {a b c : World} (h : Chg M a b) (k : Chg M' b c) (hM : ∀ x, x < a.heap.size → M' x → M x) : Chg M a c :=
  ⟨k.os.trans h.os, k.tape.trans h.tape, k.output.trans h.output, Nat.le_trans h.size k.size,
   fun i hi hm => (k.block i (Nat.lt_of_lt_of_le hi h.size) (fun x => hm (hM i hi x))).trans (h.block i hi hm)⟩
theorem Chg.mono {M M' : Nat → Prop} {a b : World} (h : Chg M a b) (hM : ∀ x, x < a.heap.size → M x → M' x) : Chg M' a b :=
  ⟨h.os, h.tape, h.output, h.size, fun i hi hm => h.block i hi (fun x => hm (hM i hi x))⟩
theorem Chg.pure {M : Nat → Prop} {a b c : World} (h : Chg M a b) (k : Chg Nob b c) : Chg M a c := h.trans k (fun _ _ x => x.elim)
theorem Chg.alloc (w : World) (o : Obj) : Chg Nob w (w.alloc o) := ⟨rfl, rfl, rfl, by simp, fun k hk _ => Below.heap_alloc _ _ _ hk⟩
theorem Chg.drew (w : World) : Chg Nob w w.drew := ⟨rfl, rfl, rfl, Nat.le_refl _, fun _ _ _ => rfl⟩
theorem Chg.setCell (w : World) (a : Addr) (v : Value) : Chg (· = a.block) w (w.setCell a v) :=
  ⟨rfl, rfl, rfl, by simp [World.setCell], fun _ _ hm => Below.heap_setCell _ _ _ _ hm⟩
theorem Chg.below {w w' : World} (h : Chg Nob w w') : Below w.heap.size w w' := ⟨h.os, h.tape, h.output, h.size, fun k hk => h.block k hk (fun x => x)⟩
theorem Chg.cell {M : Nat → Prop} {w w' : World} (h : Chg M w w') {p : Addr} {v : Value} (hc : w.cell? p = some v) (hm : ¬ M p.block) : w'.cell? p = some v := by
  rw [World.cell?_of_block (w := w) (h.block p.block (World.block_lt_of_cell? w p hc) hm)]; exact hc
theorem Chg.obj {M : Nat → Prop} {w w' : World} (h : Chg M w w') {b : Nat} {o : Obj} (hc : w.heap[b]? = some o) (hm : ¬ M b) : w'.heap[b]? = some o := by
  rw [h.block b (Array.getElem?_eq_some_iff.1 hc).1 hm]; exact hc

/-- a block of cells, whole -/
def Blk (w : World) (b : Nat) (e : TypeId) (cs : List Value) : Prop := w.heap[b]? = some (.cells cs.toArray e (0, 0))
theorem Blk.lt {w : World} {b : Nat} {e : TypeId} {cs : List Value} (h : Blk w b e cs) : b < w.heap.size := (Array.getElem?_eq_some_iff.1 h).1
theorem Blk.new (w : World) (e : TypeId) (cs : List Value) : Blk (w.alloc (.cells cs.toArray e)) w.heap.size e cs := by
  show (w.heap.push _)[w.heap.size]? = _
  simp
theorem Blk.chg {M : Nat → Prop} {w w' : World} {b : Nat} {e : TypeId} {cs : List Value} (h : Blk w b e cs) (k : Chg M w w') (hm : ¬ M b) : Blk w' b e cs := k.obj h hm
theorem Blk.cell {w : World} {b : Nat} {e : TypeId} {cs : List Value} (h : Blk w b e cs) {j : Nat} {v : Value} (hj : cs[j]? = some v) : w.cell? ⟨b, j, none⟩ = some v := by
  unfold Blk at h
  simp [World.cell?, h, hj]
theorem Blk.free {w : World} {b : Nat} {e : TypeId} {cs : List Value} (h : Blk w b e cs) (j : Nat) : w.frozen? ⟨b, j, none⟩ = false := by
  unfold Blk at h
  simp [World.frozen?, h]
theorem Blk.set {w : World} {b : Nat} {e : TypeId} {cs : List Value} (h : Blk w b e cs) (j : Nat) (v : Value) : Blk (w.setCell ⟨b, j, none⟩ v) b e (cs.set j v) := by
  unfold Blk at h ⊢
  simp only [World.setCell, Array.getElem?_modify, h, if_true, Option.map_some]
  simp

/-- what a slice reads: the cells, one behind the other -/
def Sl (w : World) (ao : Option Addr) (n sz : Nat) (cs : List Value) : Prop :=
  cs.length = n * sz ∧ ∀ j c, cs[j]? = some c → ∃ b off, ao = some ⟨b, off, none⟩ ∧ w.cell? ⟨b, off + j, none⟩ = some c
/-- its block, if it has one, is of S -/
def At (S : Nat → Prop) (ao : Option Addr) : Prop := ∀ a, ao = some a → S a.block
theorem At.mono {S T : Nat → Prop} {ao : Option Addr} (h : At S ao) (k : ∀ b, S b → T b) : At T ao := fun a e => k _ (h a e)
theorem At.none (S : Nat → Prop) : At S none := fun _ e => by cases e
theorem Sl.nil (w : World) (ao : Option Addr) (sz : Nat) : Sl w ao 0 sz [] := ⟨by simp, fun j c h => by simp at h⟩
theorem Sl.chg {M : Nat → Prop} {w w' : World} {ao : Option Addr} {n sz : Nat} {cs : List Value} (h : Sl w ao n sz cs) (k : Chg M w w') (hm : At (fun b => ¬ M b) ao) : Sl w' ao n sz cs :=
  ⟨h.1, fun j c hj => by
    obtain ⟨b, off, e, hc⟩ := h.2 j c hj
    exact ⟨b, off, e, k.cell hc (show ¬ M b from hm _ e)⟩⟩
theorem Sl.pure {w w' : World} {ao : Option Addr} {n sz : Nat} {cs : List Value} (h : Sl w ao n sz cs) (k : Chg Nob w w') : Sl w' ao n sz cs := h.chg k (fun _ _ x => x)

/-- a row of the call's own: nil, or the head of a block that nothing else writes -/
def Own (w : World) (e : TypeId) (sz : Nat) (ao : Option Addr) (n c : Nat) (cs : List Value) : Prop :=
  cs.length = n * sz ∧ n ≤ c ∧ ((ao = none ∧ c = 0) ∨ ∃ g cur fr, ao = some ⟨g, 0, none⟩ ∧ w.heap[g]? = some (.cells cur e fr) ∧ (∀ j, j < cur.size → ¬ (fr.1 ≤ j ∧ j < fr.2)) ∧
    c ≤ maxLen ∧ cur.size = c * sz ∧ cur.toList.take (n * sz) = cs)
section own
variable {w : World} {e : TypeId} {sz : Nat} {ao : Option Addr} {n c : Nat} {cs : List Value}
theorem Own.nil (w : World) (e : TypeId) (sz : Nat) : Own w e sz none 0 0 [] := ⟨by simp, Nat.le_refl _, .inl ⟨rfl, rfl⟩⟩
theorem Own.len (h : Own w e sz ao n c cs) : cs.length = n * sz := h.1
theorem Own.cap (h : Own w e sz ao n c cs) : n ≤ c := h.2.1
theorem Own.lt (h : Own w e sz ao n c cs) : At (· < w.heap.size) ao := fun a ea => by
  rcases h.2.2 with ⟨rfl, _⟩ | ⟨g, cur, fr, rfl, hg, _⟩
  · cases ea
  · injection ea with ea; subst ea; exact (Array.getElem?_eq_some_iff.1 hg).1
theorem Own.chg {M : Nat → Prop} {w' : World} (h : Own w e sz ao n c cs) (k : Chg M w w') (hm : At (fun b => ¬ M b) ao) : Own w' e sz ao n c cs := by
  refine ⟨h.1, h.2.1, ?_⟩
  rcases h.2.2 with hn | ⟨g, cur, fr, rfl, hg, rest⟩
  · exact .inl hn
  · exact .inr ⟨g, cur, fr, rfl, k.obj hg (hm _ rfl), rest⟩
theorem Own.pure {w' : World} (h : Own w e sz ao n c cs) (k : Chg Nob w w') : Own w' e sz ao n c cs := h.chg k (fun _ _ x => x)
theorem Own.sl (h : Own w e sz ao n c cs) : Sl w ao n sz cs := by
  refine ⟨h.1, fun j u hu => ?_⟩
  rcases h.2.2 with ⟨rfl, rfl⟩ | ⟨g, cur, fr, rfl, hg, _, _, _, ht⟩
  · have hn : n = 0 := by have := h.2.1; omega
    have := h.1
    rw [hn, Nat.zero_mul] at this
    rw [List.eq_nil_of_length_eq_zero this] at hu
    simp at hu
  · refine ⟨g, 0, rfl, ?_⟩
    rw [Nat.zero_add, cell_of_row w g j cur e fr hg]
    rw [← ht, List.getElem?_take] at hu
    split at hu
    · simpa using hu
    · cases hu
theorem Own.of_none (h : Own w e sz none n c cs) : n = 0 ∧ c = 0 ∧ cs = [] := by
  rcases h.2.2 with ⟨_, rfl⟩ | ⟨g, cur, fr, hx, _⟩
  · have hn : n = 0 := by have := h.2.1; omega
    have := h.1
    rw [hn, Nat.zero_mul] at this
    exact ⟨hn, rfl, List.eq_nil_of_length_eq_zero this⟩
  · cases hx
end own

theorem setCells_same (g : Nat) (e : TypeId) (fr : Nat × Nat) : ∀ (vs : List Value) (o : Nat) (w : World) (cur : Array Value), w.heap[g]? = some (.cells cur e fr) → o + vs.length ≤ cur.size →
    (w.setCells g o vs).heap[g]? = some (.cells (cur.toList.take o ++ vs ++ cur.toList.drop (o + vs.length)).toArray e fr)
  | [], o, w, cur, hg, _ => by simp [World.setCells, hg]
  | v :: r, o, w, cur, hg, hl => by
    have hlt : g < w.heap.size := (Array.getElem?_eq_some_iff.1 hg).1
    have h1 : (w.setCell ⟨g, o, none⟩ v).heap[g]? = some (.cells (cur.setIfInBounds o v) e fr) := by
      simp only [World.setCell, Array.getElem?_modify, hg, if_true, Option.map_some]
      simp
    have ho : o < cur.size := by simp at hl; omega
    rw [World.setCells, setCells_same g e fr r (o + 1) _ _ h1 (by simp at hl ⊢; omega)]
    congr 2
    apply Array.ext'
    simp only [Array.toList_setIfInBounds, List.toList_toArray, List.length_cons]
    apply List.ext_getElem?
    intro j
    have hlen : cur.toList.length = cur.size := Array.length_toList
    simp only [List.append_assoc, List.getElem?_append, List.length_take, List.length_set, List.getElem?_take, List.getElem?_set, List.getElem?_drop, hlen, List.length_append, List.cons_append, List.length_cons, List.getElem?_cons]
    have e1 : min (o + 1) cur.size = o + 1 := by omega
    have e2 : min o cur.size = o := by omega
    simp only [e1, e2]
    by_cases hj : j < o
    · have : ¬ o = j := by omega
      simp [hj, this, show j < o + 1 from by omega]
    · by_cases hj2 : j = o
      · subst hj2; simp [ho]
      · have h3 : ¬ j < o + 1 := by omega
        have h4 : ¬ j - o = 0 := by omega
        simp only [hj, h3, if_false, h4, show j - (o + 1) = j - o - 1 from by omega]
        by_cases hj3 : j - o - 1 < r.length
        · simp [hj3]
        · have : ¬ o = o + 1 + r.length + (j - o - 1 - r.length) := by omega
          simp only [hj3, if_false, this]
          congr 1
          omega
theorem setCells_chg (g : Nat) (vs : List Value) (o : Nat) (w : World) : Chg (· = g) w (w.setCells g o vs) := by
  induction vs generalizing o w with
  | nil => exact Chg.refl _ _
  | cons v r ih => exact (Chg.setCell w ⟨g, o, none⟩ v).trans (ih (o + 1) _) (fun _ _ h => h)

/-- append: to a row of the call's own; what is appended is read first -/
theorem run_append_hl {P : Program} (w : World) (t tx ty e : TypeId) (i : TypeInfo) (z : Value) (sz bytes : Nat) (ht : P.underlying t = some (.slice e)) (hi : P.info? e = some i) (hz : i.zero = some z)
    (hsize : i.size = sz) (hby : i.bytes = bytes) (hzs : z.cells.size = sz)
    (ao : Option Addr) (n c : Nat) (cs : List Value) (hown : Own w e sz ao n c cs) (x : Value) (m : Nat) (news : List Value) (hs : Src P sz tx x m news w)
    (h63 : n + m ≤ maxLen) (hbytes : (n + m) * bytes ≤ 140737488355328) :
    ∃ ao' c' w', (Builtin.append_ #[t, tx] ty #[.slice ao n c, x]).run P w = .ok (.slice ao' (n + m) c') w' ∧ Own w' e sz ao' (n + m) c' (cs ++ news) ∧
      Chg (fun b => (∃ a, ao = some a ∧ b = a.block) ∧ ao' = ao) w w' ∧ (ao' = ao ∨ At (w.heap.size ≤ ·) ao') ∧ (ao' = none → ao = none ∧ m = 0) := by
  subst hsize
  subst hby
  have hsmall : n + m ≤ 9223372036854775807 := by simp only [maxLen] at h63; omega
  have hlen : (cs ++ news).length = (n + m) * i.size := by rw [List.length_append, hown.1, hs.newsLen, Nat.add_mul]
  have grown : ∀ (old : Nat), old < n + m → ∀ (M : Nat → Prop),
      Own (w.drew.alloc (.cells ((cs ++ news).toArray ++ Builtin.zeroCells z.cells (grownCap w (n + m) old e - (n + m))) e)) e i.size
        (some ⟨w.heap.size, 0, none⟩) (n + m) (grownCap w (n + m) old e) (cs ++ news) ∧
      Chg M w (w.drew.alloc (.cells ((cs ++ news).toArray ++ Builtin.zeroCells z.cells (grownCap w (n + m) old e - (n + m))) e)) := by
    intro old ho M
    have hge := grownCap_ge w (n + m) old e
    have hcm : grownCap w (n + m) old e ≤ maxLen := grownCap_le_maxLen w (n + m) old e h63
    refine ⟨⟨hlen, hge, .inr ⟨w.heap.size, _, (0, 0), rfl, heap_alloc_new w.drew _, fun j _ h => by omega, hcm, ?_, ?_⟩⟩, ⟨rfl, rfl, rfl, by simp, fun k hk _ => Below.heap_alloc w.drew _ k hk⟩⟩
    · simp only [Array.size_append, List.size_toArray, size_zeroCells, hzs, hlen, ← Nat.add_mul]
      congr 1
      omega
    · simp only [Array.toList_append]
      rw [← hlen]
      exact List.take_left
  rcases hown.2.2 with ⟨rfl, rfl⟩ | ⟨g, cur, fr, rfl, hg, hfr, hcm, hcs, htake⟩
  · obtain ⟨rfl, _, rfl⟩ := hown.of_none
    by_cases hm : m = 0
    · subst hm
      have hn : news = [] := List.eq_nil_of_length_eq_zero (by simpa using hs.newsLen)
      subst hn
      refine ⟨none, 0, w, ?_, Own.nil w e i.size, Chg.refl _ _, Or.inl rfl, fun _ => ⟨rfl, rfl⟩⟩
      rcases hs.kind with ⟨e', hk⟩ | hk <;> simp [Builtin.append_, run_underlying ht, run_underlying hk, sizeOf, typeInfo, hi, hs.len, hs.cells]
    · have hr := run_append_grow_src (P := P) w t tx ty e i z ht hi hz none 0 0 [] (by simp [Builtin.firstCells]) x m news hs (by omega) (by omega) (growslice_fits (by omega) hbytes)
      have hgr := grown 0 (by omega) (fun b => (∃ a, (none : Option Addr) = some a ∧ b = a.block) ∧ some (⟨w.heap.size, 0, none⟩ : Addr) = none)
      exact ⟨_, _, _, hr, hgr.1, hgr.2, Or.inr (fun a ea => by injection ea with ea; subst ea; exact Nat.le_refl _), fun h => by cases h⟩
  · by_cases hroom : n + m ≤ c
    · have hfit : n * i.size + news.length ≤ cur.size := by rw [hs.newsLen, hcs, ← Nat.add_mul]; exact Nat.mul_le_mul_right _ hroom
      have hr := run_append_room_src (P := P) w t tx ty e i ht hi g 0 n c x m news hs hroom
        (fun j hj => by rw [Nat.zero_add, cell_of_row w g _ cur e fr hg]; rw [Array.getElem?_eq_getElem (by omega)]; rfl)
        (fun j hj => by
          have := hfr (0 + n * i.size + j) (by omega)
          simp only [World.frozen?, hg]
          simpa using this)
      rw [Nat.zero_add] at hr
      have hs2 := setCells_same g e fr news (n * i.size) w cur hg hfit
      refine ⟨_, _, _, hr, ⟨hlen, hroom, .inr ⟨g, _, fr, rfl, hs2, ?_, hcm, ?_, ?_⟩⟩, (setCells_chg g news _ w).mono (fun b _ hb => ⟨⟨_, rfl, hb⟩, rfl⟩), Or.inl rfl, fun h => by cases h⟩
      · intro j hj
        refine hfr j ?_
        simp only [List.size_toArray, List.length_append, List.length_take, List.length_drop, Array.length_toList] at hj
        omega
      · simp only [List.size_toArray, List.length_append, List.length_take, List.length_drop, Array.length_toList]
        omega
      · rw [htake, ← hlen]
        exact List.take_left
    · have holds : ∀ j u, cs[j]? = some u → w.drew.cell? ((⟨g, 0, none⟩ : Addr).add j) = some u := fun j u hu => by
        obtain ⟨b, off, e1, hc⟩ := hown.sl.2 j u hu
        injection e1 with e1
        injection e1 with e2 e3
        subst e2; subst e3
        rw [Addr.add_lit]; exact hc
      have hr := run_append_grow_src (P := P) w t tx ty e i z ht hi hz (some ⟨g, 0, none⟩) n c cs (run_firstCells_some w.drew i.size n _ n c cs hown.1 holds) x m news hs (by omega) (by omega) (growslice_fits (by omega) hbytes)
      have hgr := grown c (by omega) (fun b => (∃ a, some (⟨g, 0, none⟩ : Addr) = some a ∧ b = a.block) ∧ some (⟨w.heap.size, 0, none⟩ : Addr) = some ⟨g, 0, none⟩)
      exact ⟨_, _, _, hr, hgr.1, hgr.2, Or.inr (fun a ea => by injection ea with ea; subst ea; exact Nat.le_refl _), fun h => by cases h⟩

theorem Src.ofSl {P : Program} {w : World} {sz : Nat} {tx e' : TypeId} (hk : P.underlying tx = some (.slice e')) {ao : Option Addr} {m c : Nat} {cs : List Value} (h : Sl w ao m sz cs) (h1 : ∀ u ∈ cs, u.oneCell' = true) (hn : ao = none → m = 0) :
    Src P sz tx (.slice ao m c) m cs w := by
  cases ao with
  | some a =>
    refine Go.Src.ofSlice w hk a m c cs h.1 (fun j u hu => ?_) h1
    obtain ⟨b, off, e, hc⟩ := h.2 j u hu
    injection e with e
    subst e
    rwa [Addr.add_lit]
  | none =>
    obtain rfl := hn rfl
    have : cs = [] := List.eq_nil_of_length_eq_zero (by simpa using h.1)
    subst this
    exact Go.Src.ofNil w hk c
end Go.HL
namespace Go.HL
open Go.RowKit

abbrev vi (n : Int) : Value := .int .i64 n
abbrev v8 (b : UInt8) : Value := .int .u8 (b.toNat : Int)
abbrev v32 (b : UInt32) : Value := .int .u32 (b.toNat : Int)
abbrev v64 (b : UInt64) : Value := .int .u64 (b.toNat : Int)
abbrev vs (s : ByteArray) : Value := .string s
section
variable {P : Program} {ops : Array Oper} {Q : Exit → Act → World → Prop} {N : Nat} {E : Env} {w : World} {rest : List Oper}
  {d : Nat} {ty : TypeId} {pos : String} {af : Array Edge}

theorem WL.move {x : Operand} {v : Value} (hx : ev E x = some v) (hd : Nat.blt d N = true) (h : WL P ops Q N rest ((d, v) :: E) w) : WL P ops Q N (⟨some d, .move x, ty, pos, af, none⟩ :: rest) E w :=
  WL.run v w (fun a ha => by simp [execOp, ev_eval ha hx]) hd h
theorem WL.assign {x : Operand} {v : Value} (hx : ev E x = some v) (hd : Nat.blt d N = true) (h : WL P ops Q N rest ((d, v) :: E) w) : WL P ops Q N (⟨some d, .assign x, ty, pos, af, none⟩ :: rest) E w :=
  WL.run v w (fun a ha => by simp [execOp, ev_eval ha hx]) hd h
theorem WL.pick {c x y : Operand} {b : Bool} {v u : Value} (hc : ev E c = some (.bool b)) (hx : ev E x = some v) (hy : ev E y = some u) (hd : Nat.blt d N = true) (h : WL P ops Q N rest ((d, if b then v else u) :: E) w) :
    WL P ops Q N (⟨some d, .pick c x y, ty, pos, af, none⟩ :: rest) E w :=
  WL.run _ w (fun a ha => by simp [execOp, ev_eval ha hc, ev_eval ha hx, ev_eval ha hy, asBool]) hd h
theorem WL.pickT {c x y : Operand} {v : Value} (hc : ev E c = some (.bool true)) (hx : ev E x = some v) (hd : Nat.blt d N = true) (h : WL P ops Q N rest ((d, v) :: E) w) :
    WL P ops Q N (⟨some d, .pick c x y, ty, pos, af, none⟩ :: rest) E w :=
  WL.run _ w (fun a ha => by simp [execOp, ev_eval ha hc, ev_eval ha hx, asBool]) hd h
theorem WL.pickF {c x y : Operand} {v : Value} (hc : ev E c = some (.bool false)) (hy : ev E y = some v) (hd : Nat.blt d N = true) (h : WL P ops Q N rest ((d, v) :: E) w) :
    WL P ops Q N (⟨some d, .pick c x y, ty, pos, af, none⟩ :: rest) E w :=
  WL.run _ w (fun a ha => by simp [execOp, ev_eval ha hc, ev_eval ha hy, asBool]) hd h
theorem WL.not {t : TypeId} {x : Operand} {b : Bool} (hx : ev E x = some (.bool b)) (hd : Nat.blt d N = true) (h : WL P ops Q N rest ((d, .bool (!b)) :: E) w) :
    WL P ops Q N (⟨some d, .unOp .not t x, ty, pos, af, none⟩ :: rest) E w :=
  WL.run _ w (fun a ha => by simp [execOp, ev_eval ha hx, Op.unary]) hd h

/-! comparisons -/
section cmp
variable {t tb : TypeId} {x y : Operand} {k : IntKind} {m n : Int}
theorem WL.lss (hx : ev E x = some (.int k m)) (hy : ev E y = some (.int k n)) (hd : Nat.blt d N = true) (h : WL P ops Q N rest ((d, .bool (decide (m < n))) :: E) w) : WL P ops Q N (⟨some d, .binOp .lss t x y tb, ty, pos, af, none⟩ :: rest) E w :=
  WL.run _ w (fun a ha => by simp [execOp, ev_eval ha hx, ev_eval ha hy, eqGuard, binOp, Op.intCmp]) hd h
theorem WL.leq (hx : ev E x = some (.int k m)) (hy : ev E y = some (.int k n)) (hd : Nat.blt d N = true) (h : WL P ops Q N rest ((d, .bool (decide (m ≤ n))) :: E) w) : WL P ops Q N (⟨some d, .binOp .leq t x y tb, ty, pos, af, none⟩ :: rest) E w :=
  WL.run _ w (fun a ha => by simp [execOp, ev_eval ha hx, ev_eval ha hy, eqGuard, binOp, Op.intCmp]) hd h
theorem WL.gtr (hx : ev E x = some (.int k m)) (hy : ev E y = some (.int k n)) (hd : Nat.blt d N = true) (h : WL P ops Q N rest ((d, .bool (decide (n < m))) :: E) w) : WL P ops Q N (⟨some d, .binOp .gtr t x y tb, ty, pos, af, none⟩ :: rest) E w :=
  WL.run _ w (fun a ha => by simp [execOp, ev_eval ha hx, ev_eval ha hy, eqGuard, binOp, Op.intCmp]) hd h
theorem WL.geq (hx : ev E x = some (.int k m)) (hy : ev E y = some (.int k n)) (hd : Nat.blt d N = true) (h : WL P ops Q N rest ((d, .bool (decide (n ≤ m))) :: E) w) : WL P ops Q N (⟨some d, .binOp .geq t x y tb, ty, pos, af, none⟩ :: rest) E w :=
  WL.run _ w (fun a ha => by simp [execOp, ev_eval ha hx, ev_eval ha hy, eqGuard, binOp, Op.intCmp]) hd h
theorem WL.eql (hx : ev E x = some (.int k m)) (hy : ev E y = some (.int k n)) (hd : Nat.blt d N = true) (h : WL P ops Q N rest ((d, .bool (decide (m = n))) :: E) w) : WL P ops Q N (⟨some d, .binOp .eql t x y tb, ty, pos, af, none⟩ :: rest) E w :=
  WL.run _ w (fun a ha => by simp [execOp, ev_eval ha hx, ev_eval ha hy, eqGuard, binOp, Op.intCmp]; rfl) hd h
theorem WL.neq (hx : ev E x = some (.int k m)) (hy : ev E y = some (.int k n)) (hd : Nat.blt d N = true) (h : WL P ops Q N rest ((d, .bool (decide (m ≠ n))) :: E) w) : WL P ops Q N (⟨some d, .binOp .neq t x y tb, ty, pos, af, none⟩ :: rest) E w :=
  WL.run _ w (fun a ha => by simp [execOp, ev_eval ha hx, ev_eval ha hy, eqGuard, binOp, Op.intCmp, bne]; rfl) hd h
theorem WL.lss? (hx : ev E x = some (.int k m)) (hy : ev E y = some (.int k n)) (hd : Nat.blt d N = true) (ht : m < n → WL P ops Q N rest ((d, .bool true) :: E) w) (hf : n ≤ m → WL P ops Q N rest ((d, .bool false) :: E) w) : WL P ops Q N (⟨some d, .binOp .lss t x y tb, ty, pos, af, none⟩ :: rest) E w :=
  WL.lss hx hy hd (by by_cases h : m < n; · simpa [h] using ht h
                      · simpa [h] using hf (by omega))
theorem WL.leq? (hx : ev E x = some (.int k m)) (hy : ev E y = some (.int k n)) (hd : Nat.blt d N = true) (ht : m ≤ n → WL P ops Q N rest ((d, .bool true) :: E) w) (hf : n < m → WL P ops Q N rest ((d, .bool false) :: E) w) : WL P ops Q N (⟨some d, .binOp .leq t x y tb, ty, pos, af, none⟩ :: rest) E w :=
  WL.leq hx hy hd (by by_cases h : m ≤ n; · simpa [h] using ht h
                      · simpa [h] using hf (by omega))
theorem WL.gtr? (hx : ev E x = some (.int k m)) (hy : ev E y = some (.int k n)) (hd : Nat.blt d N = true) (ht : n < m → WL P ops Q N rest ((d, .bool true) :: E) w) (hf : m ≤ n → WL P ops Q N rest ((d, .bool false) :: E) w) : WL P ops Q N (⟨some d, .binOp .gtr t x y tb, ty, pos, af, none⟩ :: rest) E w :=
  WL.gtr hx hy hd (by by_cases h : n < m; · simpa [h] using ht h
                      · simpa [h] using hf (by omega))
theorem WL.geq? (hx : ev E x = some (.int k m)) (hy : ev E y = some (.int k n)) (hd : Nat.blt d N = true) (ht : n ≤ m → WL P ops Q N rest ((d, .bool true) :: E) w) (hf : m < n → WL P ops Q N rest ((d, .bool false) :: E) w) : WL P ops Q N (⟨some d, .binOp .geq t x y tb, ty, pos, af, none⟩ :: rest) E w :=
  WL.geq hx hy hd (by by_cases h : n ≤ m; · simpa [h] using ht h
                      · simpa [h] using hf (by omega))
theorem WL.eql? (hx : ev E x = some (.int k m)) (hy : ev E y = some (.int k n)) (hd : Nat.blt d N = true) (ht : m = n → WL P ops Q N rest ((d, .bool true) :: E) w) (hf : m ≠ n → WL P ops Q N rest ((d, .bool false) :: E) w) : WL P ops Q N (⟨some d, .binOp .eql t x y tb, ty, pos, af, none⟩ :: rest) E w :=
  WL.eql hx hy hd (by by_cases h : m = n; · simpa [h] using ht h
                      · simpa [h] using hf h)
theorem WL.neq? (hx : ev E x = some (.int k m)) (hy : ev E y = some (.int k n)) (hd : Nat.blt d N = true) (ht : m ≠ n → WL P ops Q N rest ((d, .bool true) :: E) w) (hf : m = n → WL P ops Q N rest ((d, .bool false) :: E) w) : WL P ops Q N (⟨some d, .binOp .neq t x y tb, ty, pos, af, none⟩ :: rest) E w :=
  WL.neq hx hy hd (by by_cases h : m = n; · simpa [h] using hf h
                      · simpa [h] using ht h)
end cmp

/-! strings -/
section str
variable {t tb : TypeId} {x y : Operand} {s u : ByteArray}
theorem beq_bytes (s u : ByteArray) : (s.toList == u.toList) = decide (s = u) := by
  by_cases h : s = u
  · subst h; simp
  · have : ¬ s.toList = u.toList := by
      intro e
      apply h
      have h1 : s.data.toList = u.data.toList := by rw [ByteArray.toList_eq, ByteArray.toList_eq] at e; exact e
      exact ByteArray.ext (Array.ext' h1)
    simp [h, this]
theorem WL.seql (hx : ev E x = some (.string s)) (hy : ev E y = some (.string u)) (hd : Nat.blt d N = true) (h : WL P ops Q N rest ((d, .bool (decide (s = u))) :: E) w) : WL P ops Q N (⟨some d, .binOp .eql t x y tb, ty, pos, af, none⟩ :: rest) E w :=
  WL.run _ w (fun a ha => by simp only [execOp, ev_eval ha hx, ev_eval ha hy, eqGuard, binOp, Op.stringOp, beq_bytes]; simp) hd h
theorem WL.sneq (hx : ev E x = some (.string s)) (hy : ev E y = some (.string u)) (hd : Nat.blt d N = true) (h : WL P ops Q N rest ((d, .bool (decide (s ≠ u))) :: E) w) : WL P ops Q N (⟨some d, .binOp .neq t x y tb, ty, pos, af, none⟩ :: rest) E w :=
  WL.run _ w (fun a ha => by simp only [execOp, ev_eval ha hx, ev_eval ha hy, eqGuard, binOp, Op.stringOp, beq_bytes]; simp) hd h
theorem WL.seql? (hx : ev E x = some (.string s)) (hy : ev E y = some (.string u)) (hd : Nat.blt d N = true) (ht : s = u → WL P ops Q N rest ((d, .bool true) :: E) w) (hf : s ≠ u → WL P ops Q N rest ((d, .bool false) :: E) w) : WL P ops Q N (⟨some d, .binOp .eql t x y tb, ty, pos, af, none⟩ :: rest) E w :=
  WL.seql hx hy hd (by by_cases h : s = u; · simpa [h] using ht h
                       · simpa [h] using hf h)
theorem WL.sneq? (hx : ev E x = some (.string s)) (hy : ev E y = some (.string u)) (hd : Nat.blt d N = true) (ht : s ≠ u → WL P ops Q N rest ((d, .bool true) :: E) w) (hf : s = u → WL P ops Q N rest ((d, .bool false) :: E) w) : WL P ops Q N (⟨some d, .binOp .neq t x y tb, ty, pos, af, none⟩ :: rest) E w :=
  WL.sneq hx hy hd (by by_cases h : s = u; · simpa [h] using hf h
                       · simpa [h] using ht h)
end str

/-! whole numbers -/
section num
variable {t tb : TypeId} {x y : Operand} {m n : Int}
theorem wrap_i64 {n : Int} (h : -9223372036854775808 ≤ n ∧ n ≤ 9223372036854775807) : IntKind.i64.wrap n = n := by
  simp only [IntKind.wrap, IntKind.bits, IntKind.signed]
  simp
  omega
theorem WL.add64 (hx : ev E x = some (vi m)) (hy : ev E y = some (vi n)) (hb : -9223372036854775808 ≤ m + n ∧ m + n ≤ 9223372036854775807) (hd : Nat.blt d N = true) (h : WL P ops Q N rest ((d, vi (m + n)) :: E) w) : WL P ops Q N (⟨some d, .binOp .add t x y tb, ty, pos, af, none⟩ :: rest) E w :=
  WL.run _ w (fun a ha => by simp [execOp, ev_eval ha hx, ev_eval ha hy, eqGuard, binOp, Op.intArith, wrap_i64 hb]) hd h
theorem WL.sub64 (hx : ev E x = some (vi m)) (hy : ev E y = some (vi n)) (hb : -9223372036854775808 ≤ m - n ∧ m - n ≤ 9223372036854775807) (hd : Nat.blt d N = true) (h : WL P ops Q N rest ((d, vi (m - n)) :: E) w) : WL P ops Q N (⟨some d, .binOp .sub t x y tb, ty, pos, af, none⟩ :: rest) E w :=
  WL.run _ w (fun a ha => by simp [execOp, ev_eval ha hx, ev_eval ha hy, eqGuard, binOp, Op.intArith, wrap_i64 hb]) hd h
theorem WL.mul64 (hx : ev E x = some (vi m)) (hy : ev E y = some (vi n)) (hb : -9223372036854775808 ≤ m * n ∧ m * n ≤ 9223372036854775807) (hd : Nat.blt d N = true) (h : WL P ops Q N rest ((d, vi (m * n)) :: E) w) : WL P ops Q N (⟨some d, .binOp .mul t x y tb, ty, pos, af, none⟩ :: rest) E w :=
  WL.run _ w (fun a ha => by simp [execOp, ev_eval ha hx, ev_eval ha hy, eqGuard, binOp, Op.intArith, wrap_i64 hb]) hd h
theorem WL.remk {k : IntKind} (hx : ev E x = some (.int k m)) (hy : ev E y = some (.int k n)) (hn : n ≠ 0) (hd : Nat.blt d N = true) (h : WL P ops Q N rest ((d, .int k (m.tmod n)) :: E) w) : WL P ops Q N (⟨some d, .binOp .rem t x y tb, ty, pos, af, none⟩ :: rest) E w :=
  WL.run _ w (fun a ha => by simp [execOp, ev_eval ha hx, ev_eval ha hy, eqGuard, binOp, Op.intDiv, hn]) hd h
theorem WL.quok {k : IntKind} (hx : ev E x = some (.int k m)) (hy : ev E y = some (.int k n)) (hn : n ≠ 0) (hd : Nat.blt d N = true) (h : WL P ops Q N rest ((d, .int k (k.wrap (m.tdiv n))) :: E) w) : WL P ops Q N (⟨some d, .binOp .quo t x y tb, ty, pos, af, none⟩ :: rest) E w :=
  WL.run _ w (fun a ha => by simp [execOp, ev_eval ha hx, ev_eval ha hy, eqGuard, binOp, Op.intDiv, hn]) hd h
/-- any operation of whole numbers whose answer is known -/
theorem WL.num {op : BinOp} {k j : IntKind} {r : Value} (hx : ev E x = some (.int k m)) (hy : ev E y = some (.int j n)) (hr : (binOp op t (.int k m) (.int j n)).run P w = .ok r w) (hd : Nat.blt d N = true) (h : WL P ops Q N rest ((d, r) :: E) w) : WL P ops Q N (⟨some d, .binOp op t x y tb, ty, pos, af, none⟩ :: rest) E w :=
  WL.run r w (fun a ha => by
    have hg : (eqGuard op t x y (.int k m) (.int j n)).run P w = .ok () w := by unfold eqGuard; split <;> simp
    simp only [execOp, ev_eval ha hx, ev_eval ha hy]
    simp [hg, hr]) hd h
/-- a conversion of a whole number -/
theorem WL.conv {src dst : TypeId} {k j : IntKind} (hk : P.underlying src = some (.int j)) (ht : P.underlying dst = some (.int k)) (hx : ev E x = some (.int j n)) (hd : Nat.blt d N = true) (h : WL P ops Q N rest ((d, .int k (k.wrap n)) :: E) w) : WL P ops Q N (⟨some d, .convert src dst x, ty, pos, af, none⟩ :: rest) E w :=
  WL.run _ w (fun a ha => by simp [execOp, ev_eval ha hx, convert, run_underlying hk, run_underlying ht, Conv.intToInt]) hd h
end num

/-! calls -/
def Ret (φ : Value → World → Prop) (e : Ending) (w : World) : Prop := ∃ v, e = .returned v ∧ φ v w
def evs (E : Env) : List Operand → Option (List Value)
  | [] => some []
  | x :: r => (ev E x).bind fun v => (evs E r).map (v :: ·)
theorem evs_eval {a : Act} (ha : Holds N E a) : ∀ {xs : List Operand} {vs : List Value}, evs E xs = some vs → xs.map a.eval = vs
  | [], vs, h => by simp [evs] at h; simp [h]
  | x :: r, vs, h => by
    simp only [evs, Option.bind_eq_some_iff, Option.map_eq_some_iff] at h
    obtain ⟨v, hv, us, hu, rfl⟩ := h
    simp [ev_eval ha hv, evs_eval ha hu]
theorem WL.enter {c : Call} {f : FuncId} {args : Array Value} {φ : Value → World → Prop}
    (hrun : ∀ a, Holds N E a → (execOp a.eval ⟨some d, .call c, ty, pos, af, none⟩).run P w = .ok (.enter f args) w)
    (hd : Nat.blt d N = true) (hc : Calls P f args w (Ret φ)) (h : ∀ v w', φ v w' → WL P ops Q N rest ((d, v) :: E) w') : WL P ops Q N (⟨some d, .call c, ty, pos, af, none⟩ :: rest) E w := fun a ha => by
  refine wpList_plain rfl fun K hK => ?_
  unfold Oper.wp
  rw [hrun a ha, Oper.upon_enter]
  refine hc.mono fun e w' ⟨v, he, hφ⟩ => ?_
  subst he
  exact hK _ _ (h v w' hφ _ (ha.put hd v))
theorem WL.call {f : FuncId} {xs : List Operand} {vs : List Value} {ats : Array TypeId} {φ : Value → World → Prop} (eg : ∀ (args : Array Value) (w : World), (callFunc f args).run P w = .ok (.enter f args) w)
    (hx : evs E xs = some vs) (hd : Nat.blt d N = true) (hc : Calls P f vs.toArray w (Ret φ)) (h : ∀ v w', φ v w' → WL P ops Q N rest ((d, v) :: E) w') :
    WL P ops Q N (⟨some d, .call ⟨.value (.func f), xs.toArray, ats⟩, ty, pos, af, none⟩ :: rest) E w :=
  WL.enter (fun a ha => by
    simp only [execOp, resolve, Act.eval, Deferred.ofValue, List.map_toArray, evs_eval ha hx]
    simp [invoke, eg]) hd hc h
/-- through a function value -/
theorem WL.callv {f : FuncId} {g : Operand} {fst cap : Array Value} {xs : List Operand} {vs : List Value} {ats : Array TypeId} {φ : Value → World → Prop} (eg : ∀ (args : Array Value) (w : World), (callFunc f args).run P w = .ok (.enter f args) w)
    (hg : ev E g = some (.func (.func f) fst cap)) (hx : evs E xs = some vs) (hd : Nat.blt d N = true) (hc : Calls P f (fst ++ vs.toArray ++ cap) w (Ret φ)) (h : ∀ v w', φ v w' → WL P ops Q N rest ((d, v) :: E) w') :
    WL P ops Q N (⟨some d, .call ⟨.value g, xs.toArray, ats⟩, ty, pos, af, none⟩ :: rest) E w :=
  WL.enter (fun a ha => by
    simp only [execOp, resolve, ev_eval ha hg, Deferred.ofValue, List.map_toArray, evs_eval ha hx]
    simp [invoke, eg]) hd hc h
theorem WL.extract {x : Operand} {vs : Array Value} {i : Nat} {v : Value} (hx : ev E x = some (.tuple vs)) (hv : vs[i]? = some v) (hd : Nat.blt d N = true) (h : WL P ops Q N rest ((d, v) :: E) w) : WL P ops Q N (⟨some d, .extract x i, ty, pos, af, none⟩ :: rest) E w :=
  WL.run v w (fun a ha => by simp [execOp, ev_eval ha hx, Instr.extract, hv]) hd h

/-! lengths -/
theorem WL.len {x : Operand} {t e : TypeId} {ao : Option Addr} {n c : Nat} (ht : P.underlying t = some (.slice e)) (hx : ev E x = some (.slice ao n c)) (hd : Nat.blt d N = true) (h : WL P ops Q N rest ((d, vi n) :: E) w) :
    WL P ops Q N (⟨some d, .call ⟨.builtin .len, #[x], #[t]⟩, ty, pos, af, none⟩ :: rest) E w :=
  WL.run _ w (fun a ha => by simp [execOp, resolve, invoke, builtin, ev_eval ha hx, Builtin.len_, run_underlying ht, goInt]) hd h
theorem WL.cap {x : Operand} {t e : TypeId} {ao : Option Addr} {n c : Nat} (ht : P.underlying t = some (.slice e)) (hx : ev E x = some (.slice ao n c)) (hd : Nat.blt d N = true) (h : WL P ops Q N rest ((d, vi c) :: E) w) :
    WL P ops Q N (⟨some d, .call ⟨.builtin .cap, #[x], #[t]⟩, ty, pos, af, none⟩ :: rest) E w :=
  WL.run _ w (fun a ha => by simp [execOp, resolve, invoke, builtin, ev_eval ha hx, Builtin.cap_, run_underlying ht, goInt]) hd h
theorem WL.lens {x : Operand} {t : TypeId} {s : ByteArray} (ht : P.underlying t = some .string) (hx : ev E x = some (.string s)) (hd : Nat.blt d N = true) (h : WL P ops Q N rest ((d, vi s.size) :: E) w) :
    WL P ops Q N (⟨some d, .call ⟨.builtin .len, #[x], #[t]⟩, ty, pos, af, none⟩ :: rest) E w :=
  WL.run _ w (fun a ha => by simp [execOp, resolve, invoke, builtin, ev_eval ha hx, Builtin.len_, run_underlying ht, goInt]) hd h

/-! memory -/
theorem WL.alloc {t : TypeId} {z : Value} (hz : ∀ w, (zeroValue t).run P w = .ok z w) (hd : Nat.blt d N = true) (h : ∀ g w', w.heap.size ≤ g → g < w'.heap.size → Blk w' g t z.cells.toList → Chg Nob w w' → WL P ops Q N rest ((d, .pointer (some ⟨g, 0, none⟩)) :: E) w') :
    WL P ops Q N (⟨some d, .alloc t, ty, pos, af, none⟩ :: rest) E w :=
  WL.run _ (w.alloc (.cells z.cells t)) (fun a ha => by simp [execOp, Instr.alloc, hz, newVar, newRow]) hd
    (h _ _ (Nat.le_refl _) (by simp) (by simpa using Blk.new w t z.cells.toList) (Chg.alloc _ _))
theorem WL.box {t : TypeId} {x : Operand} {v : Value} (hx : ev E x = some v) (hd : Nat.blt d N = true) (h : ∀ g w', w.heap.size ≤ g → g < w'.heap.size → Blk w' g t v.cells.toList → Chg Nob w w' → WL P ops Q N rest ((d, .pointer (some ⟨g, 0, none⟩)) :: E) w') :
    WL P ops Q N (⟨some d, .box t x, ty, pos, af, none⟩ :: rest) E w :=
  WL.run _ (w.alloc (.cells v.cells t)) (fun a ha => by simp [execOp, Instr.box, ev_eval ha hx, newVar, newRow]) hd
    (h _ _ (Nat.le_refl _) (by simp) (by simpa using Blk.new w t v.cells.toList) (Chg.alloc _ _))
theorem WL.fieldAddr {s : TypeId} {x : Operand} {f : Nat} {b o o' : Nat} (hf : ∀ (b o : Nat) (w : World), (Instr.fieldAt s (.pointer (some ⟨b, o, none⟩)) f).run P w = .ok (.pointer (some ⟨b, o + o', none⟩)) w)
    (hx : ev E x = some (.pointer (some ⟨b, o, none⟩))) (hd : Nat.blt d N = true) (h : WL P ops Q N rest ((d, .pointer (some ⟨b, o + o', none⟩)) :: E) w) :
    WL P ops Q N (⟨some d, .fieldAddr s x f, ty, pos, af, none⟩ :: rest) E w :=
  WL.run _ w (fun a ha => by simp [execOp, ev_eval ha hx, hf]) hd h
theorem WL.load {t : TypeId} {x : Operand} {ad : Addr} {v : Value} (ha : ∀ w, (isAgg t).run P w = .ok false w) (hx : ev E x = some (.pointer (some ad))) (hc : w.cell? ad = some v) (hd : Nat.blt d N = true) (h : WL P ops Q N rest ((d, v) :: E) w) :
    WL P ops Q N (⟨some d, .load t x, ty, pos, af, none⟩ :: rest) E w :=
  WL.run _ w (fun a hh => by simp [execOp, ev_eval hh hx, Instr.loadAt, Instr.sureAddr, loadVar, ha, Go.load, Sem.run, hc]) hd h
theorem WL.loadB {t e : TypeId} {x : Operand} {b o : Nat} {cs : List Value} {v : Value} (ha : ∀ w, (isAgg t).run P w = .ok false w) (hb : Blk w b e cs) (hx : ev E x = some (.pointer (some ⟨b, o, none⟩))) (hc : cs[o]? = some v) (hd : Nat.blt d N = true) (h : WL P ops Q N rest ((d, v) :: E) w) :
    WL P ops Q N (⟨some d, .load t x, ty, pos, af, none⟩ :: rest) E w := WL.load ha hx (hb.cell hc) hd h
theorem WL.loads {t : TypeId} {x : Operand} {b o k : Nat} (cs : List Value) (ha : ∀ w, (isAgg t).run P w = .ok true w) (hs : ∀ w, (sizeOf t).run P w = .ok k w) (hx : ev E x = some (.pointer (some ⟨b, o, none⟩))) (hc : ∀ j v, cs[j]? = some v → w.cell? ⟨b, o + j, none⟩ = some v) (hk : cs.length = k) (hd : Nat.blt d N = true) (h : WL P ops Q N rest ((d, .agg cs.toArray) :: E) w) :
    WL P ops Q N (⟨some d, .load t x, ty, pos, af, none⟩ :: rest) E w :=
  WL.run _ w (fun a hh => by
    have hl := run_loadCells_list (P := P) w ⟨b, o, none⟩ cs (fun j v hj => by rw [Addr.add_lit]; exact hc j v hj)
    rw [hk] at hl
    simp [execOp, ev_eval hh hx, Instr.loadAt, Instr.sureAddr, loadVar, ha, hs, hl]) hd h
/-- a cell of a block that is known whole is written -/
theorem WL.store {t e : TypeId} {x y : Operand} {b o : Nat} {v : Value} {cs : List Value} (hs : ∀ w, (sizeOf t).run P w = .ok 1 w) (hb : Blk w b e cs) (hx : ev E x = some (.pointer (some ⟨b, o, none⟩))) (hy : ev E y = some v) (h1 : v.oneCell' = true) (ho : (cs[o]?).isSome = true)
    (h : ∀ w', w'.heap.size = w.heap.size → Blk w' b e (cs.set o v) → Chg (· = b) w w' → WL P ops Q N rest E w') :
    WL P ops Q N (⟨none, .store t x y, ty, pos, af, none⟩ :: rest) E w :=
  WL.run0 (w.setCell ⟨b, o, none⟩ v) (fun a hh => by
    obtain ⟨u, hu⟩ := Option.isSome_iff_exists.1 ho
    have hst : (Go.store ⟨b, o, none⟩ v).run P w = .ok () (w.setCell ⟨b, o, none⟩ v) := by
      rw [run_store P w _ v _ h1]
      simp [hb.cell hu, hb.free]
    have hc1 : v.cells = #[v] := by cases v <;> simp_all [Value.oneCell', Value.cells]
    simp [execOp, ev_eval hh hx, ev_eval hh hy, Instr.storeAt, Instr.sureAddr, storeVar, hs, hc1, storeCells, Addr.add_lit, hst]) (h _ (by simp) (hb.set o v) (Chg.setCell w ⟨b, o, none⟩ v))
theorem setCells_blk {w : World} {b : Nat} {e : TypeId} {cs : List Value} (hb : Blk w b e cs) (o : Nat) (vs : List Value) (h : o + vs.length ≤ cs.length) : Blk (w.setCells b o vs) b e (cs.take o ++ vs ++ cs.drop (o + vs.length)) := by
  have := setCells_same b e (0, 0) vs o w cs.toArray hb (by simpa using h)
  simpa [Blk] using this
theorem WL.stores {t e : TypeId} {x y : Operand} {b o k : Nat} {vs : List Value} {cs cs' : List Value} (hs : ∀ w, (sizeOf t).run P w = .ok k w) (hb : Blk w b e cs) (hx : ev E x = some (.pointer (some ⟨b, o, none⟩))) (hy : ev E y = some (.agg vs.toArray)) (hk : vs.length = k) (h1 : ∀ u ∈ vs, u.oneCell' = true)
    (ho : o + vs.length ≤ cs.length) (he : cs.take o ++ vs ++ cs.drop (o + vs.length) = cs')
    (h : ∀ w', w'.heap.size = w.heap.size → Blk w' b e cs' → Chg (· = b) w w' → WL P ops Q N rest E w') :
    WL P ops Q N (⟨none, .store t x y, ty, pos, af, none⟩ :: rest) E w :=
  WL.run0 (w.setCells b o vs) (fun a hh => by
    have hst := run_storeCells_cells (P := P) b o vs 0 w (fun j hj => by
      rw [Nat.add_zero, hb.cell (j := o + j) (v := cs[o + j]'(by omega)) (List.getElem?_eq_getElem _)]; rfl) (fun j _ => hb.free _) h1
    simp only [Nat.add_zero] at hst
    simp [execOp, ev_eval hh hx, ev_eval hh hy, Instr.storeAt, Instr.sureAddr, storeVar, hs, Value.cells, hk, hst]) (by
      refine h _ ?_ (he ▸ setCells_blk hb o vs ho) (setCells_chg b vs o w)
      have := (setCells_chg b vs o w)
      clear h hb ho he hy h1 hk this hx hs
      induction vs generalizing o w with
      | nil => rfl
      | cons v r ih => rw [World.setCells, ih]; simp)
/-- the place of an element -/
theorem WL.index {t e : TypeId} {x y : Operand} {b off n c sz : Nat} {k : IntKind} {i : Int} {j : Nat} (ht : P.underlying t = some (.slice e)) (hs : ∀ w, (sizeOf e).run P w = .ok sz w) (hx : ev E x = some (.slice (some ⟨b, off, none⟩) n c)) (hy : ev E y = some (.int k i)) (hi : i = (j : Int)) (hj : j < n) (hd : Nat.blt d N = true)
    (h : WL P ops Q N rest ((d, .pointer (some ⟨b, off + j * sz, none⟩)) :: E) w) : WL P ops Q N (⟨some d, .indexAddr t x y, ty, pos, af, none⟩ :: rest) E w :=
  WL.run _ w (fun a ha => by
    subst hi
    simp [execOp, ev_eval ha hx, ev_eval ha hy, Instr.indexAt, asIntOf, run_underlying ht, hs, hj, Addr.add_lit]) hd h
/-- the place of an element of a slice that is read: what it holds -/
theorem WL.indexSl {t e : TypeId} {x y : Operand} {ao : Option Addr} {n c sz : Nat} {k : IntKind} {i : Int} {cs : List Value} (ht : P.underlying t = some (.slice e)) (hs : ∀ w, (sizeOf e).run P w = .ok sz w) (hsz : 0 < sz) (hsl : Sl w ao n sz cs) (hx : ev E x = some (.slice ao n c)) (hy : ev E y = some (.int k i)) (j : Nat) (hi : i = (j : Int)) (hj : j < n) (hd : Nat.blt d N = true)
    (h : ∀ b o, ao.map (·.block) = some b → (∀ q v, q < sz → cs[j * sz + q]? = some v → w.cell? ⟨b, o + q, none⟩ = some v) → WL P ops Q N rest ((d, .pointer (some ⟨b, o, none⟩)) :: E) w) : WL P ops Q N (⟨some d, .indexAddr t x y, ty, pos, af, none⟩ :: rest) E w := by
  have hlt : j * sz < cs.length := by
    rw [hsl.1]
    exact (Nat.mul_lt_mul_right hsz).2 hj
  obtain ⟨b, off, rfl, _⟩ := hsl.2 (j * sz) _ (List.getElem?_eq_getElem hlt)
  refine WL.index ht hs hx hy hi hj hd (h b _ rfl fun q v hq hv => ?_)
  obtain ⟨b', off', e', hc⟩ := hsl.2 _ v hv
  injection e' with e'
  injection e' with e1 e2
  subst e1; subst e2
  rw [Nat.add_assoc]; exact hc
end
end Go.HL
namespace Go.HL
open Go.RowKit

/-! a call begins, and ends -/
def argEnv : Nat → List Value → Env
  | _, [] => []
  | i, v :: r => (i, v) :: argEnv (i + 1) r
theorem argEnv_lookup : ∀ (vs : List Value) (i t : Nat) (v : Value), (argEnv i vs).lookup t = some v → i ≤ t ∧ vs[t - i]? = some v
  | [], i, t, v, h => by simp [argEnv] at h
  | u :: r, i, t, v, h => by
    simp only [argEnv, List.lookup] at h
    by_cases e : t = i
    · subst e; simp at h; subst h; simp
    · have : (t == i) = false := by simpa using e
      simp only [this] at h
      obtain ⟨h1, h2⟩ := argEnv_lookup r (i + 1) t v h
      refine ⟨by omega, ?_⟩
      have : t - i = (t - (i + 1)) + 1 := by omega
      rw [this]; simpa using h2
theorem Calls.of_WC {P : Program} {f : FuncId} {fn : Func} {c : Code} {vs : List Value} {w : World} {R : Ending → World → Prop} {N : Nat}
    (hf : P.funcs[f]? = some fn) (hb : fn.body = some c) (hN : fn.ntmps = N) (hle : vs.length ≤ N) (h : WC P c (bodyPost P fn R) N (argEnv 0 vs) w) : Calls P f vs.toArray w R := by
  refine calls_of_wp hf hb (h _ ⟨by simp [hN]; omega, rfl, fun t v ht => ?_⟩)
  obtain ⟨_, h2⟩ := argEnv_lookup vs 0 t v ht
  simp only [Nat.sub_zero] at h2
  have hlt : t < vs.length := (List.getElem?_eq_some_iff.1 h2).1
  simp only [Array.getElem?_append, List.size_toArray, hlt, if_true]
  simpa using h2
section
variable {P : Program} {Q : Exit → Act → World → Prop} {N : Nat} {E : Env} {w : World} {fn : Func} {R : Ending → World → Prop}
theorem WX.retOf {x : Exit} (hx : x = .ret ∨ x = .normal) (v : Value) (hr : ∀ a, Holds N E a → (results fn a.tmps).run P w = .ok v w) (hR : R (.returned v) w) : WX (bodyPost P fn R) x N E w := fun a ha => by
  rcases hx with rfl | rfl <;> exact ⟨ha.defs, v, hr a ha, hR⟩
theorem WX.ret0 {x : Exit} (hx : x = .ret ∨ x = .normal) (h : fn.results = #[]) (hR : R (.returned (.tuple #[])) w) : WX (bodyPost P fn R) x N E w :=
  WX.retOf hx _ (fun a _ => by simp [results, h]) hR
theorem getD_of {N : Nat} {E : Env} {a : Act} (ha : Holds N E a) {t : Nat} {v : Value} (hv : E.lookup t = some v) : a.tmps.getD t undef = v := by
  simp [Array.getD_eq_getD_getElem?, ha.env t v hv]
theorem WX.ret1 {x : Exit} (hx : x = .ret ∨ x = .normal) {t : Nat} {v : Value} (h : fn.results = #[.tmp t]) (hv : E.lookup t = some v) (hR : R (.returned v) w) : WX (bodyPost P fn R) x N E w :=
  WX.retOf hx v (fun a ha => by
    have := getD_of ha hv
    simp only [Array.getD_eq_getD_getElem?] at this
    simp [results, h, this]) hR
theorem WX.ret2 {x : Exit} (hx : x = .ret ∨ x = .normal) {t u : Nat} {v1 v2 : Value} (h : fn.results = #[.tmp t, .tmp u]) (hv : E.lookup t = some v1) (hu : E.lookup u = some v2) (hR : R (.returned (.tuple #[v1, v2])) w) : WX (bodyPost P fn R) x N E w :=
  WX.retOf hx _ (fun a ha => by
    have h1 := getD_of ha hv
    have h2 := getD_of ha hu
    simp only [Array.getD_eq_getD_getElem?] at h1 h2
    simp [results, h, h1, h2]) hR
theorem WX.ret3 {x : Exit} (hx : x = .ret ∨ x = .normal) {t u s : Nat} {v1 v2 v3 : Value} (h : fn.results = #[.tmp t, .tmp u, .tmp s]) (hv : E.lookup t = some v1) (hu : E.lookup u = some v2) (hs : E.lookup s = some v3) (hR : R (.returned (.tuple #[v1, v2, v3])) w) : WX (bodyPost P fn R) x N E w :=
  WX.retOf hx _ (fun a ha => by
    have h1 := getD_of ha hv
    have h2 := getD_of ha hu
    have h3 := getD_of ha hs
    simp only [Array.getD_eq_getD_getElem?] at h1 h2 h3
    simp [results, h, h1, h2, h3]) hR

theorem eg_of {P : Program} {f : FuncId} {fn : Func} (hf : P.funcs[f]? = some fn) (hn : (fn.name == "runtime.NumGoroutine") = false) (hb : fn.body.isNone = false) (args : Array Value) (w : World) : (callFunc f args).run P w = .ok (.enter f args) w := by
  simp only [callFunc, program, Sem.run_bind, Sem.run, Result.andThen, hf, hn, hb]
  rfl

/-! loops -/
def Sub : Env → Env → Prop
  | [], _ => True
  | (t, v) :: r, E => E.lookup t = some v ∧ Sub r E
theorem Holds.sub {N : Nat} {E' E : Env} {a : Act} (h : Holds N E a) (hs : Sub E' E) : Holds N E' a := by
  refine ⟨h.size, h.defs, fun t v ht => h.env t v ?_⟩
  induction E' with
  | nil => simp at ht
  | cons p r ih =>
    obtain ⟨s, u⟩ := p
    simp only [Sub] at hs
    simp only [List.lookup] at ht
    by_cases e : t = s
    · subst e
      simp at ht
      subst ht
      exact hs.1
    · have : (t == s) = false := by simpa using e
      simp only [this] at ht
      exact ih hs.2 ht
def LoopK {σ : Type} (N : Nat) (Ef : σ → Env) (I : σ → World → Prop) (μ : σ → Nat) (s : σ) : Act → World → Prop :=
  fun a' w' => ∃ s', Holds N (Ef s') a' ∧ I s' w' ∧ μ s' < μ s
theorem WC.loop {σ : Type} {c : Code} (Ef : σ → Env) (I : σ → World → Prop) (μ : σ → Nat) (s0 : σ) (hE : Sub (Ef s0) E) (h0 : I s0 w)
    (round : ∀ s w, I s w → WC P c (Exit.then (LoopK N Ef I μ s) Q) N (Ef s) w) : WC P (.loop c) Q N E w := fun a ha => by
  intro b k cs
  have key : ∀ n s a w, μ s = n → Holds N (Ef s) a → I s w →
      ∃ e a' w', Q e a' w' ∧ Arrives P (lone (b.at a (.code c :: .inLoop c :: k)) cs w) b k cs e a' w' := by
    intro n
    induction n using Nat.strongRecOn with
    | _ n ih =>
      intro s a w hn hh hI
      obtain ⟨e, a₁, w₁, hq, harr⟩ := round s w hI a hh b (.inLoop c :: k) cs
      cases e with
      | normal =>
        obtain ⟨s', hh', hI₁, hlt⟩ := hq
        obtain ⟨e₂, a₂, w₂, hq₂, harr₂⟩ := ih (μ s') (hn ▸ hlt) s' a₁ w₁ rfl hh' hI₁
        exact ⟨e₂, a₂, w₂, hq₂, .of_steps (Steps.trans harr (.one step_inLoop)) harr₂⟩
      | exit id => exact ⟨_, a₁, w₁, hq, .pass (x := .inLoop c) rfl (fun _ _ => .inl (by simp)) harr⟩
      | goto l => exact ⟨_, a₁, w₁, hq, .pass (x := .inLoop c) rfl (fun _ _ => .inl (by simp)) harr⟩
      | ret => exact ⟨_, a₁, w₁, hq, .pass (x := .inLoop c) rfl (fun _ _ => .inl (by simp)) harr⟩
      | panic ch => exact ⟨_, a₁, w₁, hq, .pass (x := .inLoop c) rfl (fun _ _ => .inl (by simp)) harr⟩
      | outgrown => exact ⟨_, a₁, w₁, hq, .pass (x := .inLoop c) rfl (fun _ _ => .inl (by simp)) harr⟩
  obtain ⟨e, a', w', hq, harr⟩ := key _ s0 a w rfl (ha.sub hE) h0
  exact ⟨e, a', w', hq, .of_steps (.one step_loop) harr⟩
theorem WX.loop_next {σ : Type} {Ef : σ → Env} {I : σ → World → Prop} {μ : σ → Nat} {s : σ} (s' : σ) (hE : Sub (Ef s') E) (hI : I s' w) (hμ : μ s' < μ s) : WX (Exit.then (LoopK N Ef I μ s) Q) .normal N E w :=
  fun _ ha => ⟨s', ha.sub hE, hI, hμ⟩
end
end Go.HL
namespace Go.HL
open Go.RowKit

/-! kinds of elements -/
structure Enc (α : Type) where
  sz : Nat
  f : α → List Value
  len : ∀ x, (f x).length = sz
  one : ∀ x, ∀ u ∈ f x, u.oneCell' = true
  pos : 0 < sz
def eb : Enc UInt8 := ⟨1, fun b => [v8 b], fun _ => rfl, by simp [Value.oneCell'], by decide⟩
def ei : Enc Int := ⟨1, fun b => [vi b], fun _ => rfl, by simp [Value.oneCell'], by decide⟩
def es : Enc ByteArray := ⟨1, fun b => [.string b], fun _ => rfl, by simp [Value.oneCell'], by decide⟩
def ebool : Enc Bool := ⟨1, fun b => [.bool b], fun _ => rfl, by simp [Value.oneCell'], by decide⟩
def Enc.all {α : Type} (e : Enc α) (xs : List α) : List Value := xs.flatMap e.f
section enc
variable {α : Type} {e : Enc α}
theorem Enc.all_len (e : Enc α) (xs : List α) : (e.all xs).length = xs.length * e.sz := by
  induction xs with
  | nil => simp [Enc.all]
  | cons x r ih => simp only [Enc.all, List.flatMap_cons, List.length_append, e.len, List.length_cons] at ih ⊢; rw [ih, Nat.add_mul]; omega
theorem Enc.all_one (e : Enc α) (xs : List α) : ∀ u ∈ e.all xs, u.oneCell' = true := by
  intro u hu
  obtain ⟨x, _, hx⟩ := List.mem_flatMap.1 hu
  exact e.one x u hx
theorem Enc.all_append (e : Enc α) (xs ys : List α) : e.all (xs ++ ys) = e.all xs ++ e.all ys := by simp [Enc.all]
theorem Enc.all_at (e : Enc α) {xs : List α} {j : Nat} {x : α} (hx : xs[j]? = some x) {q : Nat} (hq : q < e.sz) : (e.all xs)[j * e.sz + q]? = (e.f x)[q]? := by
  induction xs generalizing j with
  | nil => simp at hx
  | cons y r ih =>
    simp only [Enc.all, List.flatMap_cons]
    cases j with
    | zero =>
      simp at hx
      subst hx
      rw [List.getElem?_append_left (by rw [e.len]; omega)]
      simp
    | succ j =>
      simp at hx
      rw [List.getElem?_append_right (by rw [e.len, Nat.add_mul]; omega), e.len]
      have h := ih hx
      simp only [Enc.all] at h
      rw [← h]
      congr 1
      rw [Nat.add_mul]
      omega
theorem Enc.all_drop (e : Enc α) (xs : List α) (l : Nat) : (e.all xs).drop (l * e.sz) = e.all (xs.drop l) := by
  induction xs generalizing l with
  | nil => simp [Enc.all]
  | cons y r ih =>
    cases l with
    | zero => simp
    | succ l =>
      have h := ih l
      simp only [Enc.all, List.flatMap_cons, List.drop_succ_cons] at h ⊢
      rw [← h, Nat.add_mul, Nat.one_mul, Nat.add_comm, ← List.drop_drop]
      congr 1
      rw [List.drop_append, e.len]
      simp [List.drop_eq_nil_of_le (Nat.le_of_eq (e.len y))]
theorem Enc.all_take (e : Enc α) (xs : List α) (l : Nat) : (e.all xs).take (l * e.sz) = e.all (xs.take l) := by
  induction xs generalizing l with
  | nil => simp [Enc.all]
  | cons y r ih =>
    cases l with
    | zero => simp [Enc.all]
    | succ l =>
      have h := ih l
      simp only [Enc.all, List.flatMap_cons, List.take_succ_cons] at h ⊢
      rw [← h, List.take_append, e.len, Nat.add_mul, Nat.one_mul, Nat.add_sub_cancel]
      congr 1
      exact List.take_of_length_le (by rw [e.len]; omega)
end enc

/-- a slice that is read: its block is of S; its elements -/
structure RSl {α : Type} (S : Nat → Prop) (w : World) (e : Enc α) (ao : Option Addr) (c : Nat) (xs : List α) : Prop where
  at_ : xs ≠ [] → At S ao
  cap : xs.length ≤ c
  sl : Sl w ao xs.length e.sz (e.all xs)
/-- a row of the call's own, with its elements -/
structure Row {α : Type} (S : Nat → Prop) (w : World) (T : TypeId) (e : Enc α) (ao : Option Addr) (c : Nat) (xs : List α) : Prop where
  at_ : At S ao
  own : Own w T e.sz ao xs.length c (e.all xs)
def Eqb (ao : Option Addr) (b : Nat) : Prop := ∃ a, ao = some a ∧ b = a.block
theorem At.eqb {S : Nat → Prop} {ao : Option Addr} {b : Nat} (h : At S ao) (k : Eqb ao b) : S b := by
  obtain ⟨a, e, rfl⟩ := k
  exact h a e
/-- a row has grown, and nothing else has turned -/
structure Grow (S : Nat → Prop) (w : World) (ao : Option Addr) (w' : World) (ao' : Option Addr) : Prop where
  chg : Chg (fun b => Eqb ao b ∧ S b) w w'
  fr : ao' = ao ∨ At (w.heap.size ≤ ·) ao'
theorem Grow.refl (S : Nat → Prop) (w : World) (ao : Option Addr) : Grow S w ao w ao := ⟨Chg.refl _ _, .inl rfl⟩
theorem Grow.trans {S : Nat → Prop} {w w1 w2 : World} {ao a1 a2 : Option Addr} (h : Grow S w ao w1 a1) (k : Grow S w1 a1 w2 a2) : Grow S w ao w2 a2 := by
  refine ⟨h.chg.trans k.chg fun x hx hm => ?_, ?_⟩
  · rcases h.fr with rfl | h1
    · exact hm
    · have := h1.eqb hm.1; omega
  · rcases k.fr with rfl | h1
    · exact h.fr
    · exact .inr (h1.mono fun b hb => Nat.le_trans h.chg.size hb)
theorem Grow.pure {S : Nat → Prop} {w w1 w2 : World} {ao a1 : Option Addr} (h : Grow S w ao w1 a1) (k : Chg Nob w1 w2) : Grow S w ao w2 a1 := ⟨h.chg.pure k, h.fr⟩
section typed
variable {α : Type} {e : Enc α} {S M : Nat → Prop} {w w' : World} {ao : Option Addr} {c : Nat} {xs : List α} {T : TypeId}
theorem RSl.chg (h : RSl S w e ao c xs) (k : Chg M w w') (hd : ∀ b, b < w.heap.size → S b → M b → False) : RSl S w' e ao c xs :=
  ⟨h.at_, h.cap, h.sl.1, fun j u hj => by
    obtain ⟨b, off, ea, hc⟩ := h.sl.2 j u hj
    refine ⟨b, off, ea, k.cell hc (fun hm => ?_)⟩
    have hne : xs ≠ [] := by intro hx; subst hx; simp [Enc.all] at hj
    exact hd b (World.block_lt_of_cell? w _ hc) (h.at_ hne _ ea) hm⟩
theorem RSl.pure (h : RSl S w e ao c xs) (k : Chg Nob w w') : RSl S w' e ao c xs := h.chg k (fun _ _ _ x => x)
theorem RSl.mono {S' : Nat → Prop} (h : RSl S w e ao c xs) (k : ∀ b, S b → S' b) : RSl S' w e ao c xs := ⟨fun hx => (h.at_ hx).mono k, h.cap, h.sl⟩
theorem RSl.nil (S : Nat → Prop) (w : World) (e : Enc α) (ao : Option Addr) (c : Nat) : RSl S w e ao c [] := ⟨fun h => absurd rfl h, by simp, Sl.nil _ _ _⟩
/-- its block is there -/
theorem RSl.lt (h : RSl S w e ao c xs) : RSl (fun b => S b ∧ b < w.heap.size) w e ao c xs := by
  refine ⟨fun hx a ea => ⟨h.at_ hx a ea, ?_⟩, h.cap, h.sl⟩
  obtain ⟨x, r, rfl⟩ := List.exists_cons_of_ne_nil hx
  have hl : 0 < (e.all (x :: r)).length := by rw [Enc.all_len]; exact Nat.mul_pos (by simp) e.pos
  obtain ⟨b, off, hx, hc⟩ := h.sl.2 0 _ (List.getElem?_eq_getElem hl)
  rw [ea] at hx
  injection hx with hx
  subst hx
  exact World.block_lt_of_cell? w _ hc
theorem RSl.old (h : RSl S w e ao c xs) : RSl (fun b => b < w.heap.size) w e ao c xs := h.lt.mono (fun _ h => h.2)
theorem Row.chg (h : Row S w T e ao c xs) (k : Chg M w w') (hd : ∀ b, b < w.heap.size → S b → M b → False) : Row S w' T e ao c xs :=
  ⟨h.at_, h.own.chg k (fun a ea hm => hd _ (h.own.lt a ea) (h.at_ a ea) hm)⟩
theorem Row.pure (h : Row S w T e ao c xs) (k : Chg Nob w w') : Row S w' T e ao c xs := h.chg k (fun _ _ _ x => x)
theorem Row.mono {S' : Nat → Prop} (h : Row S w T e ao c xs) (k : ∀ b, S b → S' b) : Row S' w T e ao c xs := ⟨h.at_.mono k, h.own⟩
theorem Row.rsl (h : Row S w T e ao c xs) : RSl S w e ao c xs := ⟨fun _ => h.at_, h.own.cap, h.own.sl⟩
theorem Row.nil (S : Nat → Prop) (w : World) (T : TypeId) (e : Enc α) : Row S w T e none 0 [] := ⟨At.none S, Own.nil _ _ _⟩
theorem Row.lt (h : Row S w T e ao c xs) : Row (fun b => S b ∧ b < w.heap.size) w T e ao c xs := ⟨fun a ea => ⟨h.at_ a ea, h.own.lt a ea⟩, h.own⟩
theorem RSl.none_nil (h : RSl S w e none c xs) : xs = [] := by
  cases xs with
  | nil => rfl
  | cons x r =>
    have hl : 0 < (e.all (x :: r)).length := by rw [Enc.all_len]; exact Nat.mul_pos (by simp) e.pos
    obtain ⟨b, off, hx, _⟩ := h.sl.2 0 _ (List.getElem?_eq_getElem hl)
    cases hx
theorem Blk.pure {b : Nat} {cs : List Value} (h : Blk w b T cs) (k : Chg Nob w w') : Blk w' b T cs := Blk.chg h k (fun x => x)
theorem Chg.chg {M' : Nat → Prop} {a b c : World} (h : Chg M a b) (k : Chg M' b c) (hM : ∀ x, x < a.heap.size → M' x → M x) : Chg M a c := h.trans k hM
end typed

section
variable {P : Program} {ops : Array Oper} {Q : Exit → Act → World → Prop} {N : Nat} {E : Env} {w : World} {rest : List Oper}
  {d : Nat} {ty : TypeId} {pos : String} {af : Array Edge} {α : Type} {e : Enc α} {S : Nat → Prop}

/-- the place of an element that is read -/
theorem WL.indexT {t T : TypeId} {x y : Operand} {ao : Option Addr} {c : Nat} {k : IntKind} {i : Int} {xs : List α} {j : Nat} {z : α} (ht : P.underlying t = some (.slice T)) (hs : ∀ w, (sizeOf T).run P w = .ok e.sz w) (hr : RSl S w e ao c xs)
    (hx : ev E x = some (.slice ao xs.length c)) (hy : ev E y = some (.int k i)) (hz : xs[j]? = some z ∧ i = (j : Int)) (hd : Nat.blt d N = true)
    (h : ∀ b o, (∀ q v, (e.f z)[q]? = some v → w.cell? ⟨b, o + q, none⟩ = some v) → WL P ops Q N rest ((d, .pointer (some ⟨b, o, none⟩)) :: E) w) : WL P ops Q N (⟨some d, .indexAddr t x y, ty, pos, af, none⟩ :: rest) E w := by
  have hj : j < xs.length := (List.getElem?_eq_some_iff.1 hz.1).1
  refine WL.indexSl ht hs e.pos hr.sl hx hy j hz.2 hj hd fun b o _ hc => h b o fun q v hv => ?_
  have hq : q < e.sz := by
    have := (List.getElem?_eq_some_iff.1 hv).1
    rwa [e.len] at this
  exact hc q v hq (by rw [e.all_at hz.1 hq]; exact hv)

theorem RSl.place {ao : Option Addr} {c : Nat} {xs : List α} {j : Nat} {z : α} (hr : RSl S w e ao c xs) (hz : xs[j]? = some z) : ∃ b off, ao = some ⟨b, off, none⟩ := by
  have hj : j < xs.length := (List.getElem?_eq_some_iff.1 hz).1
  have hl : 0 < (e.all xs).length := by rw [Enc.all_len]; exact Nat.mul_pos (by omega) e.pos
  obtain ⟨b, off, hx, _⟩ := hr.sl.2 0 _ (List.getElem?_eq_getElem hl)
  exact ⟨b, off, hx⟩
theorem RSl.cellsAt {b off : Nat} {c : Nat} {xs : List α} {j : Nat} {z : α} (hr : RSl S w e (some ⟨b, off, none⟩) c xs) (hz : xs[j]? = some z) : ∀ q v, (e.f z)[q]? = some v → w.cell? ⟨b, off + j * e.sz + q, none⟩ = some v := fun q v hv => by
  have hq : q < e.sz := by
    have := (List.getElem?_eq_some_iff.1 hv).1
    rwa [e.len] at this
  obtain ⟨b', off', e', hc⟩ := hr.sl.2 _ v ((e.all_at hz hq).trans hv)
  injection e' with e'
  injection e' with e1 e2
  subst e1; subst e2
  rw [Nat.add_assoc]; exact hc
/-- the same with its place written out -/
theorem WL.indexC {t T : TypeId} {x y : Operand} {b off : Nat} {c : Nat} {k : IntKind} {i : Int} {xs : List α} {j : Nat} {z : α} (_ : RSl S w e (some ⟨b, off, none⟩) c xs) (ht : P.underlying t = some (.slice T)) (hs : ∀ w, (sizeOf T).run P w = .ok e.sz w)
    (hx : ev E x = some (.slice (some ⟨b, off, none⟩) xs.length c)) (hy : ev E y = some (.int k i)) (hz : xs[j]? = some z ∧ i = (j : Int)) (hd : Nat.blt d N = true)
    (h : WL P ops Q N rest ((d, .pointer (some ⟨b, off + j * e.sz, none⟩)) :: E) w) : WL P ops Q N (⟨some d, .indexAddr t x y, ty, pos, af, none⟩ :: rest) E w :=
  WL.index ht hs hx hy hz.2 (List.getElem?_eq_some_iff.1 hz.1).1 hd h
/-- append to a row of the call's own -/
theorem WL.append {t tx T : TypeId} {s x : Operand} {ao : Option Addr} {c bytes : Nat} {xs ys : List α} {z v : Value} (hinfo : (P.info? T).map (fun i => (i.zero, i.size, i.bytes)) = some (some z, e.sz, bytes)) (hzs : z.cells.size = e.sz)
    (ht : P.underlying t = some (.slice T)) (hs : ev E s = some (.slice ao xs.length c)) (hx : ev E x = some v) (ho : Row S w T e ao c xs) (hsrc : Src P e.sz tx v ys.length (e.all ys) w)
    (hb : (xs.length + ys.length) * bytes ≤ 140737488355328 ∧ xs.length + ys.length ≤ 9223372036854775807) (hS : ∀ b, w.heap.size ≤ b → S b) (hd : Nat.blt d N = true)
    (h : ∀ ao2 c2 w', Row S w' T e ao2 c2 (xs ++ ys) → Grow S w ao w' ao2 → (ao2 = none → xs ++ ys = []) → WL P ops Q N rest ((d, .slice ao2 (xs ++ ys).length c2) :: E) w') :
    WL P ops Q N (⟨some d, .call ⟨.builtin .append, #[s, x], #[t, tx]⟩, ty, pos, af, none⟩ :: rest) E w := by
  obtain ⟨i, hi, h1, h2, h3⟩ := info_parts hinfo
  obtain ⟨ao', c', w', hr, how, hc, hor, hno⟩ := run_append_hl (P := P) w t tx ty T i z e.sz bytes ht hi h1 h2 h3 hzs ao xs.length c (e.all xs) ho.own v ys.length (e.all ys) hsrc (by simpa [maxLen] using hb.2) hb.1
  refine WL.run _ w' (fun a ha => by simp [execOp, resolve, invoke, builtin, ev_eval ha hs, ev_eval ha hx, hr]; rfl) hd ?_
  rw [← List.length_append]
  refine h ao' c' w' ⟨?_, by rw [List.length_append, Enc.all_append]; exact how⟩ ⟨hc.mono fun b _ hb => ⟨hb.1, ho.at_.eqb hb.1⟩, hor⟩ (fun hn => ?_)
  · rcases hor with rfl | h5
    · exact ho.at_
    · exact h5.mono hS
  · obtain ⟨rfl, h6⟩ := hno hn
    have h7 := ho.rsl.none_nil
    subst h7
    simpa using h6
theorem RSl.src {tx T' : TypeId} {w : World} {ao : Option Addr} {c : Nat} {ys : List α} (h : RSl S w e ao c ys) (hk : P.underlying tx = some (.slice T')) : Src P e.sz tx (.slice ao ys.length c) ys.length (e.all ys) w :=
  Src.ofSl hk h.sl (e.all_one ys) (fun hn => by subst hn; simp [h.none_nil])
/-! a new row out of written-out elements -/
theorem fold_set (vs : List Value) : ∀ (k : Nat) (A : Array Value) (off : Nat), off + k + vs.length ≤ A.size →
    (vs.zipIdx k).foldl (fun (cs : Array Value) (p : Value × Nat) => cs.setIfInBounds (off + p.2) p.1) A = (A.toList.take (off + k) ++ vs ++ A.toList.drop (off + k + vs.length)).toArray := by
  induction vs with
  | nil => intro k A off _; simp
  | cons v r ih =>
    intro k A off h
    simp only [List.zipIdx_cons, List.foldl_cons]
    rw [ih (k + 1) _ off (by simp at h ⊢; omega)]
    have ho : off + k < A.size := by simp at h; omega
    apply Array.ext'
    simp only [Array.toList_setIfInBounds, List.toList_toArray]
    apply List.ext_getElem?
    intro j
    have hlen : A.toList.length = A.size := Array.length_toList
    simp only [List.append_assoc, List.getElem?_append, List.length_take, List.length_set, List.getElem?_take, List.getElem?_set, List.getElem?_drop, hlen, List.length_append, List.cons_append, List.length_cons, List.getElem?_cons]
    have e1 : min (off + (k + 1)) A.size = off + k + 1 := by omega
    have e2 : min (off + k) A.size = off + k := by omega
    simp only [e1, e2]
    by_cases hj : j < off + k
    · have : ¬ off + k = j := by omega
      simp [hj, this, show j < off + k + 1 from by omega, show j < off + (k + 1) from by omega]
    · by_cases hj2 : j = off + k
      · subst hj2; simp [ho, show off + k < off + (k + 1) from by omega]
      · have h3 : ¬ j < off + k + 1 := by omega
        have h4 : ¬ j - (off + k) = 0 := by omega
        simp only [hj, h3, if_false, h4, show j - (off + k + 1) = j - (off + k) - 1 from by omega]
        by_cases hj3 : j - (off + k) - 1 < r.length
        · simp [hj3]
        · have : ¬ off + k = off + (k + 1) + r.length + (j - (off + k) - 1 - r.length) := by omega
          simp only [hj3, if_false, this]
          congr 1
          omega
def enum : Nat → List Value → List (Nat × Value)
  | _, [] => []
  | k, v :: r => (k, v) :: enum (k + 1) r
theorem fill_enum (sz : Nat) : ∀ (vs : List Value) (k : Nat) (A : Array Value), (∀ v ∈ vs, v.cells.size = sz) → A.size = (k + vs.length) * sz →
    Instr.fill (fun i => some (i * sz, sz)) A (enum k vs) = some (A.toList.take (k * sz) ++ vs.flatMap (·.cells.toList)).toArray
  | [], k, A, _, hA => by
    simp only [enum, Instr.fill, List.flatMap_nil, List.append_nil, List.length_nil, Nat.add_zero] at hA ⊢
    rw [List.take_of_length_le (by simp; omega)]
  | v :: r, k, A, hv, hA => by
    have h1 := hv v (by simp)
    have h2 : k * sz + v.cells.size ≤ A.size := by
      rw [hA, h1, List.length_cons, show k + (r.length + 1) = (k + 1) + r.length from by omega, Nat.add_mul, Nat.add_mul, Nat.one_mul]
      omega
    simp only [enum, Instr.fill]
    rw [if_neg (by simp [h1]; rw [h1] at h2; omega)]
    have h3 := fold_set v.cells.toList 0 A (k * sz) (by simpa using h2)
    have h4 : v.cells.zipIdx.foldl (fun cs x => match x with | (c, j) => cs.setIfInBounds (k * sz + j) c) A = (A.toList.take (k * sz) ++ v.cells.toList ++ A.toList.drop (k * sz + v.cells.toList.length)).toArray := by
      rw [← Array.foldl_toList, Array.toList_zipIdx]
      simpa using h3
    rw [h4, fill_enum sz r (k + 1) _ (fun u hu => hv u (List.mem_cons_of_mem _ hu)) ?_]
    · congr 2
      rw [List.flatMap_cons, ← List.append_assoc]
      congr 1
      simp only [List.toList_toArray, Array.length_toList, h1]
      rw [Nat.add_mul, Nat.one_mul, List.take_append_of_le_length (by simp; rw [h1] at *; omega)]
      rw [List.take_of_length_le (by simp [h1]; omega)]
    · simp only [List.size_toArray, List.length_append, List.length_take, List.length_drop, Array.length_toList, h1]
      rw [h1] at h2
      rw [hA, List.length_cons, show k + (r.length + 1) = k + 1 + r.length from by omega] at *
      omega
def evp (E : Env) : Nat → List (Nat × Operand) → Option (List Value)
  | _, [] => some []
  | k, (i, x) :: r => if i = k then (ev E x).bind fun v => (evp E (k + 1) r).map (v :: ·) else none
theorem evp_eval {a : Act} (ha : Holds N E a) : ∀ {k : Nat} {ps : List (Nat × Operand)} {vs : List Value}, evp E k ps = some vs → ps.map (fun p => (p.1, a.eval p.2)) = enum k vs ∧ vs.length = ps.length
  | k, [], vs, h => by simp [evp] at h; subst h; simp [enum]
  | k, (i, x) :: r, vs, h => by
    simp only [evp] at h
    split at h
    · rename_i hi
      simp only [Option.bind_eq_some_iff, Option.map_eq_some_iff] at h
      obtain ⟨v, hv, us, hu, rfl⟩ := h
      obtain ⟨h1, h2⟩ := evp_eval ha hu
      simp [ev_eval ha hv, h1, hi, enum, h2]
    · cases h
theorem WL.build {t T : TypeId} {n : Nat} {ps : List (Nat × Operand)} {vs : List Value} {z : Value} (xs : List α) (ht : P.underlying t = some (.slice T)) (hs : ∀ w, (sizeOf T).run P w = .ok e.sz w) (hz : ∀ w, (zeroValue T).run P w = .ok z w)
    (hx : evp E 0 ps = some vs) (hn : ps.length = n) (hv : vs.flatMap (·.cells.toList) = e.all xs) (hv1 : ∀ v ∈ vs, v.cells.size = e.sz) (hb : n * e.sz ≤ 16777216) (hd : Nat.blt d N = true)
    (h : ∀ ao w', Row (w.heap.size ≤ ·) w' T e ao n xs → xs.length = n → w'.heap.size = w.heap.size + 1 → Chg Nob w w' → WL P ops Q N rest ((d, .slice ao xs.length n) :: E) w') :
    WL P ops Q N (⟨some d, .buildSlice t n ps.toArray, ty, pos, af, none⟩ :: rest) E w := by
  have hlen : xs.length = n := by
    have h1 : (vs.flatMap (·.cells.toList)).length = vs.length * e.sz := by
      clear hv hx
      induction vs with
      | nil => simp
      | cons v r ih =>
        simp only [List.flatMap_cons, List.length_append, List.length_cons, Array.length_toList]
        rw [ih (fun u hu => hv1 u (List.mem_cons_of_mem _ hu)), hv1 v (by simp), Nat.add_mul]
        omega
    have h2 : vs.length = ps.length := by
      clear h h1 hv hv1 hb hn
      revert vs
      generalize 0 = k
      induction ps generalizing k with
      | nil => intro vs h; simp [evp] at h; subst h; rfl
      | cons p r ih =>
        intro vs h
        obtain ⟨i, x⟩ := p
        simp only [evp] at h
        split at h
        · simp only [Option.bind_eq_some_iff, Option.map_eq_some_iff] at h
          obtain ⟨v, _, us, hu, rfl⟩ := h
          simp [ih _ hu]
        · cases h
    rw [hv, Enc.all_len, h2, hn] at h1
    exact Nat.eq_of_mul_eq_mul_right e.pos h1
  refine WL.run (.slice (some ⟨w.heap.size, 0, none⟩) xs.length n) (w.alloc (.cells (e.all xs).toArray T)) (fun a ha => ?_) hd (h _ _ ?_ hlen (by simp) (Chg.alloc _ _))
  · obtain ⟨he, hl⟩ := evp_eval ha hx
    have hfill : Instr.fill (fun i => some (i * e.sz, e.sz)) ((Array.range (n * e.sz)).map ((if n * e.sz = 0 then #[] else z.cells)[· % (if n * e.sz = 0 then #[] else z.cells).size]!)) (enum 0 vs) = some (e.all xs).toArray := by
      rw [fill_enum e.sz vs 0 _ hv1 (by simp [hl, hn])]
      simp [hv]
    have hne : ¬ n * e.sz > 2 ^ 24 := by omega
    simp only [execOp, Instr.buildSlice, List.map_toArray, he, run_underlying ht]
    by_cases h0 : n * e.sz = 0
    · rw [if_pos h0] at hfill
      simp [run_underlying ht, hs, h0, newRow, hlen] at hfill ⊢
      simp [hfill]
    · rw [if_neg h0] at hfill
      simp [run_underlying ht, hs, hz, h0, hne, newRow, hlen] at hfill ⊢
      simp [hfill]
  · refine ⟨fun a ea => by injection ea with ea; subst ea; exact Nat.le_refl _, ?_⟩
    refine ⟨Enc.all_len _ _, by omega, .inr ⟨w.heap.size, _, (0, 0), rfl, heap_alloc_new w _, fun j _ hh => by omega, ?_, ?_, ?_⟩⟩
    · have : n ≤ n * e.sz := Nat.le_mul_of_pos_right _ e.pos
      simp only [maxLen]; omega
    · simp [Enc.all_len, hlen]
    · simp only [List.toList_toArray]
      exact List.take_of_length_le (by rw [Enc.all_len]; omega)
end
end Go.HL
namespace Go.HL
open Go.RowKit

/-! the operations of whole numbers without a sign are Lean's own -/
theorem wrap8 (n : Nat) : IntKind.u8.wrap (n : Int) = ((UInt8.ofNat n).toNat : Int) := by simp [IntKind.wrap, IntKind.bits, IntKind.signed]
theorem wrap32 (n : Nat) : IntKind.u32.wrap (n : Int) = ((UInt32.ofNat n).toNat : Int) := by simp [IntKind.wrap, IntKind.bits, IntKind.signed]
theorem wrap64 (n : Nat) : IntKind.u64.wrap (n : Int) = ((UInt64.ofNat n).toNat : Int) := by simp [IntKind.wrap, IntKind.bits, IntKind.signed]
section
variable {P : Program} (t : TypeId) (w : World)
theorem bv8 (a : UInt8) : BitVec.ofInt 8 (a.toNat : Int) = a.toBitVec := by
  apply BitVec.eq_of_toNat_eq; simp
theorem bv32 (a : UInt32) : BitVec.ofInt 32 (a.toNat : Int) = a.toBitVec := by
  apply BitVec.eq_of_toNat_eq; simp
theorem bv64 (a : UInt64) : BitVec.ofInt 64 (a.toNat : Int) = a.toBitVec := by
  apply BitVec.eq_of_toNat_eq; simp
theorem n_xor8 (a b : UInt8) : (binOp .xor t (v8 a) (v8 b)).run P w = .ok (v8 (a ^^^ b)) w := by
  simp only [binOp, Op.intBits, IntKind.bits, bv8]; simp [wrap8]; rfl
theorem n_or32 (a b : UInt32) : (binOp .or t (v32 a) (v32 b)).run P w = .ok (v32 (a ||| b)) w := by
  simp only [binOp, Op.intBits, IntKind.bits, bv32]; simp [wrap32]; rfl
theorem n_and32 (a b : UInt32) : (binOp .and t (v32 a) (v32 b)).run P w = .ok (v32 (a &&& b)) w := by
  simp only [binOp, Op.intBits, IntKind.bits, bv32]; simp [wrap32]; rfl
theorem n_xor32 (a b : UInt32) : (binOp .xor t (v32 a) (v32 b)).run P w = .ok (v32 (a ^^^ b)) w := by
  simp only [binOp, Op.intBits, IntKind.bits, bv32]; simp [wrap32]; rfl
theorem n_and64 (a b : UInt64) : (binOp .and t (v64 a) (v64 b)).run P w = .ok (v64 (a &&& b)) w := by
  simp only [binOp, Op.intBits, IntKind.bits, bv64]; simp [wrap64]; rfl
theorem n_add32 (a b : UInt32) : (binOp .add t (v32 a) (v32 b)).run P w = .ok (v32 (a + b)) w := by
  simp only [binOp, Op.intArith]; simp [IntKind.wrap, IntKind.bits, IntKind.signed]
theorem n_sub64 (a b : UInt64) : (binOp .sub t (v64 a) (v64 b)).run P w = .ok (v64 (a - b)) w := by
  simp only [binOp, Op.intArith]; simp [IntKind.wrap, IntKind.bits, IntKind.signed]
  have h1 := a.toNat_lt
  have h2 := b.toNat_lt
  rw [UInt64.toNat_sub]
  omega
/-- to the right by a count that is known -/
theorem n_shr64 (a : UInt64) (k : IntKind) (n : Nat) (hn : n < 64) : (binOp .shr t (v64 a) (.int k (n : Int))).run P w = .ok (v64 (a >>> UInt64.ofNat n)) w := by
  have h1 : ¬ ((n : Int) < 0) := by omega
  have h2 : min n 64 = n := by omega
  simp only [binOp, Op.shift, if_neg h1, IntKind.bits, Int.toNat_natCast, h2]
  simp
  congr 2
  rw [show ((2 : Int) ^ n) = ((2 ^ n : Nat) : Int) from by simp, ← Int.ofNat_fdiv, Nat.mod_eq_of_lt hn, ← Nat.shiftRight_eq_div_pow]
  rfl
theorem n_shr32 (a : UInt32) (k : IntKind) (n : Nat) (hn : n < 32) : (binOp .shr t (v32 a) (.int k (n : Int))).run P w = .ok (v32 (a >>> UInt32.ofNat n)) w := by
  have h1 : ¬ ((n : Int) < 0) := by omega
  have h2 : min n 32 = n := by omega
  simp only [binOp, Op.shift, if_neg h1, IntKind.bits, Int.toNat_natCast, h2]
  simp
  congr 2
  rw [show ((2 : Int) ^ n) = ((2 ^ n : Nat) : Int) from by simp, ← Int.ofNat_fdiv, Nat.mod_eq_of_lt hn, ← Nat.shiftRight_eq_div_pow]
  rfl
theorem n_shl64 (a : UInt64) (k : IntKind) (n : Nat) (hn : n < 64) : (binOp .shl t (v64 a) (.int k (n : Int))).run P w = .ok (v64 (a <<< UInt64.ofNat n)) w := by
  have h1 : ¬ ((n : Int) < 0) := by omega
  have h2 : min n 64 = n := by omega
  simp only [binOp, Op.shift, if_neg h1, IntKind.bits, Int.toNat_natCast, h2]
  simp [IntKind.wrap, IntKind.bits, IntKind.signed]
  congr 2
  rw [Nat.mod_eq_of_lt hn, show ((2 : Int) ^ n) = ((2 ^ n : Nat) : Int) from by simp, ← Int.natCast_mul, ← Nat.shiftLeft_eq]
  rfl
theorem n_shl32 (a : UInt32) (k : IntKind) (n : Nat) (hn : n < 32) : (binOp .shl t (v32 a) (.int k (n : Int))).run P w = .ok (v32 (a <<< UInt32.ofNat n)) w := by
  have h1 : ¬ ((n : Int) < 0) := by omega
  have h2 : min n 32 = n := by omega
  simp only [binOp, Op.shift, if_neg h1, IntKind.bits, Int.toNat_natCast, h2]
  simp [IntKind.wrap, IntKind.bits, IntKind.signed]
  congr 2
  rw [Nat.mod_eq_of_lt hn, show ((2 : Int) ^ n) = ((2 ^ n : Nat) : Int) from by simp, ← Int.natCast_mul, ← Nat.shiftLeft_eq]
  rfl
theorem n_rem64 (a b : UInt64) (hb : b.toNat ≠ 0) : (binOp .rem t (v64 a) (v64 b)).run P w = .ok (v64 (a % b)) w := by
  have : ¬ ((b.toNat : Int) = 0) := by omega
  simp only [binOp, Op.intDiv, if_neg this]; simp [this]
  congr 2
end

/-! conversions -/
/-- an int as a byte -/
def B8 (n : Int) : UInt8 := UInt8.ofNat (n % 256).toNat
def B64 (n : Int) : UInt64 := UInt64.ofNat (n % 18446744073709551616).toNat
theorem B64_nat {n : Nat} (h : n < 18446744073709551616) : (B64 (n : Int)).toNat = n := by simp [B64]; omega
theorem wrap8_B (n : Int) : IntKind.u8.wrap n = ((B8 n).toNat : Int) := by
  simp [IntKind.wrap, IntKind.bits, IntKind.signed, B8]; omega
theorem wrap64_B (n : Int) : IntKind.u64.wrap n = ((B64 n).toNat : Int) := by
  simp [IntKind.wrap, IntKind.bits, IntKind.signed, B64]; omega
section
variable {P : Program} {ops : Array Oper} {Q : Exit → Act → World → Prop} {N : Nat} {E : Env} {w : World} {rest : List Oper}
  {d : Nat} {ty : TypeId} {pos : String} {af : Array Edge} {src dst : TypeId} {x : Operand}
theorem WL.c_i64_u8 {n : Int} (hk : P.underlying src = some (.int .i64)) (ht : P.underlying dst = some (.int .u8)) (hx : ev E x = some (vi n)) (hd : Nat.blt d N = true) (h : WL P ops Q N rest ((d, v8 (B8 n)) :: E) w) : WL P ops Q N (⟨some d, .convert src dst x, ty, pos, af, none⟩ :: rest) E w :=
  WL.conv hk ht hx hd (by rw [wrap8_B]; exact h)
theorem WL.c_i64_u64 {n : Int} (hk : P.underlying src = some (.int .i64)) (ht : P.underlying dst = some (.int .u64)) (hx : ev E x = some (vi n)) (hd : Nat.blt d N = true) (h : WL P ops Q N rest ((d, v64 (B64 n)) :: E) w) : WL P ops Q N (⟨some d, .convert src dst x, ty, pos, af, none⟩ :: rest) E w :=
  WL.conv hk ht hx hd (by rw [wrap64_B]; exact h)
theorem WL.c_u8_u32 {b : UInt8} (hk : P.underlying src = some (.int .u8)) (ht : P.underlying dst = some (.int .u32)) (hx : ev E x = some (v8 b)) (hd : Nat.blt d N = true) (h : WL P ops Q N rest ((d, v32 b.toUInt32) :: E) w) : WL P ops Q N (⟨some d, .convert src dst x, ty, pos, af, none⟩ :: rest) E w :=
  WL.conv hk ht hx hd (by rw [wrap32, show UInt32.ofNat b.toNat = b.toUInt32 from by simp]; exact h)
theorem WL.c_u64_u8 {b : UInt64} (hk : P.underlying src = some (.int .u64)) (ht : P.underlying dst = some (.int .u8)) (hx : ev E x = some (v64 b)) (hd : Nat.blt d N = true) (h : WL P ops Q N rest ((d, v8 b.toUInt8) :: E) w) : WL P ops Q N (⟨some d, .convert src dst x, ty, pos, af, none⟩ :: rest) E w :=
  WL.conv hk ht hx hd (by rw [wrap8, show UInt8.ofNat b.toNat = b.toUInt8 from rfl]; exact h)
theorem WL.c_u32_u8 {b : UInt32} (hk : P.underlying src = some (.int .u32)) (ht : P.underlying dst = some (.int .u8)) (hx : ev E x = some (v32 b)) (hd : Nat.blt d N = true) (h : WL P ops Q N rest ((d, v8 b.toUInt8) :: E) w) : WL P ops Q N (⟨some d, .convert src dst x, ty, pos, af, none⟩ :: rest) E w :=
  WL.conv hk ht hx hd (by rw [wrap8, show UInt8.ofNat b.toNat = b.toUInt8 from rfl]; exact h)
end
end Go.HL
namespace Go.HL
open Go.RowKit

/-! pieces of slices -/
def cutAt (ao : Option Addr) (c l sz : Nat) : Option Addr := if c = l then ao else ao.map (·.add (l * sz))
theorem cutAt_at {S : Nat → Prop} {ao : Option Addr} (h : At S ao) (c l sz : Nat) : At S (cutAt ao c l sz) := by
  intro a ea
  unfold cutAt at ea
  split at ea
  · exact h a ea
  · cases ao with
    | none => cases ea
    | some a0 =>
      simp at ea
      subst ea
      have := h a0 rfl
      unfold Addr.add
      split <;> exact this
section
variable {α : Type} {e : Enc α} {S : Nat → Prop} {w : World} {ao : Option Addr} {c : Nat} {xs : List α}
theorem RSl.drop (h : RSl S w e ao c xs) (l : Nat) (hl : l ≤ xs.length) : RSl S w e (cutAt ao c l e.sz) (c - l) (xs.drop l) := by
  refine ⟨fun hx => cutAt_at (h.at_ (fun h0 => hx (by simp [h0]))) _ _ _, by have := h.cap; simp; omega, Enc.all_len _ _, fun j u hu => ?_⟩
  rw [← Enc.all_drop, List.getElem?_drop] at hu
  obtain ⟨b, off, rfl, hc⟩ := h.sl.2 _ u hu
  have h1 := (List.getElem?_eq_some_iff.1 hu).1
  rw [Enc.all_len] at h1
  have hlt : l < xs.length := by
    rcases Nat.lt_or_ge l xs.length with h2 | h2
    · exact h2
    · have := Nat.mul_le_mul_right e.sz h2; omega
  have hne : ¬ c = l := by have := h.cap; omega
  refine ⟨b, off + l * e.sz, ?_, by rw [Nat.add_assoc]; exact hc⟩
  simp [cutAt, hne, Addr.add_lit]
theorem RSl.take (h : RSl S w e ao c xs) (k : Nat) (hk : k ≤ xs.length) : RSl S w e ao c (xs.take k) := by
  refine ⟨fun hx => h.at_ (fun h0 => hx (by simp [h0])), by have := h.cap; simp; omega, Enc.all_len _ _, fun j u hu => ?_⟩
  rw [← Enc.all_take, List.getElem?_take] at hu
  split at hu
  · exact h.sl.2 j u hu
  · cases hu
end
section
variable {P : Program} {ops : Array Oper} {Q : Exit → Act → World → Prop} {N : Nat} {E : Env} {w : World} {rest : List Oper}
  {d : Nat} {ty : TypeId} {pos : String} {af : Array Edge} {α : Type} {e : Enc α} {S : Nat → Prop}
theorem run_sliceAt {t T : TypeId} (w : World) (ht : P.underlying t = some (.slice T)) {sz : Nat} (hs : ∀ w, (sizeOf T).run P w = .ok sz w) (ao : Option Addr) (n c l h : Nat) (k j : IntKind) (lo hi : Option Value) (hlo : lo = some (.int k (l : Int)) ∨ lo = none ∧ l = 0) (hhi : hi = some (.int j (h : Int)) ∧ h ≤ c ∨ hi = none ∧ h = n) (hl : l ≤ h) :
    (Instr.sliceAt t (.slice ao n c) lo hi none).run P w = .ok (.slice (cutAt ao c l sz) (h - l) (c - l)) w := by
  have h1 : (0 : Int) ≤ (l : Int) ∧ (l : Int) ≤ (h : Int) := by omega
  rcases hlo with rfl | ⟨rfl, rfl⟩ <;> rcases hhi with ⟨rfl, h2⟩ | ⟨rfl, rfl⟩ <;>
    simp [Instr.sliceAt, Instr.slice, Instr.sliceBounds, Instr.sliceBound, asIntOf, run_underlying ht, hs, cutAt, *]
theorem WL.slice {t T : TypeId} {x : Operand} {lo hi : Option Operand} {ao : Option Addr} {c l h : Nat} {k j : IntKind} {xs : List α} (ht : P.underlying t = some (.slice T)) (hs : ∀ w, (sizeOf T).run P w = .ok e.sz w) (hr : RSl S w e ao c xs) (hx : ev E x = some (.slice ao xs.length c))
    (hlo : lo.map (ev E) = some (some (.int k (l : Int))) ∨ lo = none ∧ l = 0) (hhi : hi.map (ev E) = some (some (.int j (h : Int))) ∨ hi = none ∧ h = xs.length) (hl : l ≤ h ∧ h ≤ xs.length) (hd : Nat.blt d N = true)
    (k' : ∀ ao2 c2, RSl S w e ao2 c2 ((xs.take h).drop l) → (ao = none → ao2 = none) → WL P ops Q N rest ((d, .slice ao2 ((xs.take h).drop l).length c2) :: E) w) : WL P ops Q N (⟨some d, .slice t x lo hi none, ty, pos, af, none⟩ :: rest) E w := by
  have h1 := (hr.take h hl.2).drop l (by simp; omega)
  have hlen : h - l = ((xs.take h).drop l).length := by simp; omega
  refine WL.run _ w (fun a ha => ?_) hd (k' _ _ h1 (fun hn => by subst hn; unfold cutAt; split <;> rfl))
  have hlo' : lo.map a.eval = some (.int k (l : Int)) ∨ lo.map a.eval = none ∧ l = 0 := by
    rcases hlo with h2 | ⟨rfl, h2⟩
    · cases lo with
      | none => cases h2
      | some y => simp at h2; left; simp [ev_eval ha h2]
    · right; exact ⟨rfl, h2⟩
  have hhi' : hi.map a.eval = some (.int j (h : Int)) ∧ h ≤ c ∨ hi.map a.eval = none ∧ h = xs.length := by
    rcases hhi with h2 | ⟨rfl, h2⟩
    · cases hi with
      | none => cases h2
      | some y => simp at h2; left; exact ⟨by simp [ev_eval ha h2], by have := hr.cap; omega⟩
    · right; exact ⟨rfl, h2⟩
  simp only [execOp, ev_eval ha hx, Option.map_none]
  rw [← hlen]
  simp [run_sliceAt w ht hs ao xs.length c l h k j _ _ hlo' hhi' hl.1]
theorem RSl.cut {ao : Option Addr} {c : Nat} {xs : List α} (hr : RSl S w e ao c xs) (l h : Nat) (hl : l ≤ h ∧ h ≤ xs.length) : RSl S w e (cutAt ao c l e.sz) (c - l) ((xs.take h).drop l) := (hr.take h hl.2).drop l (by simp; omega)
/-- the same with its place written out -/
theorem WL.sliceC {t T : TypeId} {x : Operand} {lo hi : Option Operand} {ao : Option Addr} {c l h : Nat} {k j : IntKind} {xs : List α} (ht : P.underlying t = some (.slice T)) (hs : ∀ w, (sizeOf T).run P w = .ok e.sz w) (hr : RSl S w e ao c xs) (hx : ev E x = some (.slice ao xs.length c))
    (hlo : lo.map (ev E) = some (some (.int k (l : Int))) ∨ lo = none ∧ l = 0) (hhi : hi.map (ev E) = some (some (.int j (h : Int))) ∨ hi = none ∧ h = xs.length) (hl : l ≤ h ∧ h ≤ xs.length) (hd : Nat.blt d N = true)
    (k' : WL P ops Q N rest ((d, .slice (cutAt ao c l e.sz) ((xs.take h).drop l).length (c - l)) :: E) w) : WL P ops Q N (⟨some d, .slice t x lo hi none, ty, pos, af, none⟩ :: rest) E w := by
  have hlen : h - l = ((xs.take h).drop l).length := by simp; omega
  refine WL.run _ w (fun a ha => ?_) hd k'
  have hlo' : lo.map a.eval = some (.int k (l : Int)) ∨ lo.map a.eval = none ∧ l = 0 := by
    rcases hlo with h2 | ⟨rfl, h2⟩
    · cases lo with
      | none => cases h2
      | some y => simp at h2; left; simp [ev_eval ha h2]
    · right; exact ⟨rfl, h2⟩
  have hhi' : hi.map a.eval = some (.int j (h : Int)) ∧ h ≤ c ∨ hi.map a.eval = none ∧ h = xs.length := by
    rcases hhi with h2 | ⟨rfl, h2⟩
    · cases hi with
      | none => cases h2
      | some y => simp at h2; left; exact ⟨by simp [ev_eval ha h2], by have := hr.cap; omega⟩
    · right; exact ⟨rfl, h2⟩
  simp only [execOp, ev_eval ha hx, Option.map_none]
  rw [← hlen]
  simp [run_sliceAt w ht hs ao xs.length c l h k j _ _ hlo' hhi' hl.1]
theorem WL.sslice {t : TypeId} {x : Operand} {lo hi : Option Operand} {l h : Nat} {k j : IntKind} {s : ByteArray} (ht : P.underlying t = some .string) (hx : ev E x = some (.string s))
    (hlo : lo.map (ev E) = some (some (.int k (l : Int))) ∨ lo = none ∧ l = 0) (hhi : hi.map (ev E) = some (some (.int j (h : Int))) ∨ hi = none ∧ h = s.size) (hl : l ≤ h ∧ h ≤ s.size) (hd : Nat.blt d N = true)
    (k' : WL P ops Q N rest ((d, .string (s.extract l h)) :: E) w) : WL P ops Q N (⟨some d, .slice t x lo hi none, ty, pos, af, none⟩ :: rest) E w := by
  refine WL.run _ w (fun a ha => ?_) hd k'
  have h1 : (0 : Int) ≤ (l : Int) ∧ (l : Int) ≤ (h : Int) := by omega
  have h2 : (h : Int) ≤ (s.size : Int) := by omega
  have hlo' : lo.map a.eval = some (.int k (l : Int)) ∨ lo.map a.eval = none ∧ l = 0 := by
    rcases hlo with h2 | ⟨rfl, h2⟩
    · cases lo with
      | none => cases h2
      | some y => simp at h2; left; simp [ev_eval ha h2]
    · right; exact ⟨rfl, h2⟩
  have hhi' : hi.map a.eval = some (.int j (h : Int)) ∨ hi.map a.eval = none ∧ h = s.size := by
    rcases hhi with h2 | ⟨rfl, h2⟩
    · cases hi with
      | none => cases h2
      | some y => simp at h2; left; simp [ev_eval ha h2]
    · right; exact ⟨rfl, h2⟩
  simp only [execOp, ev_eval ha hx, Option.map_none]
  have h7 : (l : Int) ≤ (s.size : Int) := by omega
  rcases hlo' with h3 | ⟨h3, h5⟩ <;> rcases hhi' with h4 | ⟨h4, h6⟩ <;> rw [h3, h4] <;> (try subst h5) <;> (try subst h6) <;>
    simp [Instr.sliceAt, Instr.slice, Instr.sliceBounds, Instr.sliceBound, asIntOf, run_underlying ht, *]

/-! bytes and texts -/
theorem eb_all (xs : List UInt8) : eb.all xs = xs.map v8 := by
  unfold Enc.all eb
  induction xs with
  | nil => rfl
  | cons x r ih => rw [List.flatMap_cons, ih]; rfl
theorem run_toString {T src dst : TypeId} (w : World) (hk : P.underlying src = some (.slice T)) (hT : P.underlying T = some (.int .u8)) (ht : P.underlying dst = some .string) {ao : Option Addr} {c : Nat} {xs : List UInt8} (h : RSl S w eb ao c xs) :
    (convert src dst (.slice ao xs.length c)).run P w = .ok (.string ⟨xs.toArray⟩) w := by
  have hall := eb_all xs
  rw [run_convert_bytes_string w src dst T ao xs.length c hk hT ht]
  cases ao with
  | none =>
    have := h.none_nil
    subst this
    rfl
  | some a =>
    have hl := run_loadCells_list (P := P) w a (eb.all xs) (fun j u hu => by
      obtain ⟨b, off, ea, hc⟩ := h.sl.2 j u hu
      injection ea with ea
      subst ea
      rw [Addr.add_lit, hc])
    have hr := run_bytesToString (P := P) w a xs.length c (xs.map fun b => (b.toNat : Int)) (by
      have hlen : (eb.all xs).length = xs.length := by rw [Enc.all_len]; simp [eb]
      rw [hlen, hall] at hl
      rw [hl, List.map_map]
      rfl)
    have hf : ∀ (l : List UInt8) (s : ByteArray), (l.map fun b => (b.toNat : Int)).foldl (fun r n => r.push (UInt8.ofNat n.toNat)) s = ⟨s.data ++ l.toArray⟩ := by
      intro l
      induction l with
      | nil => intro s; simp
      | cons x r ih =>
        intro s
        simp only [List.map_cons, List.foldl_cons]
        rw [ih]
        congr 1
        apply Array.ext'
        simp [ByteArray.push]
    rw [hr, hf]
    simp
theorem WL.toStr {T src dst : TypeId} {x : Operand} {ao : Option Addr} {c : Nat} {xs : List UInt8} (hk : P.underlying src = some (.slice T)) (hT : P.underlying T = some (.int .u8)) (ht : P.underlying dst = some .string) (h : RSl S w eb ao c xs) (hx : ev E x = some (.slice ao xs.length c)) (hd : Nat.blt d N = true)
    (k : WL P ops Q N rest ((d, .string ⟨xs.toArray⟩) :: E) w) : WL P ops Q N (⟨some d, .convert src dst x, ty, pos, af, none⟩ :: rest) E w :=
  WL.run _ w (fun a ha => by simp [execOp, ev_eval ha hx, run_toString w hk hT ht h]) hd k
theorem toBytes_row (w : World) (T : TypeId) (s : ByteArray) (hs : s.size ≤ maxLen) : Row (w.heap.size ≤ ·) (Lib.bytesWorld w T s) T eb (some ⟨w.heap.size, 0, none⟩) (grownCap w s.size 0 T) s.data.toList := by
  have hall := eb_all s.data.toList
  have hge := grownCap_ge w s.size 0 T
  have e2 : s.data.toList.length = s.size := by simp
  refine ⟨fun a ea => by injection ea with ea; subst ea; exact Nat.le_refl _, Enc.all_len _ _, by rw [e2]; exact hge, .inr ⟨_, _, _, rfl, Lib.bytesWorld_at_new w T s, fun j hj hh => by have := hh.1; simp only at this; omega, grownCap_le_maxLen w _ 0 T hs, ?_, ?_⟩⟩
  · simp [Lib.bytesCells, eb]; omega
  · rw [hall]
    simp only [eb, Nat.mul_one, Lib.bytesCells, Array.toList_append]
    rw [List.take_append_of_le_length (by simp)]
    rw [List.take_of_length_le (by simp)]
    simp
theorem toBytes_chg (w : World) (T : TypeId) (s : ByteArray) : Chg Nob w (Lib.bytesWorld w T s) :=
  ⟨rfl, rfl, rfl, by rw [Lib.bytesWorld_size]; omega, fun k hk _ => Lib.bytesWorld_at_old w T s k hk⟩
theorem WL.toBytes {T src dst : TypeId} {x : Operand} {s : ByteArray} (hk : P.underlying src = some .string) (ht : P.underlying dst = some (.slice T)) (hT : P.underlying T = some (.int .u8)) (hx : ev E x = some (.string s)) (hs : s.size ≤ 9223372036854775807) (hd : Nat.blt d N = true)
    (k : ∀ ao c w', Row (w.heap.size ≤ ·) w' T eb ao c s.data.toList → Chg Nob w w' → w'.heap.size = w.heap.size + 1 → WL P ops Q N rest ((d, .slice ao s.data.toList.length c) :: E) w') : WL P ops Q N (⟨some d, .convert src dst x, ty, pos, af, none⟩ :: rest) E w := by
  refine WL.run _ _ (fun a ha => ?_) hd (k _ _ _ (toBytes_row w T s (by simpa [maxLen] using hs)) (toBytes_chg w T s) (Lib.bytesWorld_size w T s))
  have h1 := Lib.run_convert_string_bytes (P := P) w src dst T s hk ht hT
  have e2 : s.data.toList.length = s.size := by simp
  simp [execOp, ev_eval ha hx, h1, e2]
/-! values of several parts -/
def evq (E : Env) : List (Nat × Operand) → Option (List (Nat × Value))
  | [] => some []
  | (i, x) :: r => (ev E x).bind fun v => (evq E r).map ((i, v) :: ·)
theorem evq_eval {a : Act} (ha : Holds N E a) : ∀ {ps : List (Nat × Operand)} {l : List (Nat × Value)}, evq E ps = some l → ps.map (fun p => (p.1, a.eval p.2)) = l
  | [], l, h => by simp [evq] at h; simp [h]
  | (i, x) :: r, l, h => by
    simp only [evq, Option.bind_eq_some_iff, Option.map_eq_some_iff] at h
    obtain ⟨v, hv, us, hu, rfl⟩ := h
    simp [ev_eval ha hv, evq_eval ha hu]
theorem WL.bld {t : TypeId} {ps : List (Nat × Operand)} {l : List (Nat × Value)} {v : Value} (hx : evq E ps = some l) (hrun : ∀ w, (Instr.build t l.toArray).run P w = .ok v w) (hd : Nat.blt d N = true)
    (h : WL P ops Q N rest ((d, v) :: E) w) : WL P ops Q N (⟨some d, .build t ps.toArray, ty, pos, af, none⟩ :: rest) E w :=
  WL.run v w (fun a ha => by simp [execOp, evq_eval ha hx, hrun]) hd h
end
end Go.HL
namespace Go.HL
open Go.ChangeShapes Go.WideShapes Go.ChangeAt Go.RowKit Go.Deep
open Go.ChangeMaps (open_string shut_string)

section
variable {H : Type} {enc : TypeId × Value → H} {P : Program} {W : World} {α : Type}
/-! elements -/
theorem el_i64 {T : TypeId} (hT : P.underlying T = some (.int .i64)) (n : Nat) (cs : List Value) (y : DataW H × List MemPlace) (_ : cs.length = ei.sz) (_ : ∀ (q : Nat) (v : Value), cs[q]? = some v → True) (h : DataW.trod enc P W 0 (fun _ => true) true n T cs = some y) : ∃ x, cs = ei.f x ∧ (-9223372036854775808 ≤ x ∧ x ≤ 9223372036854775807) := by
  obtain ⟨m, rfl, _, hw⟩ := DataW.trod_int hT h
  exact ⟨m, rfl, by simpa [Lit.wf, IntKind.min, IntKind.max, IntKind.signed, IntKind.bits] using hw⟩
end
end Go.HL
namespace Go.HL
open Go.RowKit

/-! A region that draws its order: what only reads (or makes memory and hands back a value that is known) may stand anywhere; what else there is stands in a chain. -/
def dstOf (ops : Array Oper) (i : Nat) : Option Tmp := (ops[i]?).bind (·.dst)
def before? (ops : Array Oper) (j i : Nat) : Bool := ((ops[i]?).map (·.after.toList.any fun e => Region.binds .any e && e.on == j)).getD false
def looks (ops : Array Oper) (i : Nat) : List Tmp := ((ops[i]?).map (Oper.looksAt ops)).getD []
def chainOk (ops : Array Oper) : List Nat → Bool
  | [] => true
  | [_] => true
  | a :: b :: r => before? ops a b && chainOk ops (b :: r)
def srcOk (ops : Array Oper) : List Nat → List Nat → Bool
  | _, [] => true
  | done, i :: r => ((looks ops i).all fun t => (List.range ops.size).all fun j => dstOf ops j != some t || (if done.contains j then before? ops j i else before? ops i j)) && srcOk ops (i :: done) r
def nodupB : List Nat → Bool
  | [] => true
  | a :: r => !r.contains a && nodupB r
theorem nodupB_spec : ∀ {l : List Nat}, nodupB l = true → l.Nodup
  | [], _ => List.nodup_nil
  | a :: r, h => by
    simp only [nodupB, Bool.and_eq_true, Bool.not_eq_true'] at h
    exact List.nodup_cons.2 ⟨by simpa using h.1, nodupB_spec h.2⟩
def drawOk (ops : Array Oper) (C R : List Nat) : Bool :=
  ((List.range ops.size).all fun i => C.contains i || R.contains i) && ((C ++ R).all fun i => decide (i < ops.size)) &&
  ((List.range ops.size).all fun i => (List.range ops.size).all fun j => i == j || dstOf ops i == none || dstOf ops i != dstOf ops j) &&
  ((List.range ops.size).all fun i => ((ops[i]?).map (·.after.toList.all fun e => !Region.binds .any e || decide (e.on < i))).getD true) &&
  srcOk ops [] (C ++ R) && chainOk ops R && nodupB (C ++ R)

def restr (ops : Array Oper) (i : Nat) (E : Env) : Env := E.filter fun p => (looks ops i).contains p.1
theorem restr_lookup {ops : Array Oper} {i : Nat} {E : Env} {t : Nat} {v : Value} (h : (restr ops i E).lookup t = some v) : t ∈ looks ops i ∧ E.lookup t = some v := by
  unfold restr at h
  induction E with
  | nil => simp at h
  | cons p r ih =>
    obtain ⟨s, u⟩ := p
    by_cases hs : (looks ops i).contains s = true
    · rw [List.filter_cons_of_pos (by simpa using hs)] at h
      simp only [List.lookup] at h ⊢
      by_cases e : t = s
      · subst e; simp at h; subst h; simp; simpa using hs
      · have hne : (t == s) = false := by simpa using e
        simp only [hne] at h ⊢
        exact ih h
    · rw [List.filter_cons_of_neg (by simpa using hs)] at h
      obtain ⟨h1, h2⟩ := ih h
      refine ⟨h1, ?_⟩
      have hne : t ≠ s := by rintro rfl; exact hs (by simpa using h1)
      have hne' : (t == s) = false := by simpa using hne
      simp only [List.lookup, hne']
      exact h2

def putE (E : Env) (d : Option Tmp) (v : Value) : Env := match d with | some t => (t, v) :: E | none => E
/-- the end of one operation: what it hands back, and the world -/
def One (d : Option Tmp) (φ : Value → World → Prop) (e : Exit) (a : Act) (w : World) : Prop := e = .normal ∧ a.defers = [] ∧ ∃ v, (∀ t, d = some t → a.tmps[t]? = some v) ∧ φ v w
section
variable (P : Program) (ops : Array Oper) (Q : Exit → Act → World → Prop) (N : Nat) (K : World → Prop) (w0 : World)
def DL : List Nat → Env → World → Prop
  | [], E, w => ∀ w', Chg Nob w w' → WX Q .normal N E w'
  | r :: rs, E, w => ∀ w', Chg Nob w w' → ∀ o, ops[r]? = some o → WL P ops (One o.dst fun v w'' => K w'' ∧ DL rs (putE E o.dst v) w'') N [o] (restr ops r E) w'
def DQ (R : List Nat) : List Nat → Env → Prop
  | [], E => DL P ops Q N K R E w0
  | i :: is, E => ∃ v, (∀ o, ops[i]? = some o → ∀ w', K w' → WL P ops (One o.dst fun u w'' => u = v ∧ Chg Nob w' w'') N [o] (restr ops i E) w') ∧ DQ R is (putE E (dstOf ops i) v)
end
/-- one operation of the region, out of its own little walk -/
theorem wpOp_of_WL {P : Program} {ops : Array Oper} {Q : Exit → Act → World → Prop} {N : Nat} {E : Env} {w : World} {a : Act} {i : Nat} {o : Oper} {φ : Value → World → Prop} (ho : ops[i]? = some o)
    (ha : Holds N (restr ops i E) a) (hd : ∀ t, o.dst = some t → t < N) (h : WL P ops (One o.dst φ) N [o] (restr ops i E) w) :
    wpOp P ops Q i (fun a' w' => ∃ v, a' = a.put o.dst v ∧ φ v w') a w := by
  have h1 := h a ha
  have key : ∀ (v : Value) (w' : World), One o.dst φ .normal (a.put o.dst v) w' → ∃ v', a.put o.dst v = a.put o.dst v' ∧ φ v' w' := by
    rintro v w' ⟨_, _, u, hu, hφ⟩
    cases hdst : o.dst with
    | none => exact ⟨u, rfl, hφ⟩
    | some t =>
      have hlt : t < a.tmps.size := by rw [ha.size]; exact hd t hdst
      have := hu t hdst
      rw [hdst] at this
      simp [Act.put, hlt] at this
      subst this
      exact ⟨v, rfl, hφ⟩
  unfold wpOp
  simp only [ho]
  unfold wpList at h1
  have kq : ∀ e a w, e ≠ Exit.normal → One o.dst φ e a w → Q e a w := fun e _ _ hne h => absurd h.1 hne
  split
  · rename_i hw
    rw [if_pos hw] at h1
    rcases h1 with h1 | ⟨h1, a', w', h2⟩
    · left
      unfold Oper.wp at h1 ⊢
      generalize (execOp a.eval o).run P w = r at *
      cases r with
      | ok n w' =>
        cases n <;> simp only [Oper.upon] at h1 ⊢ <;>
          first
            | exact key _ _ h1
            | (obtain ⟨_, hdf, _⟩ := h1
               exfalso
               revert hdf
               cases o.dst <;> simp [Act.put])
            | exact Calls.mono h1 (fun e w'' he => by
                cases e with
                | returned v => exact key _ _ he
                | panicked ch => exact kq _ _ _ (by simp) he
                | outgrown => exact absurd he (fun ⟨_, _, h⟩ => by have := h.1; cases this))
            | exact Rows.mono h1 (fun _ _ he => key _ _ he)
      | halt x w' => cases x <;> simp only [Oper.upon] at h1 ⊢ <;> first | exact kq _ _ _ (by simp) h1 | exact h1
    · exact absurd h2.1 (by simp)
  · rename_i hw
    rw [if_neg hw] at h1
    exact key _ _ h1

theorem mem_ready {ops : Array Oper} {listed : Array Bool} {i : Nat} (h : i ∈ Region.ready .any ops listed) : i < ops.size ∧ listed.getD i true = false ∧ ∀ j, before? ops j i = true → listed.getD j false = true := by
  simp only [Region.ready, List.mem_filter, List.mem_range, Bool.and_eq_true, Bool.not_eq_true'] at h
  refine ⟨h.1, h.2.1, fun j hj => ?_⟩
  have h2 := h.2.2
  unfold before? at hj
  cases ho : ops[i]? with
  | none => simp [ho] at h2
  | some o =>
    simp only [ho, Option.map_some, Option.getD_some] at h2 hj
    rw [List.any_eq_true] at hj
    rw [Array.all_eq_true'] at h2
    obtain ⟨e, he, hb⟩ := hj
    simp only [Bool.and_eq_true, beq_iff_eq] at hb
    have := h2 e (by simpa using he)
    rw [hb.1, hb.2] at this
    simpa using this
theorem ready_nil {ops : Array Oper} {listed : Array Bool} (hs : listed.size = ops.size) (hb : ∀ i, i < ops.size → ∀ o, ops[i]? = some o → ∀ e ∈ o.after, Region.binds .any e = true → e.on < i) (h : Region.ready .any ops listed = []) : ∀ i, i < ops.size → listed.getD i false = true := by
  intro i
  induction i using Nat.strongRecOn with
  | _ i ih =>
    intro hi
    by_cases hl : listed.getD i false = true
    · exact hl
    · exfalso
      have hm : i ∈ Region.ready .any ops listed := by
        simp only [Region.ready, List.mem_filter, List.mem_range, Bool.and_eq_true, Bool.not_eq_true']
        have hi' : i < listed.size := by omega
        refine ⟨hi, ?_, ?_⟩
        · simp [Array.getD_eq_getD_getElem?, hi'] at hl ⊢; exact hl
        · rw [Array.getElem?_eq_getElem hi]
          simp only [Option.map_some, Option.getD_some]
          rw [Array.all_eq_true']
          intro e he
          by_cases hbe : Region.binds .any e = true
          · have hlt := hb i hi _ (Array.getElem?_eq_getElem hi) e he hbe
            simp [hbe, ih e.on hlt (by omega)]
          · simp [hbe]
      rw [h] at hm
      cases hm

def envAfter (ops : Array Oper) (c : Nat → Value) : List Nat → Env → Env
  | [], E => E
  | i :: r, E => envAfter ops c r (putE E (dstOf ops i) (c i))
theorem envAfter_append (ops : Array Oper) (c : Nat → Value) (l m : List Nat) (E : Env) : envAfter ops c (l ++ m) E = envAfter ops c m (envAfter ops c l E) := by
  induction l generalizing E with
  | nil => rfl
  | cons i r ih => exact ih _
theorem envAfter_congr (ops : Array Oper) (c c' : Nat → Value) (l : List Nat) (E : Env) (h : ∀ i ∈ l, c i = c' i) : envAfter ops c l E = envAfter ops c' l E := by
  induction l generalizing E with
  | nil => rfl
  | cons i r ih =>
    simp only [envAfter]
    rw [h i (by simp)]
    exact ih _ (fun j hj => h j (by simp [hj]))
def Rep (ops : Array Oper) (E0 : Env) (c : Nat → Value) (done : List Nat) (E : Env) : Prop :=
  ∀ t v, E.lookup t = some v → (∃ i ∈ done, dstOf ops i = some t ∧ c i = v) ∨ ((∀ i ∈ done, dstOf ops i ≠ some t) ∧ E0.lookup t = some v)
theorem Rep.put {ops : Array Oper} {E0 E : Env} {c : Nat → Value} {done : List Nat} (h : Rep ops E0 c done E) (i : Nat) : Rep ops E0 c (done ++ [i]) (putE E (dstOf ops i) (c i)) := by
  intro t v ht
  cases hd : dstOf ops i with
  | none =>
    rw [hd] at ht
    rcases h t v ht with ⟨j, hj, h1⟩ | ⟨h1, h2⟩
    · exact .inl ⟨j, by simp [hj], h1⟩
    · refine .inr ⟨fun j hj => ?_, h2⟩
      rcases List.mem_append.1 hj with hj | hj
      · exact h1 j hj
      · have : j = i := by simpa using hj
        subst this; rw [hd]; simp
  | some d =>
    rw [hd] at ht
    simp only [putE, List.lookup] at ht
    by_cases e : t = d
    · subst e
      simp at ht
      exact .inl ⟨i, by simp, hd, ht⟩
    · have hne : (t == d) = false := by simpa using e
      simp only [hne] at ht
      rcases h t v ht with ⟨j, hj, h1⟩ | ⟨h1, h2⟩
      · exact .inl ⟨j, by simp [hj], h1⟩
      · refine .inr ⟨fun j hj => ?_, h2⟩
        rcases List.mem_append.1 hj with hj | hj
        · exact h1 j hj
        · have : j = i := by simpa using hj
          subst this; rw [hd]; intro hx; injection hx with hx; exact e hx.symm
theorem Rep.after {ops : Array Oper} {E0 E : Env} {c : Nat → Value} {done : List Nat} (h : Rep ops E0 c done E) (l : List Nat) : Rep ops E0 c (done ++ l) (envAfter ops c l E) := by
  induction l generalizing E done with
  | nil => simpa [envAfter] using h
  | cons i r ih =>
    have := ih (h.put i)
    simpa [envAfter, List.append_assoc] using this
theorem Rep.start (ops : Array Oper) (E0 : Env) (c : Nat → Value) : Rep ops E0 c [] E0 := fun _ _ h => .inr ⟨fun _ h => (by cases h), h⟩
theorem srcOk_spec {ops : Array Oper} : ∀ {ord done : List Nat}, srcOk ops done ord = true → ∀ pre i post, ord = pre ++ i :: post → ∀ t ∈ looks ops i, ∀ j, j < ops.size → dstOf ops j = some t → (if j ∈ done ∨ j ∈ pre then before? ops j i = true else before? ops i j = true)
  | [], _, _, pre, i, post, h, _, _, _, _, _ => by cases pre <;> cases h
  | k :: r, done, hs, pre, i, post, h, t, ht, j, hj, hd => by
    simp only [srcOk, Bool.and_eq_true] at hs
    cases pre with
    | nil =>
      injection h with h1 h2
      subst h1
      have := List.all_eq_true.1 hs.1 t ht
      have := List.all_eq_true.1 this j (by simpa using hj)
      simp only [hd, bne_self_eq_false, Bool.false_or] at this
      by_cases hm : j ∈ done <;> simp [hm] at this ⊢ <;> exact this
    | cons p pre =>
      injection h with h1 h2
      subst h1
      have := srcOk_spec hs.2 pre i post h2 t ht j hj hd
      by_cases hm : j ∈ done
      · simp [hm] at this ⊢; exact this
      · by_cases hk : j = k
        · subst hk; simp at this ⊢; exact this
        · simp [hm, hk] at this ⊢; exact this
theorem chainOk_spec {ops : Array Oper} : ∀ {R : List Nat}, chainOk ops R = true → ∀ pre a b post, R = pre ++ a :: b :: post → before? ops a b = true
  | [], _, pre, a, b, post, h => by cases pre <;> cases h
  | [x], _, pre, a, b, post, h => by
    cases pre with
    | nil => cases h
    | cons p pre => injection h with h1 h2; cases pre <;> cases h2
  | x :: y :: r, hc, pre, a, b, post, h => by
    simp only [chainOk, Bool.and_eq_true] at hc
    cases pre with
    | nil => injection h with h1 h2; injection h2 with h2 h3; subst h1; subst h2; exact hc.1
    | cons p pre => injection h with h1 h2; exact chainOk_spec hc.2 pre a b post h2
section
variable {P : Program} {ops : Array Oper} {Q : Exit → Act → World → Prop} {N : Nat} {K : World → Prop} {w0 : World} {E0 : Env}
theorem DQ_spec {R : List Nat} : ∀ {is : List Nat} {E : Env}, is.Nodup → DQ P ops Q N K w0 R is E → ∃ c : Nat → Value, DL P ops Q N K R (envAfter ops c is E) w0 ∧
    ∀ pre i post, is = pre ++ i :: post → ∀ o, ops[i]? = some o → ∀ w', K w' → WL P ops (One o.dst fun u w'' => u = c i ∧ Chg Nob w' w'') N [o] (restr ops i (envAfter ops c pre E)) w'
  | [], E, _, h => ⟨fun _ => undef, h, fun pre i post hx => by cases pre <;> cases hx⟩
  | i :: is, E, hn, h => by
    obtain ⟨v, h1, h2⟩ := h
    obtain ⟨c, h3, h4⟩ := DQ_spec (List.nodup_cons.1 hn).2 h2
    have hi := (List.nodup_cons.1 hn).1
    let c' : Nat → Value := fun j => if j = i then v else c j
    have hc : ∀ j, j ∈ is → c j = c' j := fun j hj => by
      have : j ≠ i := fun e => hi (e ▸ hj)
      simp [c', this]
    have hci : c' i = v := by simp [c']
    refine ⟨c', ?_, ?_⟩
    · show DL P ops Q N K R (envAfter ops c' is (putE E (dstOf ops i) (c' i))) w0
      rw [hci, ← envAfter_congr ops c c' is _ hc]
      exact h3
    · intro pre j post hx o ho w' hw
      cases pre with
      | nil =>
        injection hx with hx1 hx2
        subst hx1
        rw [hci]
        exact h1 o ho w' hw
      | cons p pre =>
        injection hx with hx1 hx2
        subst hx1
        have := h4 pre j post hx2 o ho w' hw
        have hj : j ∈ is := by rw [hx2]; simp
        rw [hc j hj, envAfter_congr ops c c' pre _ (fun k hk => hc k (by rw [hx2]; simp [hk]))] at this
        show WL P ops _ N [o] (restr ops j (envAfter ops c' pre (putE E (dstOf ops i) (c' i)))) w'
        rw [hci]
        exact this

/-- the state in the middle of the region -/
structure Mid (ops : Array Oper) (N : Nat) (E0 : Env) (listed : Array Bool) (a : Act) (vals : Nat → Value) : Prop where
  sz : listed.size = ops.size
  tsz : a.tmps.size = N
  dfs : a.defers = []
  done : ∀ i, i < ops.size → listed.getD i false = true → ∀ t, dstOf ops i = some t → a.tmps[t]? = some (vals i)
  old : ∀ t v, E0.lookup t = some v → (∀ i, i < ops.size → listed.getD i false = true → dstOf ops i ≠ some t) → a.tmps[t]? = some v
  clo : ∀ i, i < ops.size → listed.getD i false = true → ∀ j, before? ops j i = true → listed.getD j false = true
theorem Mid.holds {listed : Array Bool} {a : Act} {vals : Nat → Value} (m : Mid ops N E0 listed a vals) {pre post : List Nat} {i : Nat} {ord : List Nat} (hsrc : srcOk ops [] ord = true) (hord : ord = pre ++ i :: post) (hlt : ∀ k ∈ ord, k < ops.size)
    {E : Env} (hrep : Rep ops E0 vals pre E) (hr : ∀ j, before? ops j i = true → listed.getD j false = true) (hno : listed.getD i true = false) : Holds N (restr ops i E) a := by
  refine ⟨m.tsz, m.dfs, fun t v ht => ?_⟩
  obtain ⟨h1, h2⟩ := restr_lookup ht
  rcases hrep t v h2 with ⟨j, hj, hd, rfl⟩ | ⟨h3, h4⟩
  · have hjl : j < ops.size := hlt j (by rw [hord]; simp [hj])
    have := srcOk_spec hsrc pre i post hord t h1 j hjl hd
    simp only [hj, or_true, if_true] at this
    exact m.done j hjl (hr j this) t hd
  · refine m.old t v h4 fun j hj hl hd => ?_
    have hjp : j ∉ pre := fun hm => h3 j hm hd
    have := srcOk_spec hsrc pre i post hord t h1 j hj hd
    simp only [List.not_mem_nil, hjp, or_self, if_false] at this
    have h5 := m.clo j hj hl i this
    have hi : i < ops.size := hlt i (by rw [hord]; simp)
    have : i < listed.size := by rw [m.sz]; exact hi
    simp [Array.getD_eq_getD_getElem?, this] at h5 hno
    rw [h5] at hno
    cases hno
theorem Mid.put {listed : Array Bool} {a : Act} {vals : Nat → Value} (m : Mid ops N E0 listed a vals) {i : Nat} (hi : i < ops.size) (hdst : ∀ i j, i < ops.size → j < ops.size → i ≠ j → ∀ t, dstOf ops i = some t → dstOf ops j ≠ some t) (hN : ∀ t, dstOf ops i = some t → t < N)
    (hr : ∀ j, before? ops j i = true → listed.getD j false = true) (hno : listed.getD i true = false) (v : Value) :
    Mid ops N E0 (listed.setIfInBounds i true) (a.put (dstOf ops i) v) (fun j => if j = i then v else vals j) := by
  have hget : ∀ j, (listed.setIfInBounds i true).getD j false = if j = i then true else listed.getD j false := by
    intro j
    have hil : i < listed.size := by rw [m.sz]; exact hi
    simp only [Array.getD_eq_getD_getElem?, Array.getElem?_setIfInBounds]
    by_cases e : j = i
    · subst e; simp [hil]
    · have : ¬ i = j := fun x => e x.symm
      simp [this, e]
  refine ⟨by simp [m.sz], by cases h : dstOf ops i <;> simp [Act.put, m.tsz], by cases h : dstOf ops i <;> simp [Act.put, m.dfs], ?_, ?_, ?_⟩
  · intro j hj hl t hd
    by_cases e : j = i
    · subst e
      have hlt : t < a.tmps.size := by rw [m.tsz]; exact hN t hd
      simp [hd, Act.put, hlt]
    · rw [hget j, if_neg e] at hl
      have := m.done j hj hl t hd
      simp only [e, if_false]
      cases hdi : dstOf ops i with
      | none => simpa [Act.put] using this
      | some d =>
        have hne : d ≠ t := by
          rintro rfl
          exact hdst i j hi hj (fun x => e x.symm) d hdi hd
        simp [Act.put, Array.getElem?_setIfInBounds_ne hne, this]
  · intro t u ht hnot
    have h1 := m.old t u ht (fun j hj hl => by
      refine hnot j hj ?_
      rw [hget]
      split
      · rfl
      · exact hl)
    cases hdi : dstOf ops i with
    | none => simpa [Act.put] using h1
    | some d =>
      have hne : d ≠ t := by
        rintro rfl
        refine hnot i hi ?_ hdi
        rw [hget]; simp
      simp [Act.put, Array.getElem?_setIfInBounds_ne hne, h1]
  · intro j hj hl k hk
    rw [hget]
    split
    · rfl
    · by_cases e : j = i
      · subst e; exact hr k hk
      · rw [hget j, if_neg e] at hl
        exact m.clo j hj hl k hk

theorem dstOf_eq {ops : Array Oper} {i : Nat} {o : Oper} (h : ops[i]? = some o) : dstOf ops i = o.dst := by simp [dstOf, h]
theorem WC.drawK {id : Nat} (K : World → World → Prop) (C R : List Nat) (hm : P.follows .mixedOrders = true) (hok : drawOk ops C R = true) (hN : ((List.range ops.size).all fun i => (dstOf ops i).all fun t => Nat.blt t N) = true) {w : World} (hK0 : K w.drew w.drew) (hKp : ∀ wd a b, K wd a → Chg Nob a b → K wd b)
    (h0 : ∀ wd, Chg Nob w wd → wd.heap.size = w.heap.size → DQ P ops Q N (K wd) wd R C E0) : WC P (.region id ops true) Q N E0 w := fun a0 ha0 => by
  have h := h0 w.drew (Chg.drew w) rfl
  simp only [drawOk, Bool.and_eq_true, decide_eq_true_eq] at hok
  obtain ⟨⟨⟨⟨⟨⟨hpart, hlt0⟩, hdst0⟩, hback0⟩, hsrc⟩, hchain⟩, hnd⟩ := hok
  replace hnd := nodupB_spec hnd
  have hlt : ∀ k ∈ C ++ R, k < ops.size := fun k hk => by simpa using List.all_eq_true.1 hlt0 k hk
  have hdst : ∀ i j, i < ops.size → j < ops.size → i ≠ j → ∀ t, dstOf ops i = some t → dstOf ops j ≠ some t := by
    intro i j hi hj hne t h1 h2
    have := List.all_eq_true.1 (List.all_eq_true.1 hdst0 i (by simpa using hi)) j (by simpa using hj)
    simp [h1, h2, hne] at this
  have hback : ∀ i, i < ops.size → ∀ o, ops[i]? = some o → ∀ e ∈ o.after, Region.binds .any e = true → e.on < i := by
    intro i hi o ho e he hb
    have := List.all_eq_true.1 hback0 i (by simpa using hi)
    simp only [ho, Option.map_some, Option.getD_some] at this
    rw [List.all_eq_true] at this
    have := this e (by simpa using he)
    simpa [hb] using this
  have hNt : ∀ i, i < ops.size → ∀ t, dstOf ops i = some t → t < N := by
    intro i hi t ht
    have := List.all_eq_true.1 hN i (by simpa using hi)
    simpa [ht] using this
  have hin : ∀ i, i < ops.size → i ∈ C ∨ i ∈ R := fun i hi => by simpa using List.all_eq_true.1 hpart i (by simpa using hi)
  have hCn : C.Nodup := (List.nodup_append.1 hnd).1
  obtain ⟨c, hDL, hq⟩ := DQ_spec hCn h
  have hgs : ∀ (listed : Array Bool) (i j : Nat), i < listed.size → (listed.setIfInBounds i true).getD j false = if j = i then true else listed.getD j false := by
    intro listed i j hil
    simp only [Array.getD_eq_getD_getElem?, Array.getElem?_setIfInBounds]
    by_cases e : j = i
    · subst e; simp [hil]
    · have : ¬ i = j := fun x => e x.symm
      simp [this, e]
  have henv : ∀ (vals : Nat → Value) (rd : List Nat), (∀ i ∈ C, vals i = c i) → envAfter ops vals rd (envAfter ops c C E0) = envAfter ops vals (C ++ rd) E0 := by
    intro vals rd hC
    rw [envAfter_append, envAfter_congr ops vals c C E0 hC]
  have fin : ∀ (listed : Array Bool) (a : Act) (w1 wp : World) (vals : Nat → Value) (rd rs : List Nat), R = rd ++ rs → Mid ops N E0 listed a vals → (∀ i ∈ C, vals i = c i) → (∀ i ∈ rs, listed.getD i false = false) →
      Chg Nob wp w1 → DL P ops Q N (K w.drew) rs (envAfter ops vals rd (envAfter ops c C E0)) wp → (∀ i, i < ops.size → listed.getD i false = true) → Q .normal a w1 := by
    intro listed a w1 wp vals rd rs hR m hC hrs hpw hdl hall
    cases rs with
    | cons r rs =>
      have h1 := hall r (hlt r (by rw [hR]; simp))
      have h2 := hrs r (by simp)
      rw [h1] at h2; cases h2
    | nil =>
      refine hdl w1 hpw a ⟨m.tsz, m.dfs, fun t v ht => ?_⟩
      rw [henv vals rd hC] at ht
      rcases (Rep.start ops E0 vals).after (C ++ rd) t v ht with ⟨j, hj, hd, rfl⟩ | ⟨h1, h2⟩
      · have hjl := hlt j (by rw [hR]; simpa using hj)
        exact m.done j hjl (hall j hjl) t hd
      · refine m.old t v h2 fun j hj _ => h1 j ?_
        have := hin j hj
        rw [hR] at this
        simpa using this
  have key : ∀ (fuel : Nat) (listed : Array Bool) (a : Act) (w1 wp : World) (vals : Nat → Value) (rd rs : List Nat), R = rd ++ rs → Mid ops N E0 listed a vals → (∀ i ∈ C, vals i = c i) → (∀ i ∈ rd, listed.getD i false = true) → (∀ i ∈ rs, listed.getD i false = false) →
      K w.drew w1 → Chg Nob wp w1 → DL P ops Q N (K w.drew) rs (envAfter ops vals rd (envAfter ops c C E0)) wp → ((List.range ops.size).filter fun i => !listed.getD i false).length ≤ fuel → wpAny P .any ops Q fuel listed a w1 := by
    intro fuel
    induction fuel with
    | zero =>
      intro listed a w1 wp vals rd rs hR m hC hrd hrs hM hpw hdl hf
      have hall : ∀ i, i < ops.size → listed.getD i false = true := by
        intro i hi
        have h0 := List.length_eq_zero_iff.1 (Nat.le_zero.1 hf)
        have : i ∉ (List.range ops.size).filter fun i => !listed.getD i false := by rw [h0]; simp
        simpa [hi] using this
      refine ⟨?_, fin listed a w1 wp vals rd rs hR m hC hrs hpw hdl hall⟩
      refine List.eq_nil_iff_forall_not_mem.2 fun i hi => ?_
      obtain ⟨h1, h2, _⟩ := mem_ready hi
      have h3 := hall i h1
      have : i < listed.size := by rw [m.sz]; exact h1
      simp [Array.getD_eq_getD_getElem?, this] at h2 h3
      rw [h2] at h3; cases h3
    | succ fuel ih =>
      intro listed a w1 wp vals rd rs hR m hC hrd hrs hM hpw hdl hf
      refine ⟨fun hnil => fin listed a w1 wp vals rd rs hR m hC hrs hpw hdl (ready_nil m.sz hback hnil), fun i hi => ?_⟩
      obtain ⟨hilt, hno, hpre⟩ := mem_ready hi
      have hil : i < listed.size := by rw [m.sz]; exact hilt
      have hno' : listed.getD i false = false := by
        simp [Array.getD_eq_getD_getElem?, hil] at hno ⊢; exact hno
      have ho : ops[i]? = some ops[i] := Array.getElem?_eq_getElem hilt
      have hdo := dstOf_eq ho
      have hf' : ((List.range ops.size).filter fun j => !(listed.setIfInBounds i true).getD j false).length ≤ fuel := by
        have e1 : ((List.range ops.size).filter fun j => !(listed.setIfInBounds i true).getD j false) = ((List.range ops.size).filter fun j => !listed.getD j false).filter fun j => j != i := by
          rw [List.filter_filter]
          congr 1
          funext j
          rw [hgs listed i j hil]
          by_cases e : j = i <;> simp [e]
        rw [e1]
        have : (((List.range ops.size).filter fun j => !listed.getD j false).filter fun j => j != i).length < ((List.range ops.size).filter fun j => !listed.getD j false).length := by
          rw [List.length_filter_lt_length_iff_exists]
          exact ⟨i, List.mem_filter.2 ⟨by simpa using hilt, by rw [hno']; rfl⟩, by simp⟩
        omega
      by_cases hiC : i ∈ C
      · obtain ⟨pre, post, hsp⟩ := List.append_of_mem hiC
        have hiR : i ∉ R := fun hr => (List.nodup_append.1 hnd).2.2 i hiC i hr rfl
        have h1 := hq pre i post hsp _ ho w1 hM
        have hpc : ∀ k ∈ pre, vals k = c k := fun k hk => hC k (by rw [hsp]; simp [hk])
        have hrep : Rep ops E0 vals pre (envAfter ops c pre E0) := by
          have := (Rep.start ops E0 vals).after pre
          rw [envAfter_congr ops vals c pre E0 hpc] at this
          simpa using this
        have hh := m.holds hsrc (pre := pre) (post := post ++ R) (i := i) (by rw [hsp]; simp) hlt hrep hpre hno
        refine wpOp_mono ?_ (wpOp_of_WL ho hh (fun t ht => hNt i hilt t (by rw [hdo]; exact ht)) h1)
        rintro a' w' ⟨v, rfl, rfl, k⟩
        rw [← hdo]
        have hv : ∀ j, (if j = i then c i else vals j) = vals j := fun j => by
          by_cases e : j = i
          · subst e; simp [hC j hiC]
          · simp [e]
        have hm' := m.put hilt hdst (hNt i hilt) hpre hno (c i)
        simp only [hv] at hm'
        refine ih _ _ w' wp vals rd rs hR hm' hC (fun j hj => ?_) (fun j hj => ?_) (hKp _ _ _ hM k) (hpw.pure k) hdl hf'
        · rw [hgs listed i j hil]; split
          · rfl
          · exact hrd j hj
        · have : j ≠ i := by rintro rfl; exact hiR (by rw [hR]; simp [hj])
          rw [hgs listed i j hil, if_neg this]; exact hrs j hj
      · have hiR : i ∈ R := (hin i hilt).resolve_left hiC
        have hird : i ∉ rd := fun hx => by have := hrd i hx; rw [hno'] at this; cases this
        have hirs : i ∈ rs := by rw [hR] at hiR; exact (List.mem_append.1 hiR).resolve_left hird
        obtain ⟨pre, post, hsp⟩ := List.append_of_mem hirs
        have hpn : pre = [] := by
          rcases List.eq_nil_or_concat pre with h0 | ⟨p0, p, hp⟩
          · exact h0
          · exfalso
            rw [hp] at hsp
            have hb := chainOk_spec hchain (rd ++ p0) p i post (by rw [hR, hsp]; simp)
            have h1 := hpre p hb
            have h2 := hrs p (by rw [hsp]; simp)
            rw [h1] at h2; cases h2
        subst hpn
        rw [List.nil_append] at hsp
        subst hsp
        have h1 := hdl w1 hpw _ ho
        rw [henv vals rd hC] at h1
        have hrep : Rep ops E0 vals (C ++ rd) (envAfter ops vals (C ++ rd) E0) := by simpa using (Rep.start ops E0 vals).after (C ++ rd)
        have hh := m.holds hsrc (pre := C ++ rd) (post := post) (i := i) (by rw [hR]; simp) hlt hrep hpre hno
        refine wpOp_mono ?_ (wpOp_of_WL ho hh (fun t ht => hNt i hilt t (by rw [hdo]; exact ht)) h1)
        rintro a' w' ⟨v, rfl, hM', hdl'⟩
        have hm' := m.put hilt hdst (hNt i hilt) hpre hno v
        rw [← hdo]
        have hC' : ∀ j ∈ C, (if j = i then v else vals j) = c j := fun j hj => by
          have : j ≠ i := by rintro rfl; exact hiC hj
          rw [if_neg this]; exact hC j hj
        have hcr : ∀ j ∈ C ++ rd, vals j = (if j = i then v else vals j) := fun j hj => by
          have : j ≠ i := by rintro rfl; exact (List.mem_append.1 hj).elim hiC hird
          rw [if_neg this]
        refine ih _ _ w' w' (fun j => if j = i then v else vals j) (rd ++ [i]) post (by rw [hR]; simp) hm' hC' (fun j hj => ?_) (fun j hj => ?_) hM' (Chg.refl _ _) ?_ hf'
        · rw [hgs listed i j hil]; split
          · rfl
          · rename_i hne
            rcases List.mem_append.1 hj with hj | hj
            · exact hrd j hj
            · exact absurd (by simpa using hj) hne
        · have : j ≠ i := by
            rintro rfl
            have h5 : R.Nodup := (List.nodup_append.1 hnd).2.1
            rw [hR] at h5
            have := (List.nodup_append.1 h5).2.1
            exact (List.nodup_cons.1 this).1 hj
          rw [hgs listed i j hil, if_neg this]; exact hrs j (by simp [hj])
        · rw [henv _ (rd ++ [i]) hC', ← List.append_assoc, envAfter_append, ← envAfter_congr ops vals _ (C ++ rd) E0 hcr]
          simp only [envAfter, if_true]
          rw [hdo]
          exact hdl'
  refine wp_region_any hm ?_
  refine key ops.size _ a0 w.drew w.drew c [] R rfl ?_ (fun _ _ => rfl) (fun _ h => by cases h) (fun i hi => ?_) hK0 (Chg.refl _ _) hDL ?_
  · refine ⟨by simp, ha0.size, ha0.defs, fun i hi hl => ?_, fun t v ht _ => ha0.env t v ht, fun i hi hl => ?_⟩
    · simp [Array.getD_eq_getD_getElem?, hi] at hl
    · simp [Array.getD_eq_getD_getElem?, hi] at hl
  · have hi' := hlt i (by simp [hi])
    simp [Array.getD_eq_getD_getElem?, hi']
  · refine Nat.le_trans (List.length_filter_le _ _) (by simp)
theorem WC.draw {id : Nat} (M : Nat → Prop) (C R : List Nat) (hm : P.follows .mixedOrders = true) (hok : drawOk ops C R = true) (hN : ((List.range ops.size).all fun i => (dstOf ops i).all fun t => Nat.blt t N) = true) {w : World}
    (h0 : ∀ wd, Chg Nob w wd → wd.heap.size = w.heap.size → DQ P ops Q N (Chg M wd) wd R C E0) : WC P (.region id ops true) Q N E0 w :=
  WC.drawK (Chg M) C R hm hok hN (Chg.refl _ _) (fun _ _ _ h k => h.pure k) h0
/-- with something that stays true all along -/
theorem WC.drawJ {id : Nat} (M : Nat → Prop) (J : World → Prop) (hJp : ∀ a b, J a → Chg Nob a b → J b) (C R : List Nat) (hm : P.follows .mixedOrders = true) (hok : drawOk ops C R = true) (hN : ((List.range ops.size).all fun i => (dstOf ops i).all fun t => Nat.blt t N) = true) {w : World} (hJ : J w)
    (h0 : ∀ wd, Chg Nob w wd → wd.heap.size = w.heap.size → DQ P ops Q N (fun w' => Chg M wd w' ∧ J w') wd R C E0) : WC P (.region id ops true) Q N E0 w :=
  WC.drawK (fun wd w' => Chg M wd w' ∧ J w') C R hm hok hN ⟨Chg.refl _ _, hJp _ _ hJ (Chg.drew w)⟩ (fun _ _ _ h k => ⟨h.1.pure k, hJp _ _ h.2 k⟩) h0
end

section
variable {P : Program} {ops : Array Oper} {Q : Exit → Act → World → Prop} {N : Nat} {M : Nat → Prop} {K : World → Prop} {w0 w : World} {E E' : Env} {R is : List Nat} {i : Nat} {o : Oper}
theorem WX.one {d : Nat} {v : Value} {φ : Value → World → Prop} (h : φ v w) : WX (One (some d) φ) .normal N ((d, v) :: E) w :=
  fun a ha => ⟨rfl, ha.defs, v, fun t ht => by injection ht with ht; subst ht; exact ha.env _ _ (by simp), h⟩
theorem WX.one0 {v : Value} {φ : Value → World → Prop} (h : φ v w) : WX (One none φ) .normal N E w :=
  fun a ha => ⟨rfl, ha.defs, v, fun t ht => (by cases ht), h⟩
theorem sub_restr (hs : Sub E' E) (hk : (E'.all fun p => (looks ops i).contains p.1) = true) : Sub E' (restr ops i E) := by
  induction E' with
  | nil => trivial
  | cons p r ih =>
    obtain ⟨t, v⟩ := p
    simp only [Sub, List.all_cons, Bool.and_eq_true] at hs hk ⊢
    refine ⟨?_, ih hs.2 hk.2⟩
    have h1 := hs.1
    clear ih hs
    unfold restr
    induction E with
    | nil => simp at h1
    | cons q s ih2 =>
      obtain ⟨t2, v2⟩ := q
      simp only [List.lookup] at h1
      by_cases e : t = t2
      · subst e
        rw [List.filter_cons_of_pos (by simpa using hk.1)]
        simpa [List.lookup] using h1
      · have hne : (t == t2) = false := by simpa using e
        simp only [hne] at h1
        by_cases hc : (looks ops i).contains t2 = true
        · rw [List.filter_cons_of_pos (by simpa using hc)]
          simp only [List.lookup, hne]
          exact ih2 h1
        · rw [List.filter_cons_of_neg (by simpa using hc)]
          exact ih2 h1
theorem WL.sub {l : List Oper} (hs : Sub E' E) (h : WL P ops Q N l E' w) : WL P ops Q N l E w := fun a ha => h a (ha.sub hs)
theorem DQ.step {v : Value} (E' : Env) (ho : ops[i]? = some o) (hs : Sub E' E) (hk : (E'.all fun p => (looks ops i).contains p.1) = true)
    (h1 : ∀ w', K w' → WL P ops (One o.dst fun u w'' => u = v ∧ Chg Nob w' w'') N [o] E' w') (h2 : DQ P ops Q N K w0 R is (putE E o.dst v)) : DQ P ops Q N K w0 R (i :: is) E :=
  ⟨v, fun o' ho' w' hw => by rw [ho] at ho'; injection ho' with ho'; subst ho'; exact (h1 w' hw).sub (sub_restr hs hk), by rw [dstOf_eq ho]; exact h2⟩
theorem DQ.split {b : Bool} (E' : Env) (ho : ops[i]? = some o) (hs : Sub E' E) (hk : (E'.all fun p => (looks ops i).contains p.1) = true)
    (h1 : ∀ w', K w' → WL P ops (One o.dst fun u w'' => u = .bool b ∧ Chg Nob w' w'') N [o] E' w') (ht : b = true → DQ P ops Q N K w0 R is (putE E o.dst (.bool true))) (hf : b = false → DQ P ops Q N K w0 R is (putE E o.dst (.bool false))) : DQ P ops Q N K w0 R (i :: is) E :=
  DQ.step E' ho hs hk h1 (by
    cases b
    · exact hf rfl
    · exact ht rfl)
theorem DQ.done (h : Chg M w0 w0 → DL P ops Q N (Chg M w0) R E w0) : DQ P ops Q N (Chg M w0) w0 R [] E := h (Chg.refl _ _)
theorem DQ.doneJ {J : World → Prop} (h : Chg M w0 w0 → DL P ops Q N (fun w' => Chg M w0 w' ∧ J w') R E w0) : DQ P ops Q N (fun w' => Chg M w0 w' ∧ J w') w0 R [] E := h (Chg.refl _ _)
theorem DL.step (E' : Env) (ho : ops[i]? = some o) (hs : Sub E' E) (hk : (E'.all fun p => (looks ops i).contains p.1) = true)
    (h1 : ∀ w', Chg Nob w w' → WL P ops (One o.dst fun v w'' => K w'' ∧ DL P ops Q N K is (putE E o.dst v) w'') N [o] E' w') : DL P ops Q N K (i :: is) E w :=
  fun w' hw o' ho' => by rw [ho] at ho'; injection ho' with ho'; subst ho'; exact (h1 w' hw).sub (sub_restr hs hk)
theorem DL.done (h : ∀ w', Chg Nob w w' → WX Q .normal N E w') : DL P ops Q N K [] E w := h
end
end Go.HL
namespace Go.HL
open Go.RowKit

/-! more operations: the other side of a number, bits of ints, structs that are compared -/
section
variable {P : Program} {ops : Array Oper} {Q : Exit → Act → World → Prop} {N : Nat} {E : Env} {w : World} {rest : List Oper}
  {d : Nat} {ty : TypeId} {pos : String} {af : Array Edge} {t tb : TypeId} {x y : Operand}
theorem WL.neg64 {n : Int} (hx : ev E x = some (vi n)) (hb : -9223372036854775808 ≤ -n ∧ -n ≤ 9223372036854775807) (hd : Nat.blt d N = true) (h : WL P ops Q N rest ((d, vi (-n)) :: E) w) :
    WL P ops Q N (⟨some d, .unOp .neg t x, ty, pos, af, none⟩ :: rest) E w :=
  WL.run _ w (fun a ha => by simp [execOp, ev_eval ha hx, Op.unary, Op.intArith, wrap_i64 hb]) hd h
/-- a number without a sign that an int holds -/
theorem WL.c_u64_i64s {src dst : TypeId} {b : UInt64} {n : Nat} (hk : P.underlying src = some (.int .u64)) (ht : P.underlying dst = some (.int .i64)) (hx : ev E x = some (v64 b)) (hb : b.toNat = n ∧ n ≤ 9223372036854775807) (hd : Nat.blt d N = true) (h : WL P ops Q N rest ((d, vi n) :: E) w) : WL P ops Q N (⟨some d, .convert src dst x, ty, pos, af, none⟩ :: rest) E w :=
  WL.conv hk ht hx hd (by rw [wrap_i64 (by omega), hb.1]; exact h)
theorem WL.shrv {a : UInt64} {m : Int} (n : Nat) (hx : ev E x = some (v64 a)) (hy : ev E y = some (vi m)) (hm : m = (n : Int) ∧ n < 64) (hd : Nat.blt d N = true) (h : WL P ops Q N rest ((d, v64 (a >>> UInt64.ofNat n)) :: E) w) : WL P ops Q N (⟨some d, .binOp .shr t x y tb, ty, pos, af, none⟩ :: rest) E w :=
  WL.num hx hy (by rw [hm.1]; exact n_shr64 _ _ _ _ n hm.2) hd h
theorem WL.quo64i {m n : Int} (hx : ev E x = some (vi m)) (hy : ev E y = some (vi n)) (hb : 0 ≤ m ∧ m ≤ 9223372036854775807 ∧ 0 < n) (hd : Nat.blt d N = true) (h : WL P ops Q N rest ((d, vi (m / n)) :: E) w) : WL P ops Q N (⟨some d, .binOp .quo t x y tb, ty, pos, af, none⟩ :: rest) E w :=
  WL.quok hx hy (by omega) hd (by
    have e : m.tdiv n = m / n := Int.tdiv_eq_ediv_of_nonneg hb.1
    have h1 : 0 ≤ m / n := Int.ediv_nonneg hb.1 (by omega)
    have h2 : m / n ≤ m := Int.ediv_le_self _ hb.1
    rw [e, wrap_i64 (by omega)]
    exact h)
theorem WL.rem64i {m n : Int} (hx : ev E x = some (vi m)) (hy : ev E y = some (vi n)) (hb : 0 ≤ m ∧ 0 < n) (hd : Nat.blt d N = true) (h : WL P ops Q N rest ((d, vi (m % n)) :: E) w) : WL P ops Q N (⟨some d, .binOp .rem t x y tb, ty, pos, af, none⟩ :: rest) E w :=
  WL.remk hx hy (by omega) hd (by
    have e : m.tmod n = m % n := Int.tmod_eq_emod_of_nonneg hb.1
    rw [e]
    exact h)
theorem WL.aeql {xs ys : Array Value} {b : Bool} (hg : P.eqGuardType P.depth t = false) (he : ∀ w, (Op.equalIn 10000 t (.agg xs) (.agg ys)).run P w = .ok b w) (hx : ev E x = some (.agg xs)) (hy : ev E y = some (.agg ys)) (hd : Nat.blt d N = true) (h : WL P ops Q N rest ((d, .bool b) :: E) w) :
    WL P ops Q N (⟨some d, .binOp .eql t x y tb, ty, pos, af, none⟩ :: rest) E w :=
  WL.run _ w (fun a ha => by simp [execOp, ev_eval ha hx, ev_eval ha hy, run_eqGuard_agg _ _ _ _ _ _ _ hg, run_eql_struct, he]) hd h
end

/-! the fields of structs that are compared -/
section
variable {P : Program} {d : Nat} {xs ys : Array Value} {f : Field} {fs : List Field} {a b : Value} {r s : Bool} {w : World}
theorem eqf_nil : (Op.eqFields d xs ys []).run P w = .ok true w := by simp [Op.eqFields]
theorem eqf_cons (hn : (f.name == "_") = false) (ha : (part f.type xs f.offset).run P w = .ok a w) (hb : (part f.type ys f.offset).run P w = .ok b w) (he : (Op.equalIn d f.type a b).run P w = .ok r w) (hr : (Op.eqFields d xs ys fs).run P w = .ok s w) : (Op.eqFields d xs ys (f :: fs)).run P w = .ok (r && s) w := by
  have hn' : f.name ≠ "_" := by simpa using hn
  rw [Op.eqFields]
  simp only [if_pos hn', Sem.run_bind, ha, hb, he, Result.andThen_ok]
  cases r
  · simp
  · simpa using hr
theorem eqA_of {t : TypeId} {fs : Array Field} (hu : P.underlying t = some (.struct fs)) (hp : P.stoodInHeld t = false) (h : (Op.eqFields d xs ys fs.toList).run P w = .ok r w) : (Op.equalIn (d + 1) t (.agg xs) (.agg ys)).run P w = .ok r w := by
  have hf : P.fieldsOf t = fs := by simp [Program.fieldsOf, hu]
  rw [run_equalIn_struct (P := P) w d t xs ys (by rw [hf]; exact hu) hp, hf]
  exact h
theorem part1 {t : TypeId} {cs : List Value} {o : Nat} {v : Value} (hs : ∀ w, (sizeOf t).run P w = .ok 1 w) (hg : ∀ w, (isAgg t).run P w = .ok false w) (hv : cs[o]? = some v) : (part t cs.toArray o).run P w = .ok v w := by
  simp [part, hs, hg, hv]
end
end Go.HL
namespace Go.HL
open Go.RowKit
section
variable {P : Program} {ops : Array Oper} {Q : Exit → Act → World → Prop} {N : Nat} {E : Env} {w : World} {rest : List Oper}
  {d : Nat} {ty : TypeId} {pos : String} {af : Array Edge} {t tb : TypeId} {x y : Operand}
theorem WL.mini {k : IntKind} {m n : Int} {ats : Array TypeId} (hx : ev E x = some (.int k m)) (hy : ev E y = some (.int k n)) (hd : Nat.blt d N = true) (h : WL P ops Q N rest ((d, .int k (if n < m then n else m)) :: E) w) :
    WL P ops Q N (⟨some d, .call ⟨.builtin .min, #[x, y], ats⟩, ty, pos, af, none⟩ :: rest) E w :=
  WL.run _ w (fun c ha => by simp [execOp, resolve, invoke, builtin, ev_eval ha hx, ev_eval ha hy, run_min_int2]) hd h
end
end Go.HL
namespace Go.HL
open Go.RowKit
section
variable {P : Program} {ops : Array Oper} {Q : Exit → Act → World → Prop} {N : Nat} {E : Env} {w : World} {rest : List Oper}
  {d : Nat} {ty : TypeId} {pos : String} {af : Array Edge} {t tb : TypeId} {x y : Operand}
/-- a whole block is read -/
theorem WL.loadsB {e : TypeId} {b k : Nat} {cs : List Value} (ha : ∀ w, (isAgg t).run P w = .ok true w) (hs : ∀ w, (sizeOf t).run P w = .ok k w) (hb : Blk w b e cs) (hx : ev E x = some (.pointer (some ⟨b, 0, none⟩))) (hk : cs.length = k) (hd : Nat.blt d N = true) (h : WL P ops Q N rest ((d, .agg cs.toArray) :: E) w) :
    WL P ops Q N (⟨some d, .load t x, ty, pos, af, none⟩ :: rest) E w :=
  WL.loads cs ha hs hx (fun j v hj => by rw [Nat.zero_add]; exact hb.cell hj) hk hd h
variable {fn : Func} {R : Ending → World → Prop}
theorem run_loadVarB {T e : TypeId} {b k : Nat} {cs : List Value} (ha : ∀ w, (isAgg T).run P w = .ok true w) (hs : ∀ w, (sizeOf T).run P w = .ok k w) (hb : Blk w b e cs) (hk : cs.length = k) : (loadVar T ⟨b, 0, none⟩).run P w = .ok (.agg cs.toArray) w := by
  have hl := run_loadCells_list (P := P) w ⟨b, 0, none⟩ cs (fun j v hj => by rw [Addr.add_lit, Nat.zero_add]; exact hb.cell hj)
  rw [hk] at hl
  simp [loadVar, ha, hs, hl]
theorem WX.ret1c {x : Exit} (hx : x = .ret ∨ x = .normal) {t T e : TypeId} {b k : Nat} {cs : List Value} (h : fn.results = #[.cell t T]) (ha : ∀ w, (isAgg T).run P w = .ok true w) (hs : ∀ w, (sizeOf T).run P w = .ok k w) (hb : Blk w b e cs) (hv : E.lookup t = some (.pointer (some ⟨b, 0, none⟩))) (hk : cs.length = k)
    (hR : R (.returned (.agg cs.toArray)) w) : WX (bodyPost P fn R) x N E w :=
  WX.retOf hx _ (fun a hh => by
    have h1 := getD_of hh hv
    simp only [Array.getD_eq_getD_getElem?] at h1
    have h2 := run_loadVarB ha hs hb hk
    simp [results, h, h1, asAddr, h2]) hR
end
end Go.HL
namespace Go.HL
open Go.RowKit

/-! arrays, rows made of zeros, slices that are nil, marks -/
section
variable {P : Program} {ops : Array Oper} {Q : Exit → Act → World → Prop} {N : Nat} {E : Env} {w : World} {rest : List Oper}
  {d : Nat} {ty : TypeId} {pos : String} {af : Array Edge} {t tb T : TypeId} {x y : Operand} {α : Type} {e : Enc α} {S : Nat → Prop}
theorem WL.nilCheck {ad : Addr} (hx : ev E x = some (.pointer (some ad))) (hd : Nat.blt d N = true) (h : WL P ops Q N rest ((d, .pointer (some ad)) :: E) w) : WL P ops Q N (⟨some d, .nilCheck x, ty, pos, af, none⟩ :: rest) E w :=
  WL.run _ w (fun a ha => by simp [execOp, ev_eval ha hx]) hd h
/-- a place in an array of one-cell elements that begins its block -/
theorem WL.indexArr {b n : Nat} {k : IntKind} {i : Int} (j : Nat) (ht : P.underlying t = some (.array n T)) (hs : ∀ w, (sizeOf T).run P w = .ok 1 w) (hx : ev E x = some (.pointer (some ⟨b, 0, none⟩))) (hy : ev E y = some (.int k i)) (hi : i = (j : Int) ∧ j < n) (hd : Nat.blt d N = true)
    (h : WL P ops Q N rest ((d, .pointer (some ⟨b, j, none⟩)) :: E) w) : WL P ops Q N (⟨some d, .indexAddr t x y, ty, pos, af, none⟩ :: rest) E w :=
  WL.run _ w (fun a ha => by
    obtain ⟨rfl, hj⟩ := hi
    have h2 : ((j : Int) < (n : Int)) := by omega
    simp [execOp, ev_eval ha hx, ev_eval ha hy, Instr.indexAt, asIntOf, run_underlying ht, hs, Instr.sureAddr, hj, Addr.add_lit]) hd h
/-- an element of an array that is a value -/
theorem WL.indexV {n : Nat} {k : IntKind} {i : Int} {cs : List Value} {v : Value} (j : Nat) (ht : P.underlying t = some (.array n T)) (hs : ∀ w, (sizeOf T).run P w = .ok 1 w) (hg : ∀ w, (isAgg T).run P w = .ok false w) (hx : ev E x = some (.agg cs.toArray)) (hy : ev E y = some (.int k i)) (hi : i = (j : Int) ∧ j < n) (hv : cs[j]? = some v) (hd : Nat.blt d N = true)
    (h : WL P ops Q N rest ((d, v) :: E) w) : WL P ops Q N (⟨some d, .index t x y, ty, pos, af, none⟩ :: rest) E w :=
  WL.run _ w (fun a ha => by
    obtain ⟨rfl, hj⟩ := hi
    simp [execOp, ev_eval ha hx, ev_eval ha hy, Instr.index, asIntOf, run_underlying ht, hs, hg, part, hj, hv]) hd h
theorem WL.isNil {T : TypeId} {ao : Option Addr} {n c : Nat} (ht : P.underlying t = some (.slice T)) (hx : ev E x = some (.slice ao n c)) (hy : ev E y = some (.slice none 0 0)) (hd : Nat.blt d N = true) (h : WL P ops Q N rest ((d, .bool ao.isNone) :: E) w) :
    WL P ops Q N (⟨some d, .binOp .eql t x y tb, ty, pos, af, none⟩ :: rest) E w :=
  WL.run _ w (fun a ha => by simp [execOp, ev_eval ha hx, ev_eval ha hy, eqGuard, binOp, run_equal_slice_nil w t T ao n c ht]) hd h
theorem WL.isNil? {T : TypeId} {ao : Option Addr} {n c : Nat} (ht : P.underlying t = some (.slice T)) (hx : ev E x = some (.slice ao n c)) (hy : ev E y = some (.slice none 0 0)) (hd : Nat.blt d N = true) (hT : ao = none → WL P ops Q N rest ((d, .bool true) :: E) w) (hf : ao ≠ none → WL P ops Q N rest ((d, .bool false) :: E) w) :
    WL P ops Q N (⟨some d, .binOp .eql t x y tb, ty, pos, af, none⟩ :: rest) E w :=
  WL.isNil ht hx hy hd (by cases ao with
    | none => exact hT rfl
    | some a => exact hf (by simp))
/-- the complement -/
theorem WL.not32 {b : UInt32} (hx : ev E x = some (v32 b)) (hd : Nat.blt d N = true) (h : WL P ops Q N rest ((d, v32 (~~~b)) :: E) w) : WL P ops Q N (⟨some d, .unOp .xor t x, ty, pos, af, none⟩ :: rest) E w :=
  WL.run _ w (fun a ha => by
    have e1 : IntKind.u32.max = ((4294967295 : UInt32).toNat : Int) := by decide
    have e2 : (Op.intBits .xor .u32 ((4294967295 : UInt32).toNat : Int) (b.toNat : Int)).run P w = .ok (v32 ((4294967295 : UInt32) ^^^ b)) w := by
      have := n_xor32 (P := P) 0 w 4294967295 b
      simpa [binOp] using this
    have e3 : (4294967295 : UInt32) ^^^ b = ~~~b := by
      apply UInt32.toBitVec_inj.1
      show 4294967295#32 ^^^ b.toBitVec = ~~~b.toBitVec
      rw [← BitVec.allOnes_xor]
      rfl
    rw [e3] at e2
    have e4 : (Op.intBits .xor .u32 4294967295 (b.toNat : Int)).run P w = .ok (v32 (~~~b)) w := e2
    simp only [execOp, ev_eval ha hx, Op.unary, show IntKind.u32.signed = false from rfl, e1]
    simp [e4]) hd h
theorem WL.shl32v {a : UInt32} {m : Int} {k : IntKind} (n : Nat) (hx : ev E x = some (v32 a)) (hy : ev E y = some (.int k m)) (hm : m = (n : Int) ∧ n < 32) (hd : Nat.blt d N = true) (h : WL P ops Q N rest ((d, v32 (a <<< UInt32.ofNat n)) :: E) w) : WL P ops Q N (⟨some d, .binOp .shl t x y tb, ty, pos, af, none⟩ :: rest) E w :=
  WL.num hx hy (by rw [hm.1]; exact n_shl32 _ _ _ _ n hm.2) hd h
theorem WL.shr32v {a : UInt32} {m : Int} {k : IntKind} (n : Nat) (hx : ev E x = some (v32 a)) (hy : ev E y = some (.int k m)) (hm : m = (n : Int) ∧ n < 32) (hd : Nat.blt d N = true) (h : WL P ops Q N rest ((d, v32 (a >>> UInt32.ofNat n)) :: E) w) : WL P ops Q N (⟨some d, .binOp .shr t x y tb, ty, pos, af, none⟩ :: rest) E w :=
  WL.num hx hy (by rw [hm.1]; exact n_shr32 _ _ _ _ n hm.2) hd h
/-- a row of zeros -/
theorem make_cells (z : Array Value) (z0 : α) (n c : Nat) (hz : z.toList = e.f z0) (hnc : n ≤ c) : (madeCells z (c * e.sz)).toList.take (n * e.sz) = e.all (List.replicate n z0) := by
  have hsz : z.size = e.sz := by rw [← e.len z0, ← hz, Array.length_toList]
  have hp := e.pos
  apply List.ext_getElem?
  intro j
  have hlen : (e.all (List.replicate n z0)).length = n * e.sz := by rw [Enc.all_len]; simp
  by_cases hj : j < n * e.sz
  · have hjc : j < c * e.sz := Nat.lt_of_lt_of_le hj (Nat.mul_le_mul_right _ hnc)
    have hq : j % e.sz < e.sz := Nat.mod_lt _ hp
    have hd : j / e.sz < n := Nat.div_lt_of_lt_mul (by rw [Nat.mul_comm]; exact hj)
    have h1 := e.all_at (xs := List.replicate n z0) (j := j / e.sz) (x := z0) (by simp [hd]) hq
    rw [show j / e.sz * e.sz + j % e.sz = j from by rw [Nat.mul_comm]; exact Nat.div_add_mod j e.sz] at h1
    rw [h1, List.getElem?_take_of_lt hj]
    simp only [madeCells, Array.getElem?_toList, Array.getElem?_map, Array.getElem?_range, hjc, if_true, Option.map_some, hsz]
    have h2 : j % e.sz < z.size := by omega
    rw [← hz, Array.getElem?_toList, Array.getElem?_eq_getElem h2]
    simp [h2]
  · rw [List.getElem?_eq_none (by simp; omega), List.getElem?_eq_none (by omega)]
theorem WL.make {lo hi : Operand} {kl kc : IntKind} {l c : Int} {bytes : Nat} {z : Value} (z0 : α) (n m : Nat) (ht : P.underlying t = some (.slice T)) (hinfo : (P.info? T).map (fun i => (i.zero, i.size, i.bytes)) = some (some z, e.sz, bytes)) (hz : z.cells.toList = e.f z0)
    (hl : ev E lo = some (.int kl l)) (hc : ev E hi = some (.int kc c)) (hn : l = (n : Int) ∧ c = (m : Int) ∧ n ≤ m) (hb : bytes * m ≤ 140737488355328 ∧ m ≤ 9223372036854775807) (hd : Nat.blt d N = true)
    (h : ∀ g w', Row (w.heap.size ≤ ·) w' T e (some ⟨g, 0, none⟩) m (List.replicate n z0) → Chg Nob w w' → w'.heap.size = w.heap.size + 1 → g = w.heap.size → WL P ops Q N rest ((d, .slice (some ⟨g, 0, none⟩) (List.replicate n z0).length m) :: E) w') :
    WL P ops Q N (⟨some d, .makeSlice t lo hi, ty, pos, af, none⟩ :: rest) E w := by
  obtain ⟨i, hi1, h1, h2, h3⟩ := info_parts hinfo
  obtain ⟨rfl, rfl, hnm⟩ := hn
  have hbb : (bytes : Int) * (m : Int) ≤ 281474976710656 := by
    have : ((bytes * m : Nat) : Int) ≤ 281474976710656 := by omega
    rwa [Int.natCast_mul] at this
  have hr := run_make (P := P) w t T i z ht hi1 h1 kl kc (n : Int) (m : Int) (by omega) (by omega) (by rw [h3]; exact hbb) (by omega)
  simp only [Int.toNat_natCast, h2] at hr
  refine WL.run (.slice (some ⟨w.heap.size, 0, none⟩) n m) (w.alloc (.cells (madeCells z.cells (m * e.sz)) T)) (fun a ha => by simp [execOp, ev_eval ha hl, ev_eval ha hc, hr]) hd ?_
  have hsz : (madeCells z.cells (m * e.sz)).size = m * e.sz := by simp [madeCells]
  have := h w.heap.size (w.alloc (.cells (madeCells z.cells (m * e.sz)) T)) ⟨fun a ea => by injection ea with ea; subst ea; exact Nat.le_refl _, ?_⟩ (Chg.alloc _ _) (by simp) rfl
  · simpa using this
  · refine ⟨by rw [Enc.all_len], by simpa using hnm, .inr ⟨w.heap.size, _, (0, 0), rfl, ?_, ?_, ?_, hsz, ?_⟩⟩
    · show (w.heap.push _)[w.heap.size]? = _
      simp
    · intro j _ hh; omega
    · simpa [maxLen] using hb.2
    · rw [List.length_replicate]
      exact make_cells _ _ _ _ hz hnm
/-- bytes of the call's own turned to bytes: a mark is laid behind their end -/
theorem WL.mark {ao : Option Addr} {c : Nat} {xs : List UInt8} (ht : P.underlying t = some (.slice T)) (hT : P.underlying T = some (.int .u8)) (hr : Row S w T eb ao c xs) (hne : xs ≠ []) (hx : ev E x = some (.slice ao xs.length c)) (hd : Nat.blt d N = true)
    (h : ∀ w', RSl S w' eb ao c xs → Chg (fun b => Eqb ao b ∧ S b) w w' → w'.heap.size = w.heap.size → WL P ops Q N rest ((d, .slice ao xs.length c) :: E) w') :
    WL P ops Q N (⟨some d, .convert t t x, ty, pos, af, none⟩ :: rest) E w := by
  cases ao with
  | none => exact absurd hr.rsl.none_nil hne
  | some a =>
    rcases hr.own.2.2 with ⟨h0, _⟩ | ⟨g, cur, fr, ea, hg, hfr, hcm, hcs, htk⟩
    · cases h0
    · injection ea with ea
      subst ea
      have hsh : w.shape? g = some (T, cur.size) := by simp [World.shape?, hg]
      have hmark : (markStringish ⟨g, 0, none⟩).run P w = .ok () (w.freeze ⟨g, cur.size, none⟩ 1) := by
        simp [markStringish, hsh]
      have hfz : (w.freeze ⟨g, cur.size, none⟩ 1).heap[g]? = some (.cells cur T (if fr.1 == fr.2 then (cur.size, cur.size + 1) else (min fr.1 cur.size, max fr.2 (cur.size + 1)))) := by
        simp only [World.freeze]
        rw [if_neg (by decide)]
        simp only [Array.getElem?_modify, hg, if_true, Option.map_some]
      have hk : Chg (fun b => Eqb (some (⟨g, 0, none⟩ : Addr)) b ∧ S b) w (w.freeze ⟨g, cur.size, none⟩ 1) := by
        have hS : S g := hr.at_ _ rfl
        refine ⟨rfl, rfl, rfl, by simp [World.freeze], fun k hk hm => ?_⟩
        have hne : k ≠ g := fun e => hm ⟨⟨_, rfl, e⟩, e ▸ hS⟩
        simp only [World.freeze]
        rw [if_neg (by decide)]
        rw [Array.getElem?_modify, if_neg (fun e => hne e.symm)]
      refine WL.run _ (w.freeze ⟨g, cur.size, none⟩ 1) (fun a ha => ?_) hd (h _ ⟨fun _ => hr.at_, hr.own.cap, hr.own.1, fun j u hj => ?_⟩ hk (by simp [World.freeze]))
      · simp [execOp, ev_eval ha hx, convert, run_underlying ht, run_underlying hT, hmark]
      · obtain ⟨b, off, e1, hc⟩ := hr.rsl.sl.2 j u hj
        injection e1 with e1
        injection e1 with e1 e2
        subst e1; subst e2
        refine ⟨_, _, rfl, ?_⟩
        unfold World.cell? at hc ⊢
        simp only [hg, hfz] at hc ⊢
        exact hc
end
end Go.HL
namespace Go.HL
open Go.RowKit
section
variable {P : Program} {ops : Array Oper} {Q : Exit → Act → World → Prop} {N : Nat} {E : Env} {w : World} {rest : List Oper}
  {d : Nat} {ty : TypeId} {pos : String} {af : Array Edge} {t tb T : TypeId}
/-- an array whose elements are all written out, each of one cell -/
theorem WL.buildArr {n : Nat} {ps : List (Nat × Operand)} {z : Value} (vs : List Value) (ht : P.underlying t = some (.array n T)) (hs : ∀ w, (sizeOf T).run P w = .ok 1 w) (hz : ∀ w, (zeroValue t).run P w = .ok z w) (hzs : z.cells.size = n)
    (hx : evp E 0 ps = some vs) (hn : vs.length = n) (hv1 : ∀ v ∈ vs, v.cells = #[v]) (hd : Nat.blt d N = true)
    (h : WL P ops Q N rest ((d, .agg vs.toArray) :: E) w) : WL P ops Q N (⟨some d, .build t ps.toArray, ty, pos, af, none⟩ :: rest) E w :=
  WL.run _ w (fun a ha => by
    obtain ⟨h1, h2⟩ := evp_eval ha hx
    have hf := fill_enum 1 vs 0 z.cells (fun v hv => by rw [hv1 v hv]; rfl) (by rw [hzs, ← hn]; omega)
    have hflat : vs.flatMap (·.cells.toList) = vs := by
      clear hx hn h h2 h1 hf
      induction vs with
      | nil => rfl
      | cons v r ih => rw [List.flatMap_cons, hv1 v (by simp), ih (fun u hu => hv1 u (by simp [hu]))]; rfl
    rw [hflat] at hf
    simp only [Nat.zero_mul, List.take_zero, List.nil_append, Nat.mul_one] at hf
    simp [execOp, h1, Instr.build, hz, run_underlying ht, hs, hf]) hd h
theorem map_at {α β : Type} {xs : List α} {j : Nat} {x : α} (f : α → β) (h : xs[j]? = some x) : (xs.map f)[j]? = some (f x) := by simp [h]
end
end Go.HL
