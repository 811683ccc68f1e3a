import Derived.Test.YtjdbjdgobhjbkaaGg
namespace Go.HL
open Go.RowKit
/-- rows of bytes that are gathered, one behind the other -/
structure CR (N n1 : Nat) (w : World) (T : TypeId) (ao : Option Addr) (c : Nat) (rs : List Rw) : Prop where
  outer : Row (fun x => N ≤ x ∧ x < n1) w T erow ao c rs
  inner : ∀ r ∈ rs, RSl (fun x => (N ≤ x ∧ x < n1) ∧ ¬ Eqb ao x) w eb r.ao r.cap r.xs
section
variable {N n1 : Nat} {w w' : World} {T : TypeId} {ao : Option Addr} {c : Nat} {rs : List Rw} {M : Nat → Prop}
theorem CR.nil (N n1 : Nat) (w : World) (T : TypeId) : CR N n1 w T none 0 [] := ⟨Row.nil _ _ _ _, fun r hr => by cases hr⟩
theorem CR.chg (h : CR N n1 w T ao c rs) (k : Chg M w w') (hd : ∀ x, N ≤ x ∧ x < n1 → M x → False) : CR N n1 w' T ao c rs :=
  ⟨h.outer.chg k (fun b _ hs hm => hd b hs hm), fun r hr => (h.inner r hr).chg k (fun b _ hs hm => hd b hs.1 hm)⟩
theorem CR.pure (h : CR N n1 w T ao c rs) (k : Chg Nob w w') : CR N n1 w' T ao c rs := h.chg k (fun _ _ x => x)
theorem CR.lift (h : CR N n1 w T ao c rs) {n2 : Nat} (hn : n1 ≤ n2) : CR N n2 w T ao c rs :=
  ⟨h.outer.mono (fun b hb => ⟨hb.1, by omega⟩), fun r hr => (h.inner r hr).mono (fun b hb => ⟨⟨hb.1.1, by omega⟩, hb.2⟩)⟩
/-- one more, which was made after all others -/
theorem CR.snoc (h : CR N n1 w T ao c rs) {r : Rw} (hr : RSl (fun x => n1 ≤ x ∧ x < w.heap.size) w eb r.ao r.cap r.xs) (hN : N ≤ n1) (hs : n1 ≤ w.heap.size) {ao2 : Option Addr} {c2 : Nat} (ho : Row (fun x => N ≤ x) w' T erow ao2 c2 (rs ++ [r])) (g : Grow (fun x => N ≤ x) w ao w' ao2) :
    CR N w'.heap.size w' T ao2 c2 (rs ++ [r]) := by
  have zs := g.chg.size
  have ho2 : Row (fun x => N ≤ x ∧ x < w'.heap.size) w' T erow ao2 c2 (rs ++ [r]) := ho.lt
  have hat : ∀ x, Eqb ao x → x < n1 := fun x e => (h.outer.at_.eqb e).2
  have hnew : ∀ x, x < w.heap.size → Eqb ao2 x → Eqb ao x := by
    intro x hx e
    rcases g.fr with e1 | e1
    · rw [← e1]; exact e
    · have := e1.eqb e
      omega
  refine ⟨ho2, fun q hq => ?_⟩
  rcases List.mem_append.1 hq with h1 | h1
  · refine (((h.inner q h1).lt).chg g.chg (fun b _ hb hm => hb.1.2 hm.1)).mono (fun b hb => ⟨⟨hb.1.1.1, by omega⟩, fun e => hb.1.2 (hnew b hb.2 e)⟩)
  · simp at h1
    subst h1
    refine (hr.chg g.chg (fun b _ hb hm => by have := hat b hm.1; omega)).mono (fun b hb => ⟨⟨by omega, by omega⟩, fun e => by have := hat b (hnew b hb.2 e); omega⟩)
theorem CR.read (h : CR N n1 w T ao c rs) : RS (fun _ => True) w ao c rs := ⟨h.outer.rsl.mono (fun _ _ => trivial), fun r hr => (h.inner r hr).mono (fun _ _ => trivial)⟩
end
/-! sums of columns -/
def xorL (a b : List UInt8) : List UInt8 := List.zipWith (fun x y => x ^^^ y) a b
theorem xorL_len {a b : List UInt8} (h : b.length = a.length) : (xorL a b).length = a.length := by rw [xorL, List.length_zipWith, h, Nat.min_self]
theorem xorL_at {a b : List UInt8} {k : Nat} {x y : UInt8} (hx : a[k]? = some x) (hy : b[k]? = some y) : (xorL a b)[k]? = some (x ^^^ y) := by rw [xorL, List.getElem?_zipWith, hx, hy]
def xorTo (a b : List UInt8) (k : Nat) : List UInt8 := (xorL a b).take k ++ a.drop k
theorem xorTo_len {a b : List UInt8} {k : Nat} (h : b.length = a.length) (hk : k ≤ a.length) : (xorTo a b k).length = a.length := by
  rw [xorTo, List.length_append, List.length_take, List.length_drop, xorL_len h]
  omega
theorem xorTo_at {a b : List UInt8} {k : Nat} (h : b.length = a.length) (hk : k < a.length) : ∃ x y, a[k]? = some x ∧ b[k]? = some y ∧ (xorTo a b k)[k]? = some x ∧ (xorTo a b k).set k (x ^^^ y) = xorTo a b (k + 1) := by
  have hp : a[k]? = some a[k] := List.getElem?_eq_getElem hk
  have hc : b[k]? = some b[k] := List.getElem?_eq_getElem (by omega)
  refine ⟨a[k], b[k], hp, hc, ?_, ?_⟩
  · rw [xorTo, List.getElem?_append_right (by rw [List.length_take]; omega), List.length_take, xorL_len h, Nat.min_eq_left (by omega), Nat.sub_self, List.getElem?_drop, Nat.add_zero, hp]
  · have hl : ((xorL a b).take k).length = k := by rw [List.length_take, xorL_len h]; omega
    rw [xorTo, xorTo, List.set_append_right _ _ (by omega), hl, Nat.sub_self, List.drop_eq_getElem_cons hk, List.set_cons_zero, List.take_add_one, xorL_at hp hc]
    simp
theorem xorTo_end {a b : List UInt8} (h : b.length = a.length) : xorTo a b a.length = xorL a b := by
  rw [xorTo, List.take_of_length_le (by rw [xorL_len h]; exact Nat.le_refl _), List.drop_length, List.append_nil]
/-- a parity's byte -/
def px (wt : Nat → UInt8) (cols : List (List UInt8)) (k : Nat) : Nat → UInt8
  | 0 => 0
  | i + 1 => px wt cols k i ^^^ mul (wt i) ((cols.getD i []).getD k 0)
theorem prow_at {wt : Nat → UInt8} {cols : List (List UInt8)} {n : Nat} (h : ∀ d ∈ cols, d.length = n) {k : Nat} (hk : k < n) : ∀ {i : Nat}, i ≤ cols.length → (prow wt cols n i)[k]? = some (px wt cols k i) := by
  intro i
  induction i with
  | zero => intro _; rw [prow, List.getElem?_replicate, if_pos hk]; rfl
  | succ i ih =>
    intro hi
    have h2 : (cols.getD i []).length = n := by
      rw [List.getD_eq_getElem?_getD, List.getElem?_eq_getElem (by omega)]
      exact h _ (List.getElem_mem _)
    have h3 : (cols.getD i [])[k]? = some ((cols.getD i []).getD k 0) := by
      rw [List.getD_eq_getElem?_getD (l := cols.getD i []), List.getElem?_eq_getElem (by omega)]
      rfl
    rw [prow, addRow_at (ih (by omega)) h3]
    rfl
theorem px_sum {wt : Nat → UInt8} {a b c : List (List UInt8)} {k m : Nat} (h : ∀ i, i < m → (c.getD i []).getD k 0 = (a.getD i []).getD k 0 ^^^ (b.getD i []).getD k 0) : ∀ {i : Nat}, i ≤ m → px wt c k i = px wt a k i ^^^ px wt b k i := by
  intro i
  induction i with
  | zero => intro _; show (0 : UInt8) = 0 ^^^ 0; decide
  | succ i ih =>
    intro hi
    rw [px, px, px, ih (by omega), h i (by omega), mul_xor, xor4]
end Go.HL
