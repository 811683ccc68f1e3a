import Derived.Test.YtjdbjdgobhjbkaaFa
/-! parities: plain laws -/
namespace Go.HL
/-- the one length of columns; -1: they have none -/
def lenC (cols : List (List UInt8)) : Int := match cols with
  | [] => -1
  | c :: _ => if (∀ d ∈ cols, d.length = c.length) ∧ 1 ≤ c.length ∧ c.length ≤ 4096 then (c.length : Int) else -1
theorem lenC_some {cols : List (List UInt8)} (h : 0 ≤ lenC cols) : ∃ n : Nat, lenC cols = (n : Int) ∧ 1 ≤ n ∧ n ≤ 4096 ∧ cols ≠ [] ∧ ∀ d ∈ cols, d.length = n := by
  unfold lenC at h ⊢
  split at h
  · omega
  · rename_i c r
    split at h
    · rename_i h1
      exact ⟨c.length, by rw [if_pos h1], h1.2.1, h1.2.2, by simp, h1.1⟩
    · omega
theorem lenC_of {cols : List (List UInt8)} {n : Nat} (hne : cols ≠ []) (h : ∀ d ∈ cols, d.length = n) : lenC cols = if 1 ≤ n ∧ n ≤ 4096 then (n : Int) else -1 := by
  unfold lenC
  split
  · exact absurd rfl hne
  · rename_i c r
    have hc : c.length = n := h c (by simp)
    by_cases h1 : 1 ≤ n ∧ n ≤ 4096
    · rw [if_pos h1, if_pos ⟨fun d hd => by rw [h d hd, hc], by omega, by omega⟩, hc]
    · rw [if_neg h1, if_neg (fun k => h1 ⟨by omega, by omega⟩)]
theorem lenC_bad {cols : List (List UInt8)} {c d : List UInt8} (hc : c ∈ cols) (hd : d ∈ cols) (h : c.length ≠ d.length) : lenC cols = -1 := by
  unfold lenC
  split
  · rfl
  · rename_i e r
    rw [if_neg]
    rintro ⟨h1, _⟩
    exact h (by rw [h1 c hc, h1 d hd])
theorem lenC_neg {cols : List (List UInt8)} (h : ¬ 0 ≤ lenC cols) : lenC cols = -1 := by
  unfold lenC at h ⊢
  split
  · rfl
  · rename_i c r
    simp only at h
    split
    · rename_i h1
      rw [if_pos h1] at h
      omega
    · rfl
/-- a multiple of a column is added -/
def addRow (acc col : List UInt8) (m : UInt8) : List UInt8 := List.zipWith (fun p c => p ^^^ mul m c) acc col
theorem addRow_len {acc col : List UInt8} {m : UInt8} (h : col.length = acc.length) : (addRow acc col m).length = acc.length := by rw [addRow, List.length_zipWith, h, Nat.min_self]
theorem addRow_at {acc col : List UInt8} {m p c : UInt8} {k : Nat} (hp : acc[k]? = some p) (hc : col[k]? = some c) : (addRow acc col m)[k]? = some (p ^^^ mul m c) := by
  rw [addRow, List.getElem?_zipWith, hp, hc]
/-- the first k places are done -/
def addTo' (acc col : List UInt8) (m : UInt8) (k : Nat) : List UInt8 := (addRow acc col m).take k ++ acc.drop k
theorem addTo'_len {acc col : List UInt8} {m : UInt8} {k : Nat} (h : col.length = acc.length) (hk : k ≤ acc.length) : (addTo' acc col m k).length = acc.length := by
  rw [addTo', List.length_append, List.length_take, List.length_drop, addRow_len h]
  omega
theorem addTo'_at {acc col : List UInt8} {m : UInt8} {k : Nat} (h : col.length = acc.length) (hk : k < acc.length) : ∃ p c, acc[k]? = some p ∧ col[k]? = some c ∧ (addTo' acc col m k)[k]? = some p ∧ (addTo' acc col m k).set k (p ^^^ mul m c) = addTo' acc col m (k + 1) := by
  have hp : acc[k]? = some acc[k] := List.getElem?_eq_getElem hk
  have hc : col[k]? = some col[k] := List.getElem?_eq_getElem (by omega)
  refine ⟨acc[k], col[k], hp, hc, ?_, ?_⟩
  · rw [addTo', List.getElem?_append_right (by rw [List.length_take]; omega), List.length_take, addRow_len h, Nat.min_eq_left (by omega), Nat.sub_self, List.getElem?_drop, Nat.add_zero, hp]
  · have hl : ((addRow acc col m).take k).length = k := by rw [List.length_take, addRow_len h]; omega
    rw [addTo', addTo', List.set_append_right _ _ (by omega), hl, Nat.sub_self, List.drop_eq_getElem_cons hk, List.set_cons_zero, List.take_add_one, addRow_at hp hc]
    simp
theorem addTo'_end {acc col : List UInt8} {m : UInt8} (h : col.length = acc.length) : addTo' acc col m acc.length = addRow acc col m := by
  rw [addTo', List.take_of_length_le (by rw [addRow_len h]; exact Nat.le_refl _), List.drop_length, List.append_nil]
/-- a parity of the first i columns -/
def prow (wt : Nat → UInt8) (cols : List (List UInt8)) (n : Nat) : Nat → List UInt8
  | 0 => List.replicate n 0
  | i + 1 => addRow (prow wt cols n i) (cols.getD i []) (wt i)
theorem prow_len {wt : Nat → UInt8} {cols : List (List UInt8)} {n : Nat} (h : ∀ d ∈ cols, d.length = n) : ∀ {i : Nat}, i ≤ cols.length → (prow wt cols n i).length = n := by
  intro i
  induction i with
  | zero => intro _; rw [prow, List.length_replicate]
  | succ i ih =>
    intro hi
    have h1 := ih (by omega)
    have h2 : (cols.getD i []).length = n := by
      rw [List.getD_eq_getElem?_getD, List.getElem?_eq_getElem (by omega)]
      exact h _ (List.getElem_mem _)
    rw [prow, addRow_len (by rw [h2, h1]), h1]
def wtq (q i : Nat) : UInt8 := if q = 0 then 1 else if q = 1 then G i else mul (G i) (G i)
end Go.HL
