import Derived.Test.YtgmkoieemmglpaaEl6
import Derived.Test.YtgmkoieemmglpaaRows
namespace Go.Proofs.Ytgmkoieemmglpaa
open Go.ChangeShapes Go.WideShapes Go.ChangeAt Go.RowKit Go.Deep Go.HL
/-! what a bound on the bulk gives -/
theorem bulk_one {H : Type} (d : DataW H) : 1 ≤ Rows.uptoBulk d := by
  cases d with
  | lit l => cases l <;> simp [Rows.uptoBulk]
  | nil => simp [Rows.uptoBulk]
  | ptr d => simp [Rows.uptoBulk]
  | slice elems spare => simp [Rows.uptoBulk]
  | agg parts => simp [Rows.uptoBulk]
  | iface t d => simp [Rows.uptoBulk]
  | map entries => simp [Rows.uptoBulk]
  | held h => simp [Rows.uptoBulk]
theorem bulk_at {H : Type} {d : DataW H} : ∀ {l : List (DataW H)} {i : Nat}, l[i]? = some d → Rows.uptoBulk d ≤ Rows.uptoBulkAll l
  | [], i, h => by simp at h
  | c :: r, 0, h => by
    simp at h
    subst h
    simp only [Rows.uptoBulkAll]
    omega
  | c :: r, i + 1, h => by
    have := bulk_at (l := r) (i := i) (by simpa using h)
    simp only [Rows.uptoBulkAll]
    omega
theorem bulk_len {H : Type} : ∀ (l : List (DataW H)), l.length ≤ Rows.uptoBulkAll l
  | [] => by simp [Rows.uptoBulkAll]
  | c :: r => by
    have h1 := bulk_one c
    have h2 := bulk_len r
    simp only [Rows.uptoBulkAll, List.length_cons]
    omega
section
variable {H : Type} {W : World}
theorem bulk_Len {α : Type} {d : DataW H} {xs : List α} (h : Len d xs) : xs.length ≤ Rows.uptoBulk d := by
  rcases h with ⟨_, h⟩ | ⟨el, sp, rfl, h⟩
  · rw [h]; exact Nat.zero_le _
  · have := bulk_len el
    simp only [Rows.uptoBulk]
    omega
theorem upto_of {α : Type} {d : DataW H} {xs : List α} (h : d = .nil ∧ xs = [] ∨ ∃ el sp, d = .slice el sp ∧ xs.length = el.length) (hb : Rows.uptoBulk d ≤ 1048576) : xs.length ≤ 1048576 := Nat.le_trans (bulk_Len h) hb
theorem upto_line {d : DataW H} {l : LnV} (h : LnOf W l d) (hb : Rows.uptoBulk d ≤ 1048576) : l.snaps.length ≤ 1048576 ∧ l.dead.length ≤ 1048576 ∧ ∀ x ∈ l.snaps, x.dead.length ≤ 1048576 := by
  obtain ⟨parts, da, dd, rfl, h1, h2, h3, h4⟩ := h.datum
  have hp : Rows.uptoBulkAll parts ≤ 1048576 := by
    simp only [Rows.uptoBulk] at hb
    omega
  have hda := Nat.le_trans (bulk_at h1) hp
  refine ⟨?_, Nat.le_trans (bulk_Len h3) (Nat.le_trans (bulk_at h2) hp), fun x hx => ?_⟩
  · rcases h4 with ⟨_, h4⟩ | ⟨el, sp, rfl, h4, _⟩
    · rw [h4]; exact Nat.zero_le _
    · have := bulk_len el
      simp only [Rows.uptoBulk] at hda
      omega
  · rcases h4 with ⟨_, h4⟩ | ⟨el, sp, rfl, h4, h5⟩
    · rw [h4] at hx; cases hx
    · obtain ⟨i, hil, rfl⟩ := List.getElem_of_mem hx
      obtain ⟨d, h6, hO⟩ := h5 i _ (List.getElem?_eq_getElem hil)
      obtain ⟨p2, dp, rfl, h7, h8⟩ := hO.datum
      have e1 := bulk_at h6
      have e2 := bulk_at h7
      have e3 := bulk_Len h8
      simp only [Rows.uptoBulk] at hda e1
      omega
end
end Go.Proofs.Ytgmkoieemmglpaa
