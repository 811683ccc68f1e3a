import Derived.Test.YtgmkoieemmglpaaDl
import Derived.Test.YtgmkoieemmglpaaHy
namespace Go.Proofs.Ytgmkoieemmglpaa
open Go.RowKit Go.HL
theorem szNow {M : Nat → Prop} {w w' : World} (_ : Chg M w w') : ∃ n, n = w'.heap.size := ⟨_, rfl⟩

/-! how much a line holds -/
/-- how much a line holds -/
structure SmA (k : Nat) (L : LA) : Prop where
  snaps : L.snaps.length ≤ 4398046510976 + k
  dead : L.dead.length ≤ 3518437208780 + k
  inner : ∀ x ∈ L.snaps, x.2.length ≤ 3518437208780 + k
theorem SmA.sm {k : Nat} {l : LnV} (h : SmA k l.abs) : Sm k l := ⟨by rw [← sabs_len]; exact h.snaps, h.dead, fun x hx => h.inner (x.txg, x.dead) (List.mem_map.2 ⟨x, hx, rfl⟩)⟩
theorem Sm.sma {k : Nat} {l : LnV} (h : Sm k l) : SmA k l.abs := ⟨by show (sabs l.snaps).length ≤ _; rw [sabs_len]; exact h.snaps, h.dead, fun x hx => by
  obtain ⟨y, hy, rfl⟩ := List.mem_map.1 hx
  exact h.inner y hy⟩
theorem SmA.up {k m : Nat} {L : LA} (h : SmA k L) (hk : k ≤ m) : SmA m L := ⟨by have := h.snaps; omega, by have := h.dead; omega, fun x hx => by have := h.inner x hx; omega⟩
theorem SmA.zero (k : Nat) : SmA k LA.zero := ⟨Nat.zero_le _, Nat.zero_le _, fun x hx => by cases hx⟩
theorem KillR.sm {k : Nat} {L L' : LA} {p : PtV} {b : Bool} {e : Int} (h : KillR L p L' b e) (hs : SmA k L) : SmA (k + 1) L' := by
  rcases h with ⟨-, rfl, -⟩ | ⟨-, -, rfl, -⟩ | ⟨-, -, rfl, -⟩
  · exact SmA.zero _
  · exact hs.up (by omega)
  · exact ⟨by have := hs.snaps; show L.snaps.length ≤ _; omega, by have := hs.dead; show (L.dead ++ [p]).length ≤ _; simp; omega, fun x hx => by have := hs.inner x hx; omega⟩
theorem SnapR.sm {k : Nat} {L L' : LA} {t : Int} {e : Int} (h : SnapR L t L' e) (hs : SmA k L) : SmA (k + 1) L' := by
  rcases h with ⟨-, rfl, -⟩ | ⟨-, -, rfl, -⟩ | ⟨-, -, rfl, -⟩
  · exact SmA.zero _
  · exact SmA.zero _
  · refine ⟨by have := hs.snaps; show (L.snaps ++ [_]).length ≤ _; simp; omega, by show 0 ≤ _; omega, fun x hx => ?_⟩
    have hx : x ∈ L.snaps ++ [(t, L.dead)] := hx
    rcases List.mem_append.1 hx with hx | hx
    · have := hs.inner x hx; omega
    · have h3 := List.mem_singleton.1 hx
      subst h3
      have := hs.dead
      show L.dead.length ≤ _
      omega
end Go.Proofs.Ytgmkoieemmglpaa
