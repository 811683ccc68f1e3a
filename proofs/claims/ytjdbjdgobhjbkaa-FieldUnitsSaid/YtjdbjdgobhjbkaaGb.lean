import Derived.Test.YtjdbjdgobhjbkaaHq
import Derived.Test.YtjdbjdgobhjbkaaGa
namespace Go.HL
open Go.RowKit
/-- rows of the call's own, each of one length, in blocks of their own -/
def orows (gs : List Nat) (n : Nat) (xss : List (List UInt8)) : List Rw := List.zipWith (fun g x => ⟨some ⟨g, 0, none⟩, n, x⟩) gs xss
structure OR (w : World) (T U : TypeId) (go k : Nat) (gs : List Nat) (n : Nat) (xss : List (List UInt8)) (tl : List Rw) : Prop where
  outer : Row (fun x => x = go) w T erow (some ⟨go, 0, none⟩) k (orows gs n xss ++ tl)
  inner : ∀ (i : Nat) (g : Nat) (x : List UInt8), gs[i]? = some g → xss[i]? = some x → Row (fun b => b = g) w U eb (some ⟨g, 0, none⟩) n x
  len : gs.length = xss.length
  apart : ∀ (i j : Nat) (g : Nat), gs[i]? = some g → gs[j]? = some g → i = j
  above : ∀ (i g : Nat), gs[i]? = some g → go < g
section
variable {w w' : World} {T U : TypeId} {go k n : Nat} {gs : List Nat} {xss : List (List UInt8)} {tl : List Rw} {M : Nat → Prop}
theorem OR.chg (h : OR w T U go k gs n xss tl) (c : Chg M w w') (hd : ¬ M go ∧ ∀ (i g : Nat), gs[i]? = some g → ¬ M g) : OR w' T U go k gs n xss tl :=
  ⟨h.outer.chg c (fun b _ e m => hd.1 (e ▸ m)), fun i g x hg hx => (h.inner i g x hg hx).chg c (fun b _ e m => hd.2 i g hg (e ▸ m)), h.len, h.apart, h.above⟩
theorem OR.pure (h : OR w T U go k gs n xss tl) (c : Chg Nob w w') : OR w' T U go k gs n xss tl := h.chg c ⟨fun x => x, fun _ _ _ x => x⟩
theorem orows_at {i g : Nat} {x : List UInt8} (hg : gs[i]? = some g) (hx : xss[i]? = some x) : (orows gs n xss ++ tl)[i]? = some ⟨some ⟨g, 0, none⟩, n, x⟩ := by
  have h1 : (orows gs n xss)[i]? = some ⟨some ⟨g, 0, none⟩, n, x⟩ := by rw [orows, List.getElem?_zipWith, hg, hx]
  rw [List.getElem?_append_left (List.getElem?_eq_some_iff.1 h1).1, h1]
theorem orows_len (h : gs.length = xss.length) : (orows gs n xss).length = gs.length := by rw [orows, List.length_zipWith, ← h, Nat.min_self]
/-- one row has turned -/
theorem OR.upd (h : OR w T U go k gs n xss tl) {r g : Nat} {x x' : List UInt8} (hg : gs[r]? = some g) (hx : xss[r]? = some x) (hl : x'.length = x.length) (c : Chg M w w') (hd : ¬ M go ∧ ∀ (i g' : Nat), gs[i]? = some g' → i ≠ r → ¬ M g')
    (hr : Row (fun b => b = g) w' U eb (some ⟨g, 0, none⟩) n x') : OR w' T U go k gs n (xss.set r x') tl := by
  have hrl : r < xss.length := (List.getElem?_eq_some_iff.1 hx).1
  refine ⟨?_, fun i g' y hg' hy => ?_, by rw [List.length_set]; exact h.len, h.apart, h.above⟩
  · have h1 := h.outer.chg c (fun b _ e m => hd.1 (e ▸ m))
    have e1 : erow.all (orows gs n (xss.set r x')) = erow.all (orows gs n xss) := by
      have : ∀ (gs : List Nat) (ys : List (List UInt8)) (r : Nat), (∀ y, ys[r]? = some y → x'.length = y.length) → erow.all (orows gs n (ys.set r x')) = erow.all (orows gs n ys) := by
        intro gs
        induction gs with
        | nil => intro ys r _; simp [orows]
        | cons g gs ih =>
          intro ys r hy
          cases ys with
          | nil => simp
          | cons y ys =>
            cases r with
            | zero =>
              have := hy y rfl
              simp [orows, Enc.all, erow, this]
            | succ r =>
              have := ih ys r (fun z hz => hy z (by simpa using hz))
              simp only [Enc.all, orows] at this
              simp [orows, Enc.all, this]
      exact this gs xss r (fun y hy => by rw [hx] at hy; injection hy with hy; rw [← hy]; exact hl)
    have e2 : (orows gs n (xss.set r x') ++ tl).length = (orows gs n xss ++ tl).length := by simp [orows]
    exact ⟨h1.at_, by rw [Enc.all_append, e1, ← Enc.all_append, e2]; exact h1.own⟩
  · by_cases hir : i = r
    · subst hir
      rw [hg] at hg'
      injection hg' with hg'
      subst hg'
      rw [List.getElem?_set_self hrl] at hy
      injection hy with hy
      subst hy
      exact hr
    · rw [List.getElem?_set_ne (fun e => hir e.symm)] at hy
      exact (h.inner i g' y hg' hy).chg c (fun b _ e m => hd.2 i g' hg' hir (e ▸ m))
/-- one row more -/
theorem OR.snoc {z : Rw} (h : OR w T U go k gs n xss (z :: tl)) {g : Nat} {x : List UInt8} (hgo : go < g) (hnew : ∀ (i g' : Nat), gs[i]? = some g' → g' < g) (c : Chg M w w') (hd : ∀ (i g' : Nat), gs[i]? = some g' → ¬ M g')
    (ho : Row (fun b => b = go) w' T erow (some ⟨go, 0, none⟩) k ((orows gs n xss ++ z :: tl).set gs.length ⟨some ⟨g, 0, none⟩, n, x⟩)) (hr : Row (fun b => b = g) w' U eb (some ⟨g, 0, none⟩) n x) : OR w' T U go k (gs ++ [g]) n (xss ++ [x]) tl := by
  have hl := h.len
  have hsplit : ∀ (i g' : Nat), (gs ++ [g])[i]? = some g' → gs[i]? = some g' ∨ i = gs.length ∧ g' = g := by
    intro i g' h1
    rcases Nat.lt_or_ge i gs.length with h2 | h2
    · rw [List.getElem?_append_left h2] at h1; exact .inl h1
    · rw [List.getElem?_append_right h2] at h1
      have h3 := (List.getElem?_eq_some_iff.1 h1).1
      simp at h3
      have h4 : i - gs.length = 0 := by omega
      rw [h4] at h1
      simp at h1
      exact .inr ⟨by omega, h1.symm⟩
  refine ⟨?_, fun i g' y hg' hy => ?_, by simp [hl], fun i j g' h1 h2 => ?_, fun i g' h1 => ?_⟩
  · have e : (orows gs n xss ++ z :: tl).set gs.length ⟨some ⟨g, 0, none⟩, n, x⟩ = orows (gs ++ [g]) n (xss ++ [x]) ++ tl := by
      have ol := orows_len (n := n) hl
      rw [List.set_append_right _ _ (by omega), ol, Nat.sub_self, List.set_cons_zero, orows, orows, List.zipWith_append hl]
      simp
    rw [e] at ho
    exact ho
  · rcases hsplit i g' hg' with h1 | ⟨h1, h2⟩
    · have hil := (List.getElem?_eq_some_iff.1 h1).1
      rw [List.getElem?_append_left (by omega)] at hy
      exact (h.inner i g' y h1 hy).chg c (fun b _ e m => hd i g' h1 (e ▸ m))
    · subst h1; subst h2
      rw [List.getElem?_append_right (by omega), hl, Nat.sub_self] at hy
      simp at hy
      subst hy
      exact hr
  · rcases hsplit i g' h1 with h3 | ⟨h3, h3'⟩ <;> rcases hsplit j g' h2 with h4 | ⟨h4, h4'⟩
    · exact h.apart i j g' h3 h4
    · have := hnew i g' h3; omega
    · have := hnew j g' h4; omega
    · omega
  · rcases hsplit i g' h1 with h3 | ⟨h3, h3'⟩
    · exact h.above i g' h3
    · omega
/-- as rows that are read -/
theorem OR.rs (h : OR w T U go k gs n xss []) {S : Nat → Prop} (hgo : S go) (hgs : ∀ (i g : Nat), gs[i]? = some g → S g) : RS S w (some ⟨go, 0, none⟩) k (orows gs n xss) := by
  have ho := h.outer
  rw [List.append_nil] at ho
  refine ⟨ho.rsl.mono (fun b e => e ▸ hgo), fun r hr => ?_⟩
  obtain ⟨i, hi⟩ := List.getElem?_of_mem hr
  rw [orows, List.getElem?_zipWith] at hi
  split at hi
  · rename_i g x hg hx
    injection hi with hi
    subst hi
    exact (h.inner i g x hg hx).rsl.mono (fun b e => e ▸ hgs i g hg)
  · cases hi
end
end Go.HL
namespace Go.HL
open Go.RowKit
section
variable {w w' : World} {T U : TypeId} {go k n : Nat} {gs : List Nat} {xss : List (List UInt8)} {tl : List Rw}
theorem OR.lt (h : OR w T U go k gs n xss tl) {i g : Nat} (hg : gs[i]? = some g) : g < w.heap.size := by
  have hi := (List.getElem?_eq_some_iff.1 hg).1
  obtain ⟨x, hx⟩ : ∃ x, xss[i]? = some x := ⟨_, List.getElem?_eq_getElem (by rw [← h.len]; exact hi)⟩
  exact (h.inner i g x hg hx).own.lt _ rfl
theorem OR.lto (h : OR w T U go k gs n xss tl) : go < w.heap.size := h.outer.own.lt _ rfl
end
/-- the rows with a multiple of a column added, the first r of them -/
def updR (ys : List (List UInt8)) (col : List UInt8) (i : Nat) : Nat → List (List UInt8)
  | 0 => ys
  | r + 1 => (updR ys col i r).set r (addRow (ys.getD r []) col (wtq r i))
theorem updR_len (ys : List (List UInt8)) (col : List UInt8) (i r : Nat) : (updR ys col i r).length = ys.length := by
  induction r with
  | zero => rfl
  | succ r ih => rw [updR, List.length_set, ih]
theorem updR_at (ys : List (List UInt8)) (col : List UInt8) (i : Nat) : ∀ (r j : Nat), r ≤ j → (updR ys col i r)[j]? = ys[j]? := by
  intro r
  induction r with
  | zero => intro j _; rfl
  | succ r ih =>
    intro j hj
    rw [updR, List.getElem?_set_ne (by omega), ih j (by omega)]
def three (cols : List (List UInt8)) (n i : Nat) : List (List UInt8) := [prow (wtq 0) cols n i, prow (wtq 1) cols n i, prow (wtq 2) cols n i]
theorem three_next (cols : List (List UInt8)) (n i : Nat) : updR (three cols n i) (cols.getD i []) i 3 = three cols n (i + 1) := rfl
end Go.HL
