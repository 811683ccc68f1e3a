import Derived.Test.YtjdbjdgobhjbkaaHw
import Derived.Test.YtjdbjdgobhjbkaaHu
namespace Go.HL
open Go.RowKit
/-! rows that are written, whatever they hold -/
/-- blocks of cells stay such, of the same size -/
def ShK (w w' : World) : Prop := ∀ (g : Nat) (cur : Array Value) (T : TypeId) (fr : Nat × Nat), w.heap[g]? = some (.cells cur T fr) → ∃ cur2 : Array Value, w'.heap[g]? = some (.cells cur2 T fr) ∧ cur2.size = cur.size
theorem ShK.refl (w : World) : ShK w w := fun _ cur _ _ h => ⟨cur, h, rfl⟩
theorem ShK.trans {a b c : World} (h : ShK a b) (k : ShK b c) : ShK a c := fun g cur T fr hg => by
  obtain ⟨c1, h1, e1⟩ := h g cur T fr hg
  obtain ⟨c2, h2, e2⟩ := k g c1 T fr h1
  exact ⟨c2, h2, e2.trans e1⟩
theorem Chg.shk {w w' : World} (h : Chg Nob w w') : ShK w w' := fun g cur T fr hg => ⟨cur, h.obj hg (fun x => x), rfl⟩
theorem ShK.set {w w' : World} {g : Nat} {cur cur2 : Array Value} {T : TypeId} {fr : Nat × Nat} (k : Chg (· = g) w w') (hg : w.heap[g]? = some (.cells cur T fr)) (hg2 : w'.heap[g]? = some (.cells cur2 T fr)) (hs : cur2.size = cur.size) : ShK w w' := fun b c1 T1 f1 hb => by
  by_cases e : b = g
  · subst e
    rw [hg] at hb
    injection hb with hb
    injection hb with e1 e2 e3
    subst e1; subst e2; subst e3
    exact ⟨cur2, hg2, hs⟩
  · exact ⟨c1, k.obj hb e, rfl⟩
/-- n elements at the head of a block of S may be written -/
def Wt (S : Nat → Prop) (w : World) (T : TypeId) (sz : Nat) (ao : Option Addr) (n : Nat) : Prop :=
  n = 0 ∨ ∃ (g : Nat) (cur : Array Value) (fr : Nat × Nat), ao = some ⟨g, 0, none⟩ ∧ S g ∧ w.heap[g]? = some (.cells cur T fr) ∧ (∀ j, j < cur.size → ¬ (fr.1 ≤ j ∧ j < fr.2)) ∧ n * sz ≤ cur.size
theorem Wt.keep {S : Nat → Prop} {w w' : World} {T : TypeId} {sz : Nat} {ao : Option Addr} {n : Nat} (h : Wt S w T sz ao n) (k : ShK w w') : Wt S w' T sz ao n := by
  rcases h with h | ⟨g, cur, fr, h1, h2, h3, h4, h5⟩
  · exact .inl h
  · obtain ⟨c2, h6, h7⟩ := k _ _ _ _ h3
    exact .inr ⟨g, c2, fr, h1, h2, h6, by rw [h7]; exact h4, by omega⟩
theorem Wt.mono {S S' : Nat → Prop} {w : World} {T : TypeId} {sz : Nat} {ao : Option Addr} {n : Nat} (h : Wt S w T sz ao n) (k : ∀ b, S b → S' b) : Wt S' w T sz ao n := by
  rcases h with h | ⟨g, cur, fr, h1, h2, h3⟩
  · exact .inl h
  · exact .inr ⟨g, cur, fr, h1, k _ h2, h3⟩
theorem Wt.chg {S M : Nat → Prop} {w w' : World} {T : TypeId} {sz : Nat} {ao : Option Addr} {n : Nat} (h : Wt S w T sz ao n) (k : Chg M w w') (hd : ∀ b, b < w.heap.size → S b → M b → False) : Wt S w' T sz ao n := by
  rcases h with h | ⟨g, cur, fr, h1, h2, h3, h4⟩
  · exact .inl h
  · exact .inr ⟨g, cur, fr, h1, h2, k.obj h3 (fun hm => hd g (Array.getElem?_eq_some_iff.1 h3).1 h2 hm), h4⟩
theorem Wt.lt {S : Nat → Prop} {w : World} {T : TypeId} {sz : Nat} {ao : Option Addr} {n : Nat} (h : Wt S w T sz ao n) : Wt (fun b => S b ∧ b < w.heap.size) w T sz ao n := by
  rcases h with h | ⟨g, cur, fr, h1, h2, h3, h4⟩
  · exact .inl h
  · exact .inr ⟨g, cur, fr, h1, ⟨h2, (Array.getElem?_eq_some_iff.1 h3).1⟩, h3, h4⟩
theorem Wt.pure {S : Nat → Prop} {w w' : World} {T : TypeId} {sz : Nat} {ao : Option Addr} {n : Nat} (h : Wt S w T sz ao n) (k : Chg Nob w w') : Wt S w' T sz ao n := h.keep k.shk
theorem Row.wt {α : Type} {e : Enc α} {S : Nat → Prop} {w : World} {T : TypeId} {ao : Option Addr} {c : Nat} {xs : List α} (h : Row S w T e ao c xs) : Wt S w T e.sz ao xs.length := by
  have hcap := h.own.cap
  rcases h.own.2.2 with ⟨rfl, rfl⟩ | ⟨g, cur, fr, rfl, hg, hfr, _, hsz, _⟩
  · exact .inl (by omega)
  · exact .inr ⟨g, cur, fr, rfl, h.at_ _ rfl, hg, hfr, by rw [hsz]; exact Nat.mul_le_mul_right _ hcap⟩
section
variable {P : Program} {ops : Array Oper} {Q : Exit → Act → World → Prop} {N : Nat} {E : Env} {w : World} {rest : List Oper} {ty : TypeId} {pos : String} {af : Array Edge}
theorem WL.storeW {t T : TypeId} {x y : Operand} {g o k : Nat} {vs : List Value} {cur : Array Value} {fr : Nat × Nat} (hs : ∀ w, (sizeOf t).run P w = .ok k w) (hg : w.heap[g]? = some (.cells cur T fr)) (hfr : ∀ j, j < cur.size → ¬ (fr.1 ≤ j ∧ j < fr.2))
    (hx : ev E x = some (.pointer (some ⟨g, o, none⟩))) (hy : ev E y = some (.agg vs.toArray)) (hk : vs.length = k) (h1 : ∀ u ∈ vs, u.oneCell' = true) (ho : o + k ≤ cur.size)
    (h : ∀ w', w'.heap.size = w.heap.size → Chg (· = g) w w' → ShK w w' → WL P ops Q N rest E w') :
    WL P ops Q N (⟨none, .store t x y, ty, pos, af, none⟩ :: rest) E w := by
  have hsame := setCells_same g T fr vs o w cur hg (by omega)
  have hch := setCells_chg g vs o w
  refine WL.run0 (w.setCells g o vs) (fun a hh => ?_) (h _ (setCells_sz _ _ _) hch (ShK.set hch hg hsame ?_))
  · have hst := run_storeCells_cells (P := P) g o vs 0 w (fun j hj => by
      rw [cell_of_row w g _ cur T fr hg, Array.getElem?_eq_getElem (by omega)]; rfl) (fun j hj => by
      have h3 := hfr (o + j) (by omega)
      simp only [World.frozen?, hg]
      simp
      intro hh
      exact Nat.le_of_not_lt (fun hlt => h3 ⟨hh, hlt⟩)) h1
    simp only [Nat.add_zero] at hst
    simp [execOp, ev_eval hh hx, ev_eval hh hy, Instr.storeAt, Instr.sureAddr, storeVar, hs, Value.cells, hk, hst]
  · simp only [List.size_toArray, List.length_append, List.length_take, List.length_drop, Array.length_toList]
    omega
/-- one cell of an element is written; blocks stay in shape -/
theorem WL.storeFS {α : Type} {e : Enc α} {S : Nat → Prop} {t T : TypeId} {x y : Operand} {g o c : Nat} {xs ys : List α} {v : Value} (hs : ∀ w, (sizeOf t).run P w = .ok 1 w) (hr : Row S w T e (some ⟨g, 0, none⟩) c xs) (hx : ev E x = some (.pointer (some ⟨g, o, none⟩))) (hy : ev E y = some v) (h1 : v.oneCell' = true)
    (ho : o + 1 ≤ xs.length * e.sz) (hl : ys.length = xs.length) (he : (e.all xs).take o ++ [v] ++ (e.all xs).drop (o + 1) = e.all ys)
    (h : ∀ w', w'.heap.size = w.heap.size → Row S w' T e (some ⟨g, 0, none⟩) c ys → Chg (· = g) w w' → ShK w w' → WL P ops Q N rest E w') :
    WL P ops Q N (⟨none, .store t x y, ty, pos, af, none⟩ :: rest) E w := by
  obtain ⟨h2, h3, h4⟩ := hr.splice (vs := [v]) ho hl he
  have hsh : ShK w (w.setCells g o [v]) := by
    obtain ⟨hat, hlen, hcap, hc | ⟨g', cur, fr, hg', hg, hfr, hmax, hsz, htk⟩⟩ := hr
    · cases hc.1
    · cases hg'
      have hcs : xs.length * e.sz ≤ c * e.sz := Nat.mul_le_mul_right _ hcap
      refine ShK.set (setCells_chg g [v] o w) hg (setCells_same g T fr [v] o w cur hg (by simp; omega)) ?_
      simp only [List.size_toArray, List.length_append, List.length_take, List.length_drop, Array.length_toList, List.length_cons, List.length_nil]
      omega
  refine WL.run0 (w.setCells g o [v]) (fun a hh => ?_) (h _ (setCells_sz _ _ _) h2 (setCells_chg g [v] o w) hsh)
  have hst := run_storeCells_cells (P := P) g o [v] 0 w (by simpa using h3) (by simpa using h4) (by simpa using h1)
  simp only [Nat.add_zero] at hst
  have hc1 : v.cells = #[v] := by cases v <;> simp_all [Value.oneCell', Value.cells]
  simp [execOp, ev_eval hh hx, ev_eval hh hy, Instr.storeAt, Instr.sureAddr, storeVar, hs, hc1, hst]
end
end Go.HL
