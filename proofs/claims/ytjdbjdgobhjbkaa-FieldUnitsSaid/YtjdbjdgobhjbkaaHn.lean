import Derived.Test.YtjdbjdgobhjbkaaHm
namespace Go.HL
open Go.RowKit
section
variable {P : Program} (t : TypeId) (w : World)
theorem n_quo8 (a b : UInt8) (hb : b.toNat ≠ 0) : (binOp .quo t (v8 a) (v8 b)).run P w = .ok (v8 (a / b)) w := by
  have : ¬ ((b.toNat : Int) = 0) := by omega
  have h2 : ((a.toNat : Int).tdiv (b.toNat : Int)) = ((a.toNat / b.toNat : Nat) : Int) := rfl
  have h3 : (UInt8.ofNat (a.toNat / b.toNat)) = a / b := by
    apply UInt8.toNat_inj.1
    simp
    exact Nat.lt_of_le_of_lt (Nat.div_le_self _ _) a.toNat_lt
  simp only [binOp, Op.intDiv, if_neg this, h2, wrap8, h3]; simp
theorem n_rem8 (a b : UInt8) (hb : b.toNat ≠ 0) : (binOp .rem t (v8 a) (v8 b)).run P w = .ok (v8 (a % b)) w := by
  have : ¬ ((b.toNat : Int) = 0) := by omega
  simp only [binOp, Op.intDiv, if_neg this]; simp [this]
  congr 2
end
section
variable {P : Program} {ops : Array Oper} {Q : Exit → Act → World → Prop} {N : Nat} {E : Env} {w : World} {rest : List Oper} {ty : TypeId} {pos : String} {af : Array Edge} {α : Type} {e : Enc α} {S : Nat → Prop} {t T : TypeId} {x y : Operand}
theorem all_set (e : Enc α) (h1 : e.sz = 1) {z : α} {v : Value} (hz : e.f z = [v]) : ∀ (xs : List α) (j : Nat), e.all (xs.set j z) = (e.all xs).set j v
  | [], j => by simp [Enc.all]
  | x :: r, 0 => by
    have hl := e.len x
    rw [h1] at hl
    obtain ⟨u, hu⟩ := List.length_eq_one_iff.1 hl
    simp [Enc.all, hz, hu]
  | x :: r, j + 1 => by
    have hl := e.len x
    rw [h1] at hl
    obtain ⟨u, hu⟩ := List.length_eq_one_iff.1 hl
    have ih := all_set e h1 hz r j
    simp only [Enc.all] at ih
    simp [Enc.all, hu, ih]
theorem Row.place0 {T : TypeId} {ao : Option Addr} {c : Nat} {xs : List α} {j : Nat} (hr : Row S w T e ao c xs) (hz : j < xs.length) : ∃ g, ao = some ⟨g, 0, none⟩ := by
  rcases hr.own.2.2 with ⟨rfl, _⟩ | ⟨g, _, _, rfl, _⟩
  · have := hr.rsl.none_nil
    subst this
    simp at hz
  · exact ⟨g, rfl⟩
theorem WL.storeRow {g o c : Nat} {xs : List α} {z : α} {v : Value} (j : Nat) (hs : ∀ w, (sizeOf t).run P w = .ok 1 w) (hr : Row S w T e (some ⟨g, 0, none⟩) c xs) (h1 : e.sz = 1) (hz : e.f z = [v]) (hx : ev E x = some (.pointer (some ⟨g, o, none⟩))) (ho : o = j) (hj : j < xs.length) (hy : ev E y = some v)
    (h : ∀ w', w'.heap.size = w.heap.size → Row S w' T e (some ⟨g, 0, none⟩) c (xs.set j z) → Chg (· = g) w w' → WL P ops Q N rest E w') :
    WL P ops Q N (⟨none, .store t x y, ty, pos, af, none⟩ :: rest) E w := by
  subst ho
  have hv1 : v.oneCell' = true := e.one z v (by rw [hz]; simp)
  have hr' := hr
  obtain ⟨hat, hlen, hcap, hc | ⟨g', cur, fr, hg', hg, hfr, hmax, hsz, htk⟩⟩ := hr
  · cases hc.1
  · cases hg'
    rw [h1] at hsz htk hlen
    simp only [Nat.mul_one] at hsz htk hlen
    have hoc : o < cur.size := by omega
    refine WL.run0 (w.setCell ⟨g, o, none⟩ v) (fun a hh => by
      have hst : (Go.store ⟨g, o, none⟩ v).run P w = .ok () (w.setCell ⟨g, o, none⟩ v) := by
        rw [run_store P w _ v _ hv1]
        have h3 := hfr o hoc
        have hcell : w.cell? ⟨g, o, none⟩ = some (cur[o]'hoc) := by rw [cell_of_row w g o cur T fr hg, Array.getElem?_eq_getElem hoc]
        have hfz : w.frozen? ⟨g, o, none⟩ = false := by
          simp only [World.frozen?, hg]
          simp
          intro hh
          exact Nat.le_of_not_lt (fun hlt => h3 ⟨hh, hlt⟩)
        simp [hcell, hfz]
      have hc1 : v.cells = #[v] := by cases v <;> simp_all [Value.oneCell', Value.cells]
      simp [execOp, ev_eval hh hx, ev_eval hh hy, Instr.storeAt, Instr.sureAddr, storeVar, hs, hc1, storeCells, Addr.add_lit, hst]) (h _ (by simp) ?_ (Chg.setCell w ⟨g, o, none⟩ v))
    have hnew : (w.setCell ⟨g, o, none⟩ v).heap[g]? = some (.cells (cur.setIfInBounds o v) T fr) := by
      simp only [World.setCell, Array.getElem?_modify, hg, if_true, Option.map_some]
      simp
    refine ⟨hat, by rw [all_set e h1 hz, List.length_set, List.length_set, h1, Nat.mul_one]; exact hlen, by simpa using hcap, .inr ⟨g, cur.setIfInBounds o v, fr, rfl, hnew, by simpa using hfr, hmax, by rw [h1, Nat.mul_one]; simpa using hsz, ?_⟩⟩
    rw [all_set e h1 hz, h1, List.length_set, Nat.mul_one, ← htk, Array.toList_setIfInBounds, List.take_set]
end
end Go.HL
