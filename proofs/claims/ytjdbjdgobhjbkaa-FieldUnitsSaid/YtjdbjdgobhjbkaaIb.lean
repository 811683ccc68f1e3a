import Derived.Test.YtjdbjdgobhjbkaaHy
import Derived.Test.YtjdbjdgobhjbkaaIa
namespace Go.HL
open Go.RowKit
/-! what follows a piece of code is shown once; other ways out of it go on by themselves -/
def CutG {σ : Type} (Q : Exit → Act → World → Prop) (N : Nat) (Ef : σ → Env) (I : σ → World → Prop) : Exit → Act → World → Prop := fun x a w => (x = .normal ∧ ∃ s, Holds N (Ef s) a ∧ I s w) ∨ Q x a w
section
variable {P : Program} {Q : Exit → Act → World → Prop} {N : Nat} {E : Env} {w : World} {σ : Type} {Ef : σ → Env} {I : σ → World → Prop} {c : Code}
theorem WC.cutG (Ef : σ → Env) (I : σ → World → Prop) (htail : ∀ s w', I s w' → WX Q .normal N (Ef s) w') (hbody : WC P c (CutG Q N Ef I) N E w) : WC P c Q N E w := fun a ha => by
  refine Code.wp_mono ?_ (hbody a ha)
  rintro x a' w' (⟨rfl, s, hs, hI⟩ | h)
  · exact htail s w' hI a' hs
  · exact h
theorem WX.cutN (s : σ) (hs : Sub (Ef s) E) (hI : I s w) : WX (CutG Q N Ef I) .normal N E w := fun _ ha => .inl ⟨rfl, s, ha.sub hs, hI⟩
theorem WX.pass {x : Exit} (h : WX Q x N E w) : WX (CutG Q N Ef I) x N E w := fun a ha => .inr (h a ha)
end
/-- a row of the call's own, where another one has grown -/
def ApG (x y : Option Addr) : Prop := ∀ a b, x = some a → y = some b → a.block ≠ b.block
theorem ApG.symm {x y : Option Addr} (h : ApG x y) : ApG y x := fun a b ha hb e => h b a hb ha e.symm
theorem ApG.none (x : Option Addr) : ApG x none := fun _ _ _ h => by cases h
theorem ApG.eqb {a b : Option Addr} {x : Nat} (h : ApG a b) (h1 : Eqb a x) (h2 : Eqb b x) : False := by
  obtain ⟨p, rfl, e1⟩ := h1
  obtain ⟨q, rfl, e2⟩ := h2
  exact h p q rfl rfl (e1.symm.trans e2)
theorem ApG.grow {S' : Nat → Prop} {w w' : World} {a b b' : Option Addr} (h : ApG a b) (ha : At (· < w.heap.size) a) (g : Grow S' w b w' b') : ApG a b' := by
  rcases g.fr with e | e
  · rw [e]; exact h
  · intro p q hp hq e2
    have h1 := ha p hp
    have h2 := e q hq
    omega
theorem Row.otherG {α : Type} {e : Enc α} {S S' : Nat → Prop} {w w' : World} {T : TypeId} {c : Nat} {xs : List α} {a b b' : Option Addr} (h : Row S w T e a c xs) (hA : ApG a b) (g : Grow S' w b w' b') : Row S w' T e a c xs := by
  have h1 : Row (fun x => S x ∧ Eqb a x) w T e a c xs := ⟨fun p hp => ⟨h.at_ p hp, p, hp, rfl⟩, h.own⟩
  exact (h1.chg g.chg (fun x _ h2 h3 => hA.eqb h2.2 h3.1)).mono (fun x hx => hx.1)
end Go.HL
