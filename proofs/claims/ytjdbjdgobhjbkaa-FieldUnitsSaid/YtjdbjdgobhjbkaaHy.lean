import Derived.Test.YtjdbjdgobhjbkaaHx
namespace Go.HL
open Go.RowKit
/-! what follows a piece of code is shown once -/
def CutPost {σ : Type} (N : Nat) (Ef : σ → Env) (I : σ → World → Prop) : Exit → Act → World → Prop := fun x a w => x = .normal ∧ ∃ s, Holds N (Ef s) a ∧ I s w
section
variable {P : Program} {Q : Exit → Act → World → Prop} {N : Nat} {E : Env} {w : World} {σ : Type} {Ef : σ → Env} {I : σ → World → Prop} {c : Code}
theorem WC.cutR (Ef : σ → Env) (I : σ → World → Prop) (htail : ∀ s w', I s w' → WX Q .normal N (Ef s) w') (hbody : WC P c (CutPost N Ef I) N E w) : WC P c Q N E w := fun a ha => by
  refine Code.wp_mono ?_ (hbody a ha)
  rintro x a' w' ⟨rfl, s, hs, hI⟩
  exact htail s w' hI a' hs
theorem Chg.here {w w' : World} (_ : Chg Nob w w') : Chg Nob w' w' := Chg.refl _ _
theorem WX.cut (s : σ) (hs : Sub (Ef s) E) (hI : I s w) : WX (CutPost N Ef I) .normal N E w := fun _ ha => ⟨rfl, s, ha.sub hs, hI⟩
end
end Go.HL
