import Derived.Test.YtdjlfbadcijjaaaRo
import Derived.Test.YtdjlfbadcijjaaaRy
namespace Go.Proofs.Ytdjlfbadcijjaaa
open Go.ChangeShapes Go.WideShapes Go.RowKit Go.HL
section
variable {H : Type} {enc : TypeId × Value → H} {W : World}
theorem el_place (n : Nat) (cs : List Value) (y : DataW H × List MemPlace) (hl : cs.length = epv.sz) (_ : ∀ (q : Nat) (v : Value), cs[q]? = some v → True) (h : DataW.trod enc Try.prog W 0 (fun _ => true) true n 51 cs = some y) : ∃ x, cs = epv.f x ∧ True := by
  obtain ⟨xs, m, _, _, _, hx, hf⟩ := DataW.trod_struct Try.underlying51 h
  match cs, hl with
  | [c0, c1, c2, c3], _ =>
    match xs, hx with
    | [y0, y1, y2, y3], _ =>
      have f0 : DataW.trod enc Try.prog W 0 (fun _ => true) true m 3 (([c0, c1, c2, c3].drop 0).take (Try.prog.cellsOf 3)) = some y0 := hf 0 _ rfl
      have f1 : DataW.trod enc Try.prog W 0 (fun _ => true) true m 3 (([c0, c1, c2, c3].drop 1).take (Try.prog.cellsOf 3)) = some y1 := hf 1 _ rfl
      have f2 : DataW.trod enc Try.prog W 0 (fun _ => true) true m 3 (([c0, c1, c2, c3].drop 2).take (Try.prog.cellsOf 3)) = some y2 := hf 2 _ rfl
      have f3 : DataW.trod enc Try.prog W 0 (fun _ => true) true m 3 (([c0, c1, c2, c3].drop 3).take (Try.prog.cellsOf 3)) = some y3 := hf 3 _ rfl
      rw [show Try.prog.cellsOf 3 = 1 from by kernel_rfl] at f0 f1 f2 f3
      obtain ⟨k0, e0, _, w0⟩ := DataW.trod_int Try.underlying3 f0
      obtain ⟨k1, e1, _, w1⟩ := DataW.trod_int Try.underlying3 f1
      obtain ⟨k2, e2, _, w2⟩ := DataW.trod_int Try.underlying3 f2
      obtain ⟨k3, e3, _, w3⟩ := DataW.trod_int Try.underlying3 f3
      injection e0 with e0
      injection e1 with e1
      injection e2 with e2
      injection e3 with e3
      subst e0; subst e1; subst e2; subst e3
      exact ⟨⟨k0, k1, k2, k3⟩, rfl, trivial⟩
end
end Go.Proofs.Ytdjlfbadcijjaaa
