import Derived.Test.YtgmkoieemmglpaaRq
import Derived.Test.YtgmkoieemmglpaaEb
namespace Go.Proofs.Ytgmkoieemmglpaa
open Go.ChangeShapes Go.WideShapes Go.ChangeAt Go.RowKit Go.Deep Go.HL
section
variable {H : Type} {enc : TypeId × Value → H} {W : World}
theorem el_opv (n : Nat) (cs : List Value) (y : DataW H × List MemPlace) (hl : cs.length = eop2.sz) (_ : ∀ (q : Nat) (v : Value), cs[q]? = some v → True) (h : DataW.trod enc Try.prog W 0 (fun _ => true) true n 59 cs = some y) : ∃ x, cs = eop2.f x ∧ True := by
  obtain ⟨xs, m, _, _, _, hx, hf⟩ := DataW.trod_struct Try.underlying59 h
  match cs, hl with
  | [c0, c1], _ =>
    match xs, hx with
    | [y0, y1], _ =>
      have f0 : DataW.trod enc Try.prog W 0 (fun _ => true) true m 3 (([c0, c1].drop 0).take (Try.prog.cellsOf 3)) = some y0 := hf 0 _ rfl
      have f1 : DataW.trod enc Try.prog W 0 (fun _ => true) true m 3 (([c0, c1].drop 1).take (Try.prog.cellsOf 3)) = some y1 := hf 1 _ rfl
      rw [show Try.prog.cellsOf 3 = 1 from by kernel_rfl] at f0 f1
      obtain ⟨k0, e0, _, _⟩ := DataW.trod_int Try.underlying3 f0
      obtain ⟨k1, e1, _, _⟩ := DataW.trod_int Try.underlying3 f1
      injection e0 with e0
      injection e1 with e1
      subst e0; subst e1
      exact ⟨(k0, k1), rfl, trivial⟩
end
end Go.Proofs.Ytgmkoieemmglpaa
