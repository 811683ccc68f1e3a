import Derived.Test.YtfkaioldfmapjaaRo
import Derived.Test.YtfkaioldfmapjaaPb
namespace Go.Proofs.Ytfkaioldfmapjaa
open Go.ChangeShapes Go.WideShapes Go.RowKit Go.HL
section
variable {H : Type} {enc : TypeId × Value → H} {W : World}
def WfI (i : Item) : Prop := (-9223372036854775808 ≤ i.kind ∧ i.kind ≤ 9223372036854775807) ∧ (-9223372036854775808 ≤ i.n ∧ i.n ≤ 9223372036854775807)
theorem el_item (n : Nat) (cs : List Value) (y : DataW H × List MemPlace) (hl : cs.length = eit.sz) (_ : ∀ (q : Nat) (v : Value), cs[q]? = some v → True) (h : DataW.trod enc Try.prog W 0 (fun _ => true) true n 37 cs = some y) : ∃ x, cs = eit.f x ∧ WfI x := by
  obtain ⟨xs, m, _, _, _, hx, hf⟩ := DataW.trod_struct Try.underlying37 h
  match cs, hl with
  | [c0, c1, c2], _ =>
    match xs, hx with
    | [y0, y1, y2], _ =>
      have f0 : DataW.trod enc Try.prog W 0 (fun _ => true) true m 3 (([c0, c1, c2].drop 0).take (Try.prog.cellsOf 3)) = some y0 := hf 0 _ rfl
      have f1 : DataW.trod enc Try.prog W 0 (fun _ => true) true m 3 (([c0, c1, c2].drop 1).take (Try.prog.cellsOf 3)) = some y1 := hf 1 _ rfl
      have f2 : DataW.trod enc Try.prog W 0 (fun _ => true) true m 9 (([c0, c1, c2].drop 2).take (Try.prog.cellsOf 9)) = some y2 := hf 2 _ rfl
      rw [show Try.prog.cellsOf 3 = 1 from by kernel_rfl] at f0 f1
      rw [show Try.prog.cellsOf 9 = 1 from by kernel_rfl] at f2
      obtain ⟨k0, e0, _, w0⟩ := DataW.trod_int Try.underlying3 f0
      obtain ⟨k1, e1, _, w1⟩ := DataW.trod_int Try.underlying3 f1
      obtain ⟨s, e2, _, _⟩ := DataW.trod_string Try.underlying9 f2
      injection e0 with e0
      injection e1 with e1
      injection e2 with e2
      subst e0; subst e1; subst e2
      exact ⟨⟨k0, k1, s⟩, rfl, by simpa [Lit.wf, IntKind.min, IntKind.max, IntKind.signed, IntKind.bits] using w0, by simpa [Lit.wf, IntKind.min, IntKind.max, IntKind.signed, IntKind.bits] using w1⟩
end
end Go.Proofs.Ytfkaioldfmapjaa
