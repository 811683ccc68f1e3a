import Derived.Test.YtdjlfbadcijjaaaRq
import Derived.Test.YtdjlfbadcijjaaaRx
namespace Go.Proofs.Ytdjlfbadcijjaaa
open Go.ChangeShapes Go.WideShapes Go.ChangeAt Go.RowKit Go.Deep Go.HL
section
variable {H : Type} {enc : TypeId × Value → H} {W : World}
def b64 (x : Int) : Prop := -9223372036854775808 ≤ x ∧ x ≤ 9223372036854775807
structure OpOf (W : World) (x : OpV) (d : DataW H) : Prop where
  kind : b64 x.kind
  drive : b64 x.drive
  at_ : b64 x.at_
  fill : b64 x.fill
  n : b64 x.n
  picks : RSl (· < W.heap.size) W ei x.pao x.pcap x.picks
  wf : ∀ y ∈ x.picks, b64 y
  datum : ∃ parts dp, d = .agg parts ∧ parts[5]? = some dp ∧ (dp = .nil ∧ x.picks = [] ∨ ∃ el sp, dp = .slice el sp ∧ x.picks.length = el.length)
theorem el_op (n : Nat) (cs : List Value) (y : DataW H × List MemPlace) (hl : cs.length = eop.sz) (_ : ∀ (q : Nat) (v : Value), cs[q]? = some v → True) (h : DataW.trod enc Try.prog W 0 (fun _ => true) true n 55 cs = some y) : ∃ x, cs = eop.f x ∧ OpOf W x y.1 := by
  obtain ⟨xs, m, _, rfl, _, hx, hf⟩ := DataW.trod_struct Try.underlying55 h
  match cs, hl with
  | [c0, c1, c2, c3, c4, c5], _ =>
    match xs, hx with
    | [y0, y1, y2, y3, y4, y5], _ =>
      have f0 : DataW.trod enc Try.prog W 0 (fun _ => true) true m 3 (([c0, c1, c2, c3, c4, c5].drop 0).take (Try.prog.cellsOf 3)) = some y0 := hf 0 _ rfl
      have f1 : DataW.trod enc Try.prog W 0 (fun _ => true) true m 3 (([c0, c1, c2, c3, c4, c5].drop 1).take (Try.prog.cellsOf 3)) = some y1 := hf 1 _ rfl
      have f2 : DataW.trod enc Try.prog W 0 (fun _ => true) true m 3 (([c0, c1, c2, c3, c4, c5].drop 2).take (Try.prog.cellsOf 3)) = some y2 := hf 2 _ rfl
      have f3 : DataW.trod enc Try.prog W 0 (fun _ => true) true m 3 (([c0, c1, c2, c3, c4, c5].drop 3).take (Try.prog.cellsOf 3)) = some y3 := hf 3 _ rfl
      have f4 : DataW.trod enc Try.prog W 0 (fun _ => true) true m 3 (([c0, c1, c2, c3, c4, c5].drop 4).take (Try.prog.cellsOf 3)) = some y4 := hf 4 _ rfl
      have f5 : DataW.trod enc Try.prog W 0 (fun _ => true) true m 22 (([c0, c1, c2, c3, c4, c5].drop 5).take (Try.prog.cellsOf 22)) = some y5 := hf 5 _ rfl
      rw [show Try.prog.cellsOf 3 = 1 from by kernel_rfl] at f0 f1 f2 f3 f4
      rw [show Try.prog.cellsOf 22 = 1 from by kernel_rfl] at f5
      obtain ⟨k0, e0, _, w0⟩ := DataW.trod_int Try.underlying3 f0
      obtain ⟨k1, e1, _, w1⟩ := DataW.trod_int Try.underlying3 f1
      obtain ⟨k2, e2, _, w2⟩ := DataW.trod_int Try.underlying3 f2
      obtain ⟨k3, e3, _, w3⟩ := DataW.trod_int Try.underlying3 f3
      obtain ⟨k4, e4, _, w4⟩ := DataW.trod_int Try.underlying3 f4
      obtain ⟨ao, c, ps, e5, h5, h6⟩ := open_trod Try.underlying22 ei (fun x _ => b64 x) (by kernel_rfl) (fun n cs y a b c => by
        obtain ⟨x, hx1, hx2⟩ := el_i64 Try.underlying3 n cs y a b c
        exact ⟨x, hx1, hx2⟩) f5
      injection e0 with e0
      injection e1 with e1
      injection e2 with e2
      injection e3 with e3
      injection e4 with e4
      injection e5 with e5
      subst e0; subst e1; subst e2; subst e3; subst e4; subst e5
      refine ⟨⟨k0, k1, k2, k3, k4, ao, c, ps⟩, rfl, by simpa [b64, Lit.wf, IntKind.min, IntKind.max, IntKind.signed, IntKind.bits] using w0, by simpa [b64, Lit.wf, IntKind.min, IntKind.max, IntKind.signed, IntKind.bits] using w1, by simpa [b64, Lit.wf, IntKind.min, IntKind.max, IntKind.signed, IntKind.bits] using w2, by simpa [b64, Lit.wf, IntKind.min, IntKind.max, IntKind.signed, IntKind.bits] using w3, by simpa [b64, Lit.wf, IntKind.min, IntKind.max, IntKind.signed, IntKind.bits] using w4, h5, ?_, [y0.1, y1.1, y2.1, y3.1, y4.1, y5.1], y5.1, rfl, rfl, ?_⟩
      · intro u hu
        rcases h6 with ⟨_, h6⟩ | ⟨el, sp, _, _, h7⟩
        · rw [show ps = [] from h6] at hu
          cases hu
        · obtain ⟨i, hil, rfl⟩ := List.getElem_of_mem hu
          obtain ⟨_, _, h8⟩ := h7 i _ (List.getElem?_eq_getElem hil)
          exact h8
      · rcases h6 with h6 | ⟨el, sp, h7, h8, _⟩
        · exact .inl h6
        · exact .inr ⟨el, sp, h7, h8⟩
/-- an argument that is a script -/
theorem open_ops {base : Nat} {v : Value} {d : DataW H} {p : List MemPlace} (hv : Value.okWide Try.prog W .any base 53 v) (h : DataW.Trod enc Try.prog W 0 (fun _ => true) true 53 v d p) :
    ∃ (ao : Option Addr) (c : Nat) (rs : List OpV), v = .slice ao rs.length c ∧ OS (· < W.heap.size) W ao c rs ∧ (d = .nil ∧ rs = [] ∨ ∃ el sp, d = .slice el sp ∧ rs.length = el.length ∧ ∀ (i : Nat) (x : OpV), rs[i]? = some x → ∃ d, el[i]? = some d ∧ OpOf W x d) := by
  obtain ⟨a0, len0, cap0, rfl⟩ := okWide_slice Try.underlying53 hv
  obtain ⟨fuel, hf⟩ := h
  obtain ⟨ao, c, rs, h1, h2, h3⟩ := open_trod Try.underlying53 eop (OpOf W) (by kernel_rfl) el_op hf
  simp [Value.cells] at h1
  obtain ⟨rfl, rfl, rfl⟩ := h1
  refine ⟨_, _, rs, rfl, ⟨h2, fun r hr => ?_⟩, h3⟩
  rcases h3 with ⟨_, rfl⟩ | ⟨el, sp, _, _, h4⟩
  · cases hr
  · obtain ⟨i, hil, rfl⟩ := List.getElem_of_mem hr
    obtain ⟨d, _, h5⟩ := h4 i _ (List.getElem?_eq_getElem hil)
    exact h5.picks
theorem reach_ops {d : DataW H} {rs : List OpV} {ts : List TypeId} {ds : List (DataW H)} {j : Nat} (hsz : (DataW.weightsEach Try.prog ts ds).all (· ≤ reachBytes) = true) (htj : ts[j]? = some 53) (hdj : ds[j]? = some d)
    (h : d = .nil ∧ rs = [] ∨ ∃ el sp, d = .slice el sp ∧ rs.length = el.length ∧ ∀ (i : Nat) (x : OpV), rs[i]? = some x → ∃ d, el[i]? = some d ∧ OpOf W x d) :
    ∀ o ∈ rs, o.picks.length * 8 ≤ 140737488351232 ∧ b64 o.n ∧ b64 o.fill ∧ b64 o.drive ∧ b64 o.at_ := by
  have hrb : reachBytes = 140737488351232 := rfl
  rcases h with ⟨_, rfl⟩ | ⟨el, sp, rfl, hl, hall⟩
  · exact fun r hr => by cases hr
  · intro r hr
    obtain ⟨i, hil, rfl⟩ := List.getElem_of_mem hr
    obtain ⟨d, h1, hO⟩ := hall i _ (List.getElem?_eq_getElem hil)
    refine ⟨?_, hO.n, hO.fill, hO.drive, hO.at_⟩
    obtain ⟨parts, dp, rfl, h2, h3⟩ := hO.datum
    rcases h3 with ⟨_, h3⟩ | ⟨el2, sp2, rfl, h3⟩
    · rw [h3]; simp
    · have hm := List.all_eq_true.1 hsz _ (DataW.weights_mem_each htj hdj ((el2.length + sp2.length) * Try.prog.bytesOf 3) (by
        simp only [DataW.weights, Try.underlying53]
        refine List.mem_cons_of_mem _ (List.mem_append_left _ (weightsAll_mem h1 _ ?_))
        simp only [DataW.weights, Try.underlying55]
        refine DataW.weights_mem_each (j := 5) (t := 22) rfl h2 _ ?_
        simp [DataW.weights, Try.underlying22]))
      rw [show Try.prog.bytesOf 3 = 8 from by kernel_rfl] at hm
      simp at hm
      rw [hrb] at hm
      omega
end
end Go.Proofs.Ytdjlfbadcijjaaa
