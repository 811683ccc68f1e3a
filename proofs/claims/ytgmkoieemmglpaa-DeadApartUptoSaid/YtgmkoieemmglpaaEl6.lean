import Derived.Test.YtgmkoieemmglpaaRq
import Derived.Test.YtgmkoieemmglpaaDn
namespace Go.Proofs.Ytgmkoieemmglpaa
open Go.ChangeShapes Go.WideShapes Go.ChangeAt Go.RowKit Go.Deep Go.HL
section
variable {H : Type} {enc : TypeId × Value → H} {W : World}
def b64 (x : Int) : Prop := -9223372036854775808 ≤ x ∧ x ≤ 9223372036854775807
structure PtWf (p : PtV) : Prop where
  a : b64 p.a
  z : b64 p.z
  b : b64 p.b
theorem el_ptv (n : Nat) (cs : List Value) (y : DataW H × List MemPlace) (hl : cs.length = ept.sz) (_ : ∀ (q : Nat) (v : Value), cs[q]? = some v → True) (h : DataW.trod enc Try.prog W 0 (fun _ => true) true n 27 cs = some y) : ∃ x, cs = ept.f x ∧ PtWf x := by
  obtain ⟨xs, m, _, _, _, hx, hf⟩ := DataW.trod_struct Try.underlying27 h
  match cs, hl with
  | [c0, c1, c2, c3], _ =>
    match xs, hx with
    | [y0, y1, y2, y3], _ =>
      have f0 : DataW.trod enc Try.prog W 0 (fun _ => true) true m 3 (([c0, c1, c2, c3].drop 0).take (Try.prog.cellsOf 3)) = some y0 := hf 0 _ rfl
      have f1 : DataW.trod enc Try.prog W 0 (fun _ => true) true m 3 (([c0, c1, c2, c3].drop 1).take (Try.prog.cellsOf 3)) = some y1 := hf 1 _ rfl
      have f2 : DataW.trod enc Try.prog W 0 (fun _ => true) true m 3 (([c0, c1, c2, c3].drop 2).take (Try.prog.cellsOf 3)) = some y2 := hf 2 _ rfl
      have f3 : DataW.trod enc Try.prog W 0 (fun _ => true) true m 9 (([c0, c1, c2, c3].drop 3).take (Try.prog.cellsOf 9)) = some y3 := hf 3 _ rfl
      rw [show Try.prog.cellsOf 3 = 1 from by kernel_rfl] at f0 f1 f2
      rw [show Try.prog.cellsOf 9 = 1 from by kernel_rfl] at f3
      obtain ⟨k0, e0, _, w0⟩ := DataW.trod_int Try.underlying3 f0
      obtain ⟨k1, e1, _, w1⟩ := DataW.trod_int Try.underlying3 f1
      obtain ⟨k2, e2, _, w2⟩ := DataW.trod_int Try.underlying3 f2
      obtain ⟨s, e3, _, _⟩ := DataW.trod_string Try.underlying9 f3
      injection e0 with e0
      injection e1 with e1
      injection e2 with e2
      injection e3 with e3
      subst e0; subst e1; subst e2; subst e3
      exact ⟨⟨k0, k1, k2, s⟩, rfl, by simpa [b64, Lit.wf, IntKind.min, IntKind.max, IntKind.signed, IntKind.bits] using w0, by simpa [b64, Lit.wf, IntKind.min, IntKind.max, IntKind.signed, IntKind.bits] using w1, by simpa [b64, Lit.wf, IntKind.min, IntKind.max, IntKind.signed, IntKind.bits] using w2⟩
abbrev Len {α : Type} (dp : DataW H) (xs : List α) : Prop := dp = .nil ∧ xs = [] ∨ ∃ el sp, dp = .slice el sp ∧ xs.length = el.length
structure SnOf (W : World) (x : SnV) (d : DataW H) : Prop where
  txg : b64 x.txg
  rows : RSl (· < W.heap.size) W ept x.ao x.cap x.dead
  wf : ∀ p ∈ x.dead, PtWf p
  datum : ∃ parts dp, d = .agg parts ∧ parts[1]? = some dp ∧ Len dp x.dead
theorem dead_trod {m : Nat} {cs : List Value} {y : DataW H × List MemPlace} (f : DataW.trod enc Try.prog W 0 (fun _ => true) true m 23 cs = some y) :
    ∃ (ao : Option Addr) (c : Nat) (ps : List PtV), cs = [.slice ao ps.length c] ∧ RSl (· < W.heap.size) W ept ao c ps ∧ (∀ p ∈ ps, PtWf p) ∧ Len y.1 ps := by
  obtain ⟨ao, c, ps, e5, h5, h6⟩ := open_trod Try.underlying23 ept (fun x _ => PtWf x) (by kernel_rfl) (fun n cs y a b c => by
    obtain ⟨x, hx1, hx2⟩ := el_ptv n cs y a b c
    exact ⟨x, hx1, hx2⟩) f
  refine ⟨ao, c, ps, e5, h5, fun u hu => ?_, ?_⟩
  · rcases h6 with ⟨_, h6⟩ | ⟨el, sp, _, _, h7⟩
    · rw [show ps = [] from h6] at hu
      cases hu
    · obtain ⟨i, hil, rfl⟩ := List.getElem_of_mem hu
      obtain ⟨_, _, h8⟩ := h7 i _ (List.getElem?_eq_getElem hil)
      exact h8
  · rcases h6 with h6 | ⟨el, sp, h7, h8, _⟩
    · exact .inl h6
    · exact .inr ⟨el, sp, h7, h8⟩
theorem el_snap (n : Nat) (cs : List Value) (y : DataW H × List MemPlace) (hl : cs.length = esn.sz) (_ : ∀ (q : Nat) (v : Value), cs[q]? = some v → True) (h : DataW.trod enc Try.prog W 0 (fun _ => true) true n 72 cs = some y) : ∃ x, cs = esn.f x ∧ SnOf W x y.1 := by
  obtain ⟨xs, m, _, rfl, _, hx, hf⟩ := DataW.trod_struct Try.underlying72 h
  match cs, hl with
  | [c0, c1], _ =>
    match xs, hx with
    | [y0, y1], _ =>
      have f0 : DataW.trod enc Try.prog W 0 (fun _ => true) true m 3 (([c0, c1].drop 0).take (Try.prog.cellsOf 3)) = some y0 := hf 0 _ rfl
      have f1 : DataW.trod enc Try.prog W 0 (fun _ => true) true m 23 (([c0, c1].drop 1).take (Try.prog.cellsOf 23)) = some y1 := hf 1 _ rfl
      rw [show Try.prog.cellsOf 3 = 1 from by kernel_rfl] at f0
      rw [show Try.prog.cellsOf 23 = 1 from by kernel_rfl] at f1
      obtain ⟨k0, e0, _, w0⟩ := DataW.trod_int Try.underlying3 f0
      obtain ⟨ao, c, ps, e1, h5, h6, h7⟩ := dead_trod f1
      injection e0 with e0
      injection e1 with e1
      subst e0; subst e1
      exact ⟨⟨k0, ao, c, ps⟩, rfl, by simpa [b64, Lit.wf, IntKind.min, IntKind.max, IntKind.signed, IntKind.bits] using w0, h5, h6, _, y1.1, rfl, rfl, h7⟩
/-- a line and its datum -/
structure LnOf (W : World) (l : LnV) (d : DataW H) : Prop where
  base : b64 l.base
  dead : ∀ p ∈ l.dead, PtWf p
  snaps : ∀ x ∈ l.snaps, b64 x.txg ∧ ∀ p ∈ x.dead, PtWf p
  datum : ∃ parts ds dd, d = .agg parts ∧ parts[1]? = some ds ∧ parts[2]? = some dd ∧ Len dd l.dead ∧ (ds = .nil ∧ l.snaps = [] ∨ ∃ el sp, ds = .slice el sp ∧ l.snaps.length = el.length ∧ ∀ (i : Nat) (x : SnV), l.snaps[i]? = some x → ∃ d, el[i]? = some d ∧ SnOf W x d)
/-- an argument that is a line -/
theorem open_line {base : Nat} {v : Value} {d : DataW H} {p : List MemPlace} (hv : Value.okWide Try.prog W .any base 25 v) (h : DataW.Trod enc Try.prog W 0 (fun _ => true) true 25 v d p) :
    ∃ l : LnV, v = lval l ∧ LS (· < W.heap.size) W l ∧ LnOf W l d := by
  unfold Value.okWide at hv
  rw [Try.underlying25] at hv
  obtain ⟨ca, rfl, hsz, _⟩ := hv
  obtain ⟨n, hn⟩ := h
  have hl : ca.toList.length = 3 := by rw [Array.length_toList, hsz]; kernel_rfl
  have hn2 : DataW.trod enc Try.prog W 0 (fun _ => true) true n 25 ca.toList = some (d, p) := hn
  obtain ⟨cs, hcs⟩ : ∃ cs, cs = ca.toList := ⟨_, rfl⟩
  have hca : ca = cs.toArray := by rw [hcs]
  rw [← hcs] at hn2 hl
  rw [hca]
  clear hca hcs hsz hn
  obtain ⟨xs, m, _, he, _, hx, hf⟩ := DataW.trod_struct Try.underlying25 hn2
  match cs, hl with
  | [c0, c1, c2], _ =>
    match xs, hx with
    | [y0, y1, y2], _ =>
      have f0 : DataW.trod enc Try.prog W 0 (fun _ => true) true m 3 (([c0, c1, c2].drop 0).take (Try.prog.cellsOf 3)) = some y0 := hf 0 _ rfl
      have f1 : DataW.trod enc Try.prog W 0 (fun _ => true) true m 22 (([c0, c1, c2].drop 1).take (Try.prog.cellsOf 22)) = some y1 := hf 1 _ rfl
      have f2 : DataW.trod enc Try.prog W 0 (fun _ => true) true m 23 (([c0, c1, c2].drop 2).take (Try.prog.cellsOf 23)) = some y2 := hf 2 _ rfl
      rw [show Try.prog.cellsOf 3 = 1 from by kernel_rfl] at f0
      rw [show Try.prog.cellsOf 22 = 1 from by kernel_rfl] at f1
      rw [show Try.prog.cellsOf 23 = 1 from by kernel_rfl] at f2
      obtain ⟨k0, e0, _, w0⟩ := DataW.trod_int Try.underlying3 f0
      obtain ⟨sao, sc, sn, e1, hS, hSd⟩ := open_trod Try.underlying22 esn (SnOf W) (by kernel_rfl) el_snap f1
      obtain ⟨ao, c, ps, e2, h5, h6, h7⟩ := dead_trod f2
      injection e0 with e0
      injection e1 with e1
      injection e2 with e2
      subst e0; subst e1; subst e2
      have hall : ∀ x ∈ sn, ∃ d : DataW H, SnOf W x d := by
        intro x hx
        rcases hSd with ⟨_, h6⟩ | ⟨el, sp, _, _, h7⟩
        · rw [show sn = [] from h6] at hx
          cases hx
        · obtain ⟨i, hil, rfl⟩ := List.getElem_of_mem hx
          obtain ⟨d, _, h8⟩ := h7 i _ (List.getElem?_eq_getElem hil)
          exact ⟨d, h8⟩
      refine ⟨⟨k0, sao, sc, sn, ao, c, ps⟩, rfl, ⟨hS, h5, fun x hx => ?_⟩, ⟨by simpa [b64, Lit.wf, IntKind.min, IntKind.max, IntKind.signed, IntKind.bits] using w0, h6, fun x hx => ?_, [y0.1, y1.1, y2.1], y1.1, y2.1, congrArg Prod.fst he, rfl, rfl, h7, hSd⟩⟩
      · obtain ⟨d, h8⟩ := hall x hx
        exact h8.rows
      · obtain ⟨d, h8⟩ := hall x hx
        exact ⟨h8.txg, h8.wf⟩
theorem reach_line {d : DataW H} {l : LnV} {ts : List TypeId} {ds : List (DataW H)} {j : Nat} (hsz : (DataW.weightsEach Try.prog ts ds).all (· ≤ reachBytes) = true) (htj : ts[j]? = some 25) (hdj : ds[j]? = some d) (h : LnOf W l d) : Sm 0 l := by
  have hrb : reachBytes = 140737488351232 := rfl
  obtain ⟨parts, da, dd, rfl, h1, h2, h3, h4⟩ := h.datum
  have hbs : Try.prog.bytesOf 72 = 32 := by kernel_rfl
  have hbp : Try.prog.bytesOf 27 = 40 := by kernel_rfl
  have hin : ∀ x, x ∈ (DataW.agg parts).weights Try.prog 25 → x ≤ 140737488351232 := fun x hx => by
    have hm := List.all_eq_true.1 hsz _ (DataW.weights_mem_each htj hdj x hx)
    simpa [hrb] using hm
  have hp1 : ∀ x, x ∈ da.weights Try.prog 22 → x ≤ 140737488351232 := fun x hx => hin x (by
    simp only [DataW.weights, Try.underlying25]
    exact DataW.weights_mem_each (j := 1) (t := 22) rfl h1 _ hx)
  have hp2 : ∀ x, x ∈ dd.weights Try.prog 23 → x ≤ 140737488351232 := fun x hx => hin x (by
    simp only [DataW.weights, Try.underlying25]
    exact DataW.weights_mem_each (j := 2) (t := 23) rfl h2 _ hx)
  have hlen : ∀ {dp : DataW H} {ps : List PtV}, Len dp ps → (∀ x, x ∈ dp.weights Try.prog 23 → x ≤ 140737488351232) → ps.length ≤ 3518437208780 := by
    intro dp ps hL hw
    rcases hL with ⟨_, hL⟩ | ⟨el, sp, rfl, hL⟩
    · rw [hL]; exact Nat.zero_le _
    · have := hw ((el.length + sp.length) * Try.prog.bytesOf 27) (by simp [DataW.weights, Try.underlying23])
      rw [hbp] at this
      omega
  refine ⟨?_, hlen h3 hp2, ?_⟩
  · rcases h4 with ⟨_, h4⟩ | ⟨el, sp, rfl, h4, _⟩
    · rw [h4]; exact Nat.zero_le _
    · have := hp1 ((el.length + sp.length) * Try.prog.bytesOf 72) (by simp [DataW.weights, Try.underlying22])
      rw [hbs] at this
      omega
  · intro x hx
    rcases h4 with ⟨_, h4⟩ | ⟨el, sp, rfl, h4, h5⟩
    · rw [h4] at hx; cases hx
    · obtain ⟨i, hil, rfl⟩ := List.getElem_of_mem hx
      obtain ⟨d, h6, hO⟩ := h5 i _ (List.getElem?_eq_getElem hil)
      obtain ⟨p2, dp, rfl, h7, h8⟩ := hO.datum
      refine hlen h8 fun y hy => hp1 y ?_
      simp only [DataW.weights, Try.underlying22]
      refine List.mem_cons_of_mem _ (List.mem_append_left _ (weightsAll_mem h6 _ ?_))
      simp only [DataW.weights, Try.underlying72]
      exact DataW.weights_mem_each (j := 1) (t := 23) rfl h7 _ hy
end
end Go.Proofs.Ytgmkoieemmglpaa
