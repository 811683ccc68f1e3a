/-
  The law PackInverse holds of the given program: what is encoded is decoded to the same list, what is decoded is encoded to the same bytes, unlike lists have unlike bytes; no condition.
-/
import Derived.WalkKit
import Derived.Test.YtfkaioldfmapjaaRows
import Derived.Test.YtfkaioldfmapjaaEl
import Derived.Test.YtfkaioldfmapjaaPn
namespace Go.Proofs.Ytfkaioldfmapjaa.packInverse
open Go.ChangeShapes Go.WideShapes Go.ChangeAt Go.RowKit Go.HL
open Go.ChangeMaps (open_string shut_string)
set_option linter.unusedVariables false
theorem own : ownKnob Try.prog.godebug = none := by kernel_rfl
theorem laidOut : laidOutB Try.prog = true := by kernel_rfl
set_option maxRecDepth 100000 in
theorem lifted (os : Os) (started : os.Started) (H : Type) (enc : TypeId × Value → H) :
    ReturnsInHanded {} Try.checked os 5 .any (Rows.packInverseSpec.pre6 enc Try.prog Try.f5 Rows.packInverseRow.domain false) (Rows.packInverseSpec.post enc Try.prog Try.f5 false true false false) := by
  refine returnsInHanded_of_change_sized (C := Try.checked) own started (by kernel_rfl) Try.func5
    (ChangeSpec.witness6 (enc := enc) (C := Try.checked) false ⟨#[], #[.slice none 0 0, .slice none 0 0, .slice none 0 0], []⟩ 8 (by kernel_rfl) (by kernel_rfl) (by kernel_rfl) (by kernel_rfl)) ?_
  intro W base args ds gs before hval0 hW hcnd hsz0 _
  have hsz : (DataW.weightsEach Try.prog (Try.f5.params.toList ++ Rows.packInverseSpec.plain.varTypes Try.prog) (ds ++ gs)).all (· ≤ reachBytes) = true := hsz0
  have hval : ∀ (j : Nat) t v, Try.f5.params[j]? = some t → args[j]? = some v → Value.okWide Try.prog W .any base t v := hval0
  have hW' := hW
  obtain ⟨p, q, hA0, hV, rfl, hfz, hnd⟩ := hW
  have hA : DataW.TrodAll enc Try.prog W 0 (fun _ => true) true Try.f5.params.toList args.toList ds p := hA0
  rw [Try.params5] at hA hval hsz
  obtain ⟨v0, vs0, d0, ds0, p0, q0, hargs, rfl, rfl, h0, r0⟩ := trodAll_cons hA
  obtain ⟨v1, vs1, d1, ds1, p1, q1, rfl, rfl, rfl, h1, r1⟩ := trodAll_cons r0
  obtain ⟨v2, vs2, d2, ds2, p2, q2, rfl, rfl, rfl, h2, r2⟩ := trodAll_cons r1
  obtain ⟨rfl, rfl, rfl⟩ := trodAll_nil r2
  obtain rfl : args = #[v0, v1, v2] := by cases args; simp_all
  obtain ⟨rfl, rfl⟩ := trodVars_none hV
  have k0 := h0
  have lt0 : ∀ x ∈ p0, x.block < W.heap.size := by obtain ⟨m, hm⟩ := k0; exact DataW.trod_lt m _ _ _ hm
  obtain ⟨ao0, c0, l0, rfl, rs0, wf0, z0⟩ := open_rsl Try.underlying22 eit WfI (by kernel_rfl) el_item (hval 0 22 v0 rfl rfl) h0
  have b0 := reach_of hsz (j := 0) (t := 22) (B := 32) rfl rfl Try.underlying22 (by kernel_rfl) z0
  have k1 := h1
  have lt1 : ∀ x ∈ p1, x.block < W.heap.size := by obtain ⟨m, hm⟩ := k1; exact DataW.trod_lt m _ _ _ hm
  obtain ⟨ao1, c1, l1, rfl, rs1, wf1, z1⟩ := open_rsl Try.underlying22 eit WfI (by kernel_rfl) el_item (hval 1 22 v1 rfl rfl) h1
  have b1 := reach_of hsz (j := 1) (t := 22) (B := 32) rfl rfl Try.underlying22 (by kernel_rfl) z1
  have k2 := h2
  have lt2 : ∀ x ∈ p2, x.block < W.heap.size := by obtain ⟨m, hm⟩ := k2; exact DataW.trod_lt m _ _ _ hm
  obtain ⟨ao2, c2, l2, rfl, rs2, wf2, z2⟩ := open_rsl Try.underlying24 eb (fun _ => True) (by kernel_rfl) (el_u8 Try.underlying5) (hval 2 24 v2 rfl rfl) h2
  have b2 := reach_of hsz (j := 2) (t := 24) (B := 1) rfl rfl Try.underlying24 (by kernel_rfl) z2
  clear hA0 hval0 hsz0 hsz
  have walk := packInverse_calls rs0 rs1 rs2 (by omega) (by omega) (by omega) (fun i hi => (wf0 i hi).2) (fun i hi => (wf1 i hi).2)
  refine walk.mono ?_
  rintro e W' ⟨v, rfl, rfl, hc⟩
  have bel := hc.below
  exact ⟨_, rfl, _, _, _, [], _, [], hW', trodAll_mk1 (shut_bool Try.underlying4 _), (trodAll_cons_mk (Below.trod laidOut (by kernel_rfl) (of_decide_eq_true (by kernel_rfl)) k0 bel lt0) (trodAll_cons_mk (Below.trod laidOut (by kernel_rfl) (of_decide_eq_true (by kernel_rfl)) k1 bel lt1) (trodAll_cons_mk (Below.trod laidOut (by kernel_rfl) (of_decide_eq_true (by kernel_rfl)) k2 bel lt2) trodAll_mk0))), rfl, bel.frame _, fun h => by cases h⟩
theorem over : Rows.packInverseRow.holds Try.pinned (OpenSpec.ofChange Rows.packInverseSpec) :=
  OpenClaim.holds_of_wide 5 Try.f5 rfl rfl rfl rfl rfl rfl rfl ⟨rfl, rfl, rfl, rfl, rfl⟩ rfl rfl rfl rfl rfl (by kernel_rfl) Try.func5 (by kernel_rfl)
    (of_decide_eq_true (by kernel_rfl)) (by unfold Func.isWrapper; first | (rw [if_pos (by decide +kernel)]; kernel_rfl) | (rw [if_neg (by decide +kernel)]; exact ⟨rfl, rfl⟩))
    (fun os started H enc _ => lifted os started H enc)
theorem proved : Rows.PackInverseSaid := over
end Go.Proofs.Ytfkaioldfmapjaa.packInverse
namespace Go.Proofs.Ytfkaioldfmapjaa
theorem packInverse_holds : Rows.PackInverseSaid := packInverse.proved
#print axioms packInverse_holds
end Go.Proofs.Ytfkaioldfmapjaa
