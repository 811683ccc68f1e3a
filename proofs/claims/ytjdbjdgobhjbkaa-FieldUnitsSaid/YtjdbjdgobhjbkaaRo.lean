import Derived.Deep.Slices
import Derived.Deep.Fields
import Derived.ChangeSame
import Derived.ProofKit
import Derived.OpenShut
import Derived.ShutString
import Derived.ChangeOld
import Derived.SizedLaws
import Derived.Test.YtjdbjdgobhjbkaaHg
namespace Go.HL
open Go.ChangeShapes Go.WideShapes Go.ChangeAt Go.RowKit Go.Deep
open Go.ChangeMaps (open_string shut_string)

theorem add_cell {w : World} {b off : Nat} {i j : Nat} : ((⟨b, off, none⟩ : Addr).add i).add j = ⟨b, off + i + j, none⟩ := by rw [Addr.add_lit, Addr.add_lit]
section
variable {H : Type} {enc : TypeId × Value → H} {P : Program} {W : World} {α : Type}
/-- an argument that is a slice: what it reads, as a list -/
theorem open_rsl {t T : TypeId} (ht : P.underlying t = some (.slice T)) (e : Enc α) (WF : α → Prop) (hC : P.cellsOf T = e.sz)
    (hel : ∀ (n : Nat) (cs : List Value) (y : DataW H × List MemPlace), cs.length = e.sz → (∀ (q : Nat) (v : Value), cs[q]? = some v → True) → DataW.trod enc P W 0 (fun _ => true) true n T cs = some y → ∃ x, cs = e.f x ∧ WF x)
    {base : Nat} {v : Value} {d : DataW H} {p : List MemPlace} (hv : Value.okWide P W .any base t v) (h : DataW.Trod enc P W 0 (fun _ => true) true t v d p) :
    ∃ (ao : Option Addr) (c : Nat) (xs : List α), v = .slice ao xs.length c ∧ RSl (· < W.heap.size) W e ao c xs ∧ (∀ x ∈ xs, WF x) ∧ (d = .nil ∧ xs = [] ∨ ∃ el sp, d = .slice el sp ∧ xs.length = el.length) := by
  obtain ⟨a0, len0, cap0, rfl⟩ := okWide_slice ht hv
  obtain ⟨fuel, hf⟩ := h
  rcases open_slice ht hf with ⟨hcs, hx⟩ | ⟨a, len, cap, m, n, D, Pl, hcs, hb, hl, hm, hmm, hx, hi⟩
  · simp [Value.cells] at hcs
    obtain ⟨rfl, rfl, rfl⟩ := hcs
    exact ⟨none, 0, [], rfl, RSl.nil _ _ _ _ _, fun x hx => (by cases hx), .inl ⟨by simpa using congrArg Prod.fst hx, rfl⟩⟩
  · simp [Value.cells] at hcs
    obtain ⟨rfl, rfl, rfl⟩ := hcs
    simp only [if_true] at hmm
    subst hmm
    obtain ⟨X, hX⟩ := choose_lt (α := Option α) (n := len0) (p := fun i x => ∃ z, x = some z ∧ WF z ∧ ∀ q u, (e.f z)[q]? = some u → W.cell? ((a.add (i * e.sz)).add q) = some u) (fun i hil => by
      obtain ⟨cs', h1, h2⟩ := hi i (by omega)
      rw [hC] at h1
      obtain ⟨_, hlen, hat⟩ := World.cells?_some h1
      obtain ⟨z, rfl, hz⟩ := hel n cs' _ hlen (fun _ _ _ => trivial) h2
      refine ⟨some z, z, rfl, hz, fun q u hq => ?_⟩
      have hql := (List.getElem?_eq_some_iff.1 hq).1
      rw [hat q (by rw [← hlen]; exact hql)]
      exact hq)
    have hlx : ∀ (k : Nat), k ≤ len0 → ∃ xs : List α, xs.length = k ∧ ∀ i, i < k → ∃ z, xs[i]? = some z ∧ X i = some z := by
      intro k
      induction k with
      | zero => intro _; exact ⟨[], rfl, fun i hi => by omega⟩
      | succ k ih =>
        intro hk
        obtain ⟨xs, hxl, hxs⟩ := ih (by omega)
        obtain ⟨z, hz, _⟩ := hX k (by omega)
        refine ⟨xs ++ [z], by simp [hxl], fun i hi => ?_⟩
        by_cases e : i = k
        · subst e; exact ⟨z, by simp [← hxl], hz⟩
        · obtain ⟨y, h1, h2⟩ := hxs i (by omega)
          exact ⟨y, by rw [List.getElem?_append_left (by omega)]; exact h1, h2⟩
    obtain ⟨xs, hxl, hxs⟩ := hlx len0 (Nat.le_refl _)
    have hmem : ∀ x ∈ xs, WF x := by
      intro x hx
      obtain ⟨i, hil, rfl⟩ := List.getElem_of_mem hx
      obtain ⟨z, h1, h2⟩ := hxs i (by omega)
      obtain ⟨z', h3, h4, _⟩ := hX i (by omega)
      rw [h2] at h3; injection h3 with h3; subst h3
      rw [List.getElem?_eq_getElem hil] at h1; injection h1 with h1
      rw [h1]; exact h4
    have hspot : xs ≠ [] → ∃ b off, a = ⟨b, off, none⟩ := by
      intro hne
      have hpos : 0 < len0 := by rw [← hxl]; exact List.length_pos_iff.2 hne
      obtain ⟨z, _, _, hc⟩ := hX 0 hpos
      have hq : (e.f z)[0]? = some ((e.f z)[0]'(by rw [e.len]; exact e.pos)) := List.getElem?_eq_getElem _
      have h1 := hc 0 _ hq
      rw [Nat.zero_mul] at h1
      have h2 : ((a.add 0).add 0) = a := by simp [Addr.add]
      rw [h2] at h1
      unfold World.cell? at h1
      obtain ⟨b, off, sp⟩ := a
      cases sp with
      | none => exact ⟨b, off, rfl⟩
      | some s => simp at h1; split at h1 <;> simp at h1
    have hcell : ∀ j u, (e.all xs)[j]? = some u → ∃ b off, (some a) = some (⟨b, off, none⟩ : Addr) ∧ W.cell? ⟨b, off + j, none⟩ = some u := by
      intro j u hj
      have hjl := (List.getElem?_eq_some_iff.1 hj).1
      rw [Enc.all_len, hxl] at hjl
      have hil : j / e.sz < len0 := Nat.div_lt_of_lt_mul (by rw [Nat.mul_comm]; exact hjl)
      obtain ⟨z, h1, h2⟩ := hxs (j / e.sz) hil
      obtain ⟨z', h3, _, h4⟩ := hX (j / e.sz) hil
      rw [h2] at h3; injection h3 with h3; subst h3
      have hdm : j / e.sz * e.sz + j % e.sz = j := by rw [Nat.mul_comm]; exact Nat.div_add_mod j e.sz
      have hq : j % e.sz < e.sz := Nat.mod_lt _ e.pos
      have h5 := e.all_at h1 hq
      rw [hdm, hj] at h5
      obtain ⟨b, off, rfl⟩ := hspot (by rintro rfl; rw [← hxl] at hil; exact absurd hil (Nat.not_lt_zero _))
      refine ⟨b, off, rfl, ?_⟩
      have h6 := h4 (j % e.sz) u h5.symm
      rw [Addr.add_lit, Addr.add_lit] at h6
      rwa [Nat.add_assoc, hdm] at h6
    refine ⟨some a, m, xs, by rw [hxl], ⟨fun hne a' ea => ?_, by omega, Enc.all_len _ _, hcell⟩, hmem, .inr ⟨_, _, by simpa using congrArg Prod.fst hx, by simp [hxl]⟩⟩
    injection ea with ea
    subst ea
    have hl0 : 0 < (e.all xs).length := by rw [Enc.all_len]; exact Nat.mul_pos (List.length_pos_iff.2 hne) e.pos
    obtain ⟨b, off, h1, h2⟩ := hcell 0 _ (List.getElem?_eq_getElem hl0)
    injection h1 with h1
    subst h1
    exact World.block_lt_of_cell? W _ h2
theorem reach_of {t T : TypeId} {d : DataW H} {α : Type} {xs : List α} {ts : List TypeId} {ds : List (DataW H)} {j B : Nat} (hsz : (DataW.weightsEach P ts ds).all (· ≤ reachBytes) = true) (htj : ts[j]? = some t) (hdj : ds[j]? = some d)
    (hu : P.underlying t = some (.slice T)) (hB : P.bytesOf T = B) (h : d = .nil ∧ xs = [] ∨ ∃ el sp, d = .slice el sp ∧ xs.length = el.length) : xs.length * B ≤ 140737488351232 := by
  rcases h with ⟨_, rfl⟩ | ⟨el, sp, rfl, hl⟩
  · simp
  · have z := sized_slice hsz htj hdj hu
    rw [hB] at z
    have : reachBytes = 140737488351232 := rfl
    rw [this] at z
    rw [hl]
    exact Nat.le_trans (Nat.mul_le_mul_right _ (by omega)) z
/-- an argument that is a struct -/
theorem open_agg {t : TypeId} {fs : Array Field} (ht : P.underlying t = some (.struct fs)) (e : Enc α) (WF : α → Prop) (hC : P.cellsOf t = e.sz)
    (hel : ∀ (n : Nat) (cs : List Value) (y : DataW H × List MemPlace), cs.length = e.sz → (∀ (q : Nat) (v : Value), cs[q]? = some v → True) → DataW.trod enc P W 0 (fun _ => true) true n t cs = some y → ∃ x, cs = e.f x ∧ WF x)
    {base : Nat} {v : Value} {d : DataW H} {p : List MemPlace} (hv : Value.okWide P W .any base t v) (h : DataW.Trod enc P W 0 (fun _ => true) true t v d p) : ∃ x, v = .agg (e.f x).toArray ∧ WF x := by
  unfold Value.okWide at hv
  rw [ht] at hv
  obtain ⟨cs, rfl, hsz, _⟩ := hv
  obtain ⟨n, hn⟩ := h
  obtain ⟨x, hx, hw⟩ := hel n cs.toList _ (by rw [Array.length_toList, hsz, hC]) (fun _ _ _ => trivial) hn
  exact ⟨x, by rw [← hx], hw⟩
/-! elements -/
theorem el_u8 {T : TypeId} (hT : P.underlying T = some (.int .u8)) (n : Nat) (cs : List Value) (y : DataW H × List MemPlace) (_ : cs.length = eb.sz) (_ : ∀ (q : Nat) (v : Value), cs[q]? = some v → True) (h : DataW.trod enc P W 0 (fun _ => true) true n T cs = some y) : ∃ x, cs = eb.f x ∧ True := by
  obtain ⟨m, rfl, _, hw⟩ := DataW.trod_int hT h
  have h1 : 0 ≤ m ∧ m ≤ 255 := by simpa [Lit.wf, IntKind.min, IntKind.max, IntKind.signed, IntKind.bits] using hw
  refine ⟨UInt8.ofNat m.toNat, ?_, trivial⟩
  simp only [eb, v8]
  congr 2
  simp
  omega
theorem el_i64 {T : TypeId} (hT : P.underlying T = some (.int .i64)) (n : Nat) (cs : List Value) (y : DataW H × List MemPlace) (_ : cs.length = ei.sz) (_ : ∀ (q : Nat) (v : Value), cs[q]? = some v → True) (h : DataW.trod enc P W 0 (fun _ => true) true n T cs = some y) : ∃ x, cs = ei.f x ∧ (-9223372036854775808 ≤ x ∧ x ≤ 9223372036854775807) := by
  obtain ⟨m, rfl, _, hw⟩ := DataW.trod_int hT h
  exact ⟨m, rfl, by simpa [Lit.wf, IntKind.min, IntKind.max, IntKind.signed, IntKind.bits] using hw⟩
theorem el_bool {T : TypeId} (hT : P.underlying T = some .bool) (n : Nat) (cs : List Value) (y : DataW H × List MemPlace) (_ : cs.length = ebool.sz) (_ : ∀ (q : Nat) (v : Value), cs[q]? = some v → True) (h : DataW.trod enc P W 0 (fun _ => true) true n T cs = some y) : ∃ x, cs = ebool.f x ∧ True := by
  obtain ⟨m, rfl, _⟩ := DataW.trod_bool hT h
  exact ⟨m, rfl, trivial⟩
end
end Go.HL
