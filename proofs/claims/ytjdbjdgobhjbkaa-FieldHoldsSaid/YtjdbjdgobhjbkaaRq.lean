import Derived.Test.YtjdbjdgobhjbkaaRo
import Derived.Test.YtjdbjdgobhjbkaaHq
namespace Go.HL
open Go.ChangeShapes Go.WideShapes Go.ChangeAt Go.RowKit Go.Deep
section
variable {H : Type} {enc : TypeId × Value → H} {P : Program} {W : World} {α : Type}
/-- cells that are a slice: what it reads, as a list -/
theorem open_trod {t T : TypeId} (ht : P.underlying t = some (.slice T)) (e : Enc α) (WF : α → DataW H → Prop) (hC : P.cellsOf T = e.sz)
    (hel : ∀ (n : Nat) (cs : List Value) (y : DataW H × List MemPlace), cs.length = e.sz → (∀ (q : Nat) (v : Value), cs[q]? = some v → True) → DataW.trod enc P W 0 (fun _ => true) true n T cs = some y → ∃ x, cs = e.f x ∧ WF x y.1)
    {fuel : Nat} {cs0 : List Value} {y0 : DataW H × List MemPlace} (hf : DataW.trod enc P W 0 (fun _ => true) true fuel t cs0 = some y0) :
    ∃ (ao : Option Addr) (c : Nat) (xs : List α), cs0 = [.slice ao xs.length c] ∧ RSl (· < W.heap.size) W e ao c xs ∧ (y0.1 = .nil ∧ xs = [] ∨ ∃ el sp, y0.1 = .slice el sp ∧ xs.length = el.length ∧ ∀ (i : Nat) (x : α), xs[i]? = some x → ∃ d, el[i]? = some d ∧ WF x d) := by
  rcases open_slice ht hf with ⟨hcs, hx⟩ | ⟨a, len0, cap0, m, n, D, Pl, hcs, hb, hl, hm, hmm, hx, hi⟩
  · exact ⟨none, 0, [], hcs, RSl.nil _ _ _ _ _, .inl ⟨congrArg Prod.fst hx, rfl⟩⟩
  · simp only [if_true] at hmm
    subst hmm
    obtain ⟨X, hX⟩ := choose_lt (α := Option α) (n := len0) (p := fun i x => ∃ z, x = some z ∧ WF z (D i) ∧ ∀ q u, (e.f z)[q]? = some u → W.cell? ((a.add (i * e.sz)).add q) = some u) (fun i hil => by
      obtain ⟨cs', h1, h2⟩ := hi i (by omega)
      rw [hC] at h1
      obtain ⟨_, hlen, hat⟩ := World.cells?_some h1
      obtain ⟨z, rfl, hz⟩ := hel n cs' _ hlen (fun _ _ _ => trivial) h2
      refine ⟨some z, z, rfl, hz, fun q u hq => ?_⟩
      have hql := (List.getElem?_eq_some_iff.1 hq).1
      rw [hat q (by rw [← hlen]; exact hql)]
      exact hq)
    have hlx : ∀ (k : Nat), k ≤ len0 → ∃ xs : List α, xs.length = k ∧ ∀ i, i < k → ∃ z, xs[i]? = some z ∧ X i = some z := by
      intro k
      induction k with
      | zero => intro _; exact ⟨[], rfl, fun i hi => by omega⟩
      | succ k ih =>
        intro hk
        obtain ⟨xs, hxl, hxs⟩ := ih (by omega)
        obtain ⟨z, hz, _⟩ := hX k (by omega)
        refine ⟨xs ++ [z], by simp [hxl], fun i hi => ?_⟩
        by_cases e : i = k
        · subst e; exact ⟨z, by simp [← hxl], hz⟩
        · obtain ⟨y, h1, h2⟩ := hxs i (by omega)
          exact ⟨y, by rw [List.getElem?_append_left (by omega)]; exact h1, h2⟩
    obtain ⟨xs, hxl, hxs⟩ := hlx len0 (Nat.le_refl _)
    have hmem : ∀ (i : Nat) (x : α), xs[i]? = some x → ∃ d, ((List.range len0).map D)[i]? = some d ∧ WF x d := by
      intro i x hx
      have hil : i < len0 := by rw [← hxl]; exact (List.getElem?_eq_some_iff.1 hx).1
      obtain ⟨z, h1, h2⟩ := hxs i hil
      obtain ⟨z', h3, h4, _⟩ := hX i hil
      rw [h2] at h3; injection h3 with h3; subst h3
      rw [hx] at h1; injection h1 with h1; subst h1
      exact ⟨D i, by simp [hil], h4⟩
    have hspot : xs ≠ [] → ∃ b off, a = ⟨b, off, none⟩ := by
      intro hne
      have hpos : 0 < len0 := by rw [← hxl]; exact List.length_pos_iff.2 hne
      obtain ⟨z, _, _, hc⟩ := hX 0 hpos
      have hq : (e.f z)[0]? = some ((e.f z)[0]'(by rw [e.len]; exact e.pos)) := List.getElem?_eq_getElem _
      have h1 := hc 0 _ hq
      rw [Nat.zero_mul] at h1
      have h2 : ((a.add 0).add 0) = a := by simp [Addr.add]
      rw [h2] at h1
      unfold World.cell? at h1
      obtain ⟨b, off, sp⟩ := a
      cases sp with
      | none => exact ⟨b, off, rfl⟩
      | some s => simp at h1; split at h1 <;> simp at h1
    have hcell : ∀ j u, (e.all xs)[j]? = some u → ∃ b off, (some a) = some (⟨b, off, none⟩ : Addr) ∧ W.cell? ⟨b, off + j, none⟩ = some u := by
      intro j u hj
      have hjl := (List.getElem?_eq_some_iff.1 hj).1
      rw [Enc.all_len, hxl] at hjl
      have hil : j / e.sz < len0 := Nat.div_lt_of_lt_mul (by rw [Nat.mul_comm]; exact hjl)
      obtain ⟨z, h1, h2⟩ := hxs (j / e.sz) hil
      obtain ⟨z', h3, _, h4⟩ := hX (j / e.sz) hil
      rw [h2] at h3; injection h3 with h3; subst h3
      have hdm : j / e.sz * e.sz + j % e.sz = j := by rw [Nat.mul_comm]; exact Nat.div_add_mod j e.sz
      have hq : j % e.sz < e.sz := Nat.mod_lt _ e.pos
      have h5 := e.all_at h1 hq
      rw [hdm, hj] at h5
      obtain ⟨b, off, rfl⟩ := hspot (by rintro rfl; rw [← hxl] at hil; exact absurd hil (Nat.not_lt_zero _))
      refine ⟨b, off, rfl, ?_⟩
      have h6 := h4 (j % e.sz) u h5.symm
      rw [Addr.add_lit, Addr.add_lit] at h6
      rwa [Nat.add_assoc, hdm] at h6
    refine ⟨some a, m, xs, by rw [hxl]; exact hcs, ⟨fun hne a' ea => ?_, by omega, Enc.all_len _ _, hcell⟩, .inr ⟨_, _, congrArg Prod.fst hx, by simp [hxl], hmem⟩⟩
    injection ea with ea
    subst ea
    have hl0 : 0 < (e.all xs).length := by rw [Enc.all_len]; exact Nat.mul_pos (List.length_pos_iff.2 hne) e.pos
    obtain ⟨b, off, h1, h2⟩ := hcell 0 _ (List.getElem?_eq_getElem hl0)
    injection h1 with h1
    subst h1
    exact World.block_lt_of_cell? W _ h2
/-- what a row is, and its datum -/
def RowOf (W : World) (r : Rw) (d : DataW H) : Prop := RSl (· < W.heap.size) W eb r.ao r.cap r.xs ∧ (d = .nil ∧ r.xs = [] ∨ ∃ el sp, d = .slice el sp ∧ r.xs.length = el.length)
theorem el_row {t T : TypeId} (ht : P.underlying t = some (.slice T)) (hT : P.underlying T = some (.int .u8)) (hC : P.cellsOf T = 1) (n : Nat) (cs : List Value) (y : DataW H × List MemPlace) (_ : cs.length = erow.sz) (_ : ∀ (q : Nat) (v : Value), cs[q]? = some v → True)
    (h : DataW.trod enc P W 0 (fun _ => true) true n t cs = some y) : ∃ x, cs = erow.f x ∧ RowOf W x y.1 := by
  obtain ⟨ao, c, xs, h1, h2, h3⟩ := open_trod ht eb (fun _ _ => True) hC (fun n cs y a b c => el_u8 hT n cs y a b c) h
  refine ⟨⟨ao, c, xs⟩, h1, h2, ?_⟩
  rcases h3 with h3 | ⟨el, sp, h3, h4, _⟩
  · exact .inl h3
  · exact .inr ⟨el, sp, h3, h4⟩
/-- an argument that is rows of bytes -/
theorem open_rows {t T U : TypeId} (ht : P.underlying t = some (.slice T)) (hT : P.underlying T = some (.slice U)) (hU : P.underlying U = some (.int .u8)) (hC : P.cellsOf T = 1) (hCU : P.cellsOf U = 1)
    {base : Nat} {v : Value} {d : DataW H} {p : List MemPlace} (hv : Value.okWide P W .any base t v) (h : DataW.Trod enc P W 0 (fun _ => true) true t v d p) :
    ∃ (ao : Option Addr) (c : Nat) (rs : List Rw), v = .slice ao rs.length c ∧ RS (· < W.heap.size) W ao c rs ∧ (d = .nil ∧ rs = [] ∨ ∃ el sp, d = .slice el sp ∧ rs.length = el.length ∧ ∀ (i : Nat) (x : Rw), rs[i]? = some x → ∃ d, el[i]? = some d ∧ RowOf W x d) := by
  obtain ⟨a0, len0, cap0, rfl⟩ := okWide_slice ht hv
  obtain ⟨fuel, hf⟩ := h
  obtain ⟨ao, c, rs, h1, h2, h3⟩ := open_trod ht erow (RowOf W) hC (el_row hT hU hCU) hf
  simp [Value.cells] at h1
  obtain ⟨rfl, rfl, rfl⟩ := h1
  refine ⟨_, _, rs, rfl, ⟨h2, fun r hr => ?_⟩, h3⟩
  rcases h3 with ⟨_, rfl⟩ | ⟨el, sp, _, _, h4⟩
  · cases hr
  · obtain ⟨i, hil, rfl⟩ := List.getElem_of_mem hr
    obtain ⟨d, _, h5⟩ := h4 i _ (List.getElem?_eq_getElem hil)
    exact h5.1
theorem weightsAll_mem {e : TypeId} : ∀ {l : List (DataW H)} {i : Nat} {d : DataW H}, l[i]? = some d → ∀ x ∈ d.weights P e, x ∈ DataW.weightsAll P e l
  | [], i, d, h, x, hx => by simp at h
  | c :: r, 0, d, h, x, hx => by
    simp at h
    subst h
    simp [DataW.weightsAll, hx]
  | c :: r, i + 1, d, h, x, hx => by
    have := weightsAll_mem (l := r) (i := i) (by simpa using h) x hx
    simp [DataW.weightsAll, this]
theorem reach_rows {t T U : TypeId} {d : DataW H} {rs : List Rw} {ts : List TypeId} {ds : List (DataW H)} {j : Nat} (hsz : (DataW.weightsEach P ts ds).all (· ≤ reachBytes) = true) (htj : ts[j]? = some t) (hdj : ds[j]? = some d)
    (ht : P.underlying t = some (.slice T)) (hT : P.underlying T = some (.slice U)) (hB : P.bytesOf T = 24) (hBU : P.bytesOf U = 1) (h : d = .nil ∧ rs = [] ∨ ∃ el sp, d = .slice el sp ∧ rs.length = el.length ∧ ∀ (i : Nat) (x : Rw), rs[i]? = some x → ∃ d, el[i]? = some d ∧ RowOf W x d) :
    rs.length * 24 ≤ 140737488351232 ∧ ∀ r ∈ rs, r.xs.length ≤ 140737488351232 := by
  have hrb : reachBytes = 140737488351232 := rfl
  rcases h with ⟨_, rfl⟩ | ⟨el, sp, rfl, hl, hall⟩
  · exact ⟨by simp, fun r hr => by cases hr⟩
  · constructor
    · have z := sized_slice hsz htj hdj ht
      rw [hB, hrb] at z
      rw [hl]
      omega
    · intro r hr
      obtain ⟨i, hil, rfl⟩ := List.getElem_of_mem hr
      obtain ⟨d, h1, _, h2⟩ := hall i _ (List.getElem?_eq_getElem hil)
      rcases h2 with ⟨_, h2⟩ | ⟨el2, sp2, rfl, h2⟩
      · rw [h2]; simp
      · have hm := List.all_eq_true.1 hsz _ (DataW.weights_mem_each htj hdj ((el2.length + sp2.length) * P.bytesOf U) (by
          simp only [DataW.weights, ht]
          refine List.mem_cons_of_mem _ (List.mem_append_left _ (weightsAll_mem h1 _ ?_))
          simp [DataW.weights, hT]))
        rw [hBU] at hm
        simp at hm
        rw [hrb] at hm
        omega
end
end Go.HL
