import Derived.Test.YtjdbjdgobhjbkaaQFieldApart3
/-! parities: plain laws -/
namespace Go.HL
/-- the one length of columns; -1: they have none -/
def lenC (cols : List (List UInt8)) : Int := match cols with
  | [] => -1
  | c :: _ => if (∀ d ∈ cols, d.length = c.length) ∧ 1 ≤ c.length ∧ c.length ≤ 4096 then (c.length : Int) else -1
theorem lenC_some {cols : List (List UInt8)} (h : 0 ≤ lenC cols) : ∃ n : Nat, lenC cols = (n : Int) ∧ 1 ≤ n ∧ n ≤ 4096 ∧ cols ≠ [] ∧ ∀ d ∈ cols, d.length = n := by
  unfold lenC at h ⊢
  split at h
  · omega
  · rename_i c r
    split at h
    · rename_i h1
      exact ⟨c.length, by rw [if_pos h1], h1.2.1, h1.2.2, by simp, h1.1⟩
    · omega
theorem lenC_of {cols : List (List UInt8)} {n : Nat} (hne : cols ≠ []) (h : ∀ d ∈ cols, d.length = n) : lenC cols = if 1 ≤ n ∧ n ≤ 4096 then (n : Int) else -1 := by
  unfold lenC
  split
  · exact absurd rfl hne
  · rename_i c r
    have hc : c.length = n := h c (by simp)
    by_cases h1 : 1 ≤ n ∧ n ≤ 4096
    · rw [if_pos h1, if_pos ⟨fun d hd => by rw [h d hd, hc], by omega, by omega⟩, hc]
    · rw [if_neg h1, if_neg (fun k => h1 ⟨by omega, by omega⟩)]
theorem lenC_bad {cols : List (List UInt8)} {c d : List UInt8} (hc : c ∈ cols) (hd : d ∈ cols) (h : c.length ≠ d.length) : lenC cols = -1 := by
  unfold lenC
  split
  · rfl
  · rename_i e r
    rw [if_neg]
    rintro ⟨h1, _⟩
    exact h (by rw [h1 c hc, h1 d hd])
theorem lenC_neg {cols : List (List UInt8)} (h : ¬ 0 ≤ lenC cols) : lenC cols = -1 := by
  unfold lenC at h ⊢
  split
  · rfl
  · rename_i c r
    simp only at h
    split
    · rename_i h1
      rw [if_pos h1] at h
      omega
    · rfl
/-- a multiple of a column is added -/
def addRow (acc col : List UInt8) (m : UInt8) : List UInt8 := List.zipWith (fun p c => p ^^^ mul m c) acc col
theorem addRow_len {acc col : List UInt8} {m : UInt8} (h : col.length = acc.length) : (addRow acc col m).length = acc.length := by rw [addRow, List.length_zipWith, h, Nat.min_self]
theorem addRow_at {acc col : List UInt8} {m p c : UInt8} {k : Nat} (hp : acc[k]? = some p) (hc : col[k]? = some c) : (addRow acc col m)[k]? = some (p ^^^ mul m c) := by
  rw [addRow, List.getElem?_zipWith, hp, hc]
/-- the first k places are done -/
def addTo' (acc col : List UInt8) (m : UInt8) (k : Nat) : List UInt8 := (addRow acc col m).take k ++ acc.drop k
theorem addTo'_len {acc col : List UInt8} {m : UInt8} {k : Nat} (h : col.length = acc.length) (hk : k ≤ acc.length) : (addTo' acc col m k).length = acc.length := by
  rw [addTo', List.length_append, List.length_take, List.length_drop, addRow_len h]
  omega
theorem addTo'_at {acc col : List UInt8} {m : UInt8} {k : Nat} (h : col.length = acc.length) (hk : k < acc.length) : ∃ p c, acc[k]? = some p ∧ col[k]? = some c ∧ (addTo' acc col m k)[k]? = some p ∧ (addTo' acc col m k).set k (p ^^^ mul m c) = addTo' acc col m (k + 1) := by
  have hp : acc[k]? = some acc[k] := List.getElem?_eq_getElem hk
  have hc : col[k]? = some col[k] := List.getElem?_eq_getElem (by omega)
  refine ⟨acc[k], col[k], hp, hc, ?_, ?_⟩
  · rw [addTo', List.getElem?_append_right (by rw [List.length_take]; omega), List.length_take, addRow_len h, Nat.min_eq_left (by omega), Nat.sub_self, List.getElem?_drop, Nat.add_zero, hp]
  · have hl : ((addRow acc col m).take k).length = k := by rw [List.length_take, addRow_len h]; omega
    rw [addTo', addTo', List.set_append_right _ _ (by omega), hl, Nat.sub_self, List.drop_eq_getElem_cons hk, List.set_cons_zero, List.take_add_one, addRow_at hp hc]
    simp
theorem addTo'_end {acc col : List UInt8} {m : UInt8} (h : col.length = acc.length) : addTo' acc col m acc.length = addRow acc col m := by
  rw [addTo', List.take_of_length_le (by rw [addRow_len h]; exact Nat.le_refl _), List.drop_length, List.append_nil]
/-- a parity of the first i columns -/
def prow (wt : Nat → UInt8) (cols : List (List UInt8)) (n : Nat) : Nat → List UInt8
  | 0 => List.replicate n 0
  | i + 1 => addRow (prow wt cols n i) (cols.getD i []) (wt i)
theorem prow_len {wt : Nat → UInt8} {cols : List (List UInt8)} {n : Nat} (h : ∀ d ∈ cols, d.length = n) : ∀ {i : Nat}, i ≤ cols.length → (prow wt cols n i).length = n := by
  intro i
  induction i with
  | zero => intro _; rw [prow, List.length_replicate]
  | succ i ih =>
    intro hi
    have h1 := ih (by omega)
    have h2 : (cols.getD i []).length = n := by
      rw [List.getD_eq_getElem?_getD, List.getElem?_eq_getElem (by omega)]
      exact h _ (List.getElem_mem _)
    rw [prow, addRow_len (by rw [h2, h1]), h1]
def wtq (q i : Nat) : UInt8 := if q = 0 then 1 else if q = 1 then G i else mul (G i) (G i)
end Go.HL
namespace Go.HL
open Go.RowKit
/-- rows of the call's own, each of one length, in blocks of their own -/
def orows (gs : List Nat) (n : Nat) (xss : List (List UInt8)) : List Rw := List.zipWith (fun g x => ⟨some ⟨g, 0, none⟩, n, x⟩) gs xss
structure OR (w : World) (T U : TypeId) (go k : Nat) (gs : List Nat) (n : Nat) (xss : List (List UInt8)) (tl : List Rw) : Prop where
  outer : Row (fun x => x = go) w T erow (some ⟨go, 0, none⟩) k (orows gs n xss ++ tl)
  inner : ∀ (i : Nat) (g : Nat) (x : List UInt8), gs[i]? = some g → xss[i]? = some x → Row (fun b => b = g) w U eb (some ⟨g, 0, none⟩) n x
  len : gs.length = xss.length
  apart : ∀ (i j : Nat) (g : Nat), gs[i]? = some g → gs[j]? = some g → i = j
  above : ∀ (i g : Nat), gs[i]? = some g → go < g
section
variable {w w' : World} {T U : TypeId} {go k n : Nat} {gs : List Nat} {xss : List (List UInt8)} {tl : List Rw} {M : Nat → Prop}
theorem OR.chg (h : OR w T U go k gs n xss tl) (c : Chg M w w') (hd : ¬ M go ∧ ∀ (i g : Nat), gs[i]? = some g → ¬ M g) : OR w' T U go k gs n xss tl :=
  ⟨h.outer.chg c (fun b _ e m => hd.1 (e ▸ m)), fun i g x hg hx => (h.inner i g x hg hx).chg c (fun b _ e m => hd.2 i g hg (e ▸ m)), h.len, h.apart, h.above⟩
theorem OR.pure (h : OR w T U go k gs n xss tl) (c : Chg Nob w w') : OR w' T U go k gs n xss tl := h.chg c ⟨fun x => x, fun _ _ _ x => x⟩
theorem orows_at {i g : Nat} {x : List UInt8} (hg : gs[i]? = some g) (hx : xss[i]? = some x) : (orows gs n xss ++ tl)[i]? = some ⟨some ⟨g, 0, none⟩, n, x⟩ := by
  have h1 : (orows gs n xss)[i]? = some ⟨some ⟨g, 0, none⟩, n, x⟩ := by rw [orows, List.getElem?_zipWith, hg, hx]
  rw [List.getElem?_append_left (List.getElem?_eq_some_iff.1 h1).1, h1]
theorem orows_len (h : gs.length = xss.length) : (orows gs n xss).length = gs.length := by rw [orows, List.length_zipWith, ← h, Nat.min_self]
/-- one row has turned -/
theorem OR.upd (h : OR w T U go k gs n xss tl) {r g : Nat} {x x' : List UInt8} (hg : gs[r]? = some g) (hx : xss[r]? = some x) (hl : x'.length = x.length) (c : Chg M w w') (hd : ¬ M go ∧ ∀ (i g' : Nat), gs[i]? = some g' → i ≠ r → ¬ M g')
    (hr : Row (fun b => b = g) w' U eb (some ⟨g, 0, none⟩) n x') : OR w' T U go k gs n (xss.set r x') tl := by
  have hrl : r < xss.length := (List.getElem?_eq_some_iff.1 hx).1
  refine ⟨?_, fun i g' y hg' hy => ?_, by rw [List.length_set]; exact h.len, h.apart, h.above⟩
  · have h1 := h.outer.chg c (fun b _ e m => hd.1 (e ▸ m))
    have e1 : erow.all (orows gs n (xss.set r x')) = erow.all (orows gs n xss) := by
      have : ∀ (gs : List Nat) (ys : List (List UInt8)) (r : Nat), (∀ y, ys[r]? = some y → x'.length = y.length) → erow.all (orows gs n (ys.set r x')) = erow.all (orows gs n ys) := by
        intro gs
        induction gs with
        | nil => intro ys r _; simp [orows]
        | cons g gs ih =>
          intro ys r hy
          cases ys with
          | nil => simp
          | cons y ys =>
            cases r with
            | zero =>
              have := hy y rfl
              simp [orows, Enc.all, erow, this]
            | succ r =>
              have := ih ys r (fun z hz => hy z (by simpa using hz))
              simp only [Enc.all, orows] at this
              simp [orows, Enc.all, this]
      exact this gs xss r (fun y hy => by rw [hx] at hy; injection hy with hy; rw [← hy]; exact hl)
    have e2 : (orows gs n (xss.set r x') ++ tl).length = (orows gs n xss ++ tl).length := by simp [orows]
    exact ⟨h1.at_, by rw [Enc.all_append, e1, ← Enc.all_append, e2]; exact h1.own⟩
  · by_cases hir : i = r
    · subst hir
      rw [hg] at hg'
      injection hg' with hg'
      subst hg'
      rw [List.getElem?_set_self hrl] at hy
      injection hy with hy
      subst hy
      exact hr
    · rw [List.getElem?_set_ne (fun e => hir e.symm)] at hy
      exact (h.inner i g' y hg' hy).chg c (fun b _ e m => hd.2 i g' hg' hir (e ▸ m))
/-- one row more -/
theorem OR.snoc {z : Rw} (h : OR w T U go k gs n xss (z :: tl)) {g : Nat} {x : List UInt8} (hgo : go < g) (hnew : ∀ (i g' : Nat), gs[i]? = some g' → g' < g) (c : Chg M w w') (hd : ∀ (i g' : Nat), gs[i]? = some g' → ¬ M g')
    (ho : Row (fun b => b = go) w' T erow (some ⟨go, 0, none⟩) k ((orows gs n xss ++ z :: tl).set gs.length ⟨some ⟨g, 0, none⟩, n, x⟩)) (hr : Row (fun b => b = g) w' U eb (some ⟨g, 0, none⟩) n x) : OR w' T U go k (gs ++ [g]) n (xss ++ [x]) tl := by
  have hl := h.len
  have hsplit : ∀ (i g' : Nat), (gs ++ [g])[i]? = some g' → gs[i]? = some g' ∨ i = gs.length ∧ g' = g := by
    intro i g' h1
    rcases Nat.lt_or_ge i gs.length with h2 | h2
    · rw [List.getElem?_append_left h2] at h1; exact .inl h1
    · rw [List.getElem?_append_right h2] at h1
      have h3 := (List.getElem?_eq_some_iff.1 h1).1
      simp at h3
      have h4 : i - gs.length = 0 := by omega
      rw [h4] at h1
      simp at h1
      exact .inr ⟨by omega, h1.symm⟩
  refine ⟨?_, fun i g' y hg' hy => ?_, by simp [hl], fun i j g' h1 h2 => ?_, fun i g' h1 => ?_⟩
  · have e : (orows gs n xss ++ z :: tl).set gs.length ⟨some ⟨g, 0, none⟩, n, x⟩ = orows (gs ++ [g]) n (xss ++ [x]) ++ tl := by
      have ol := orows_len (n := n) hl
      rw [List.set_append_right _ _ (by omega), ol, Nat.sub_self, List.set_cons_zero, orows, orows, List.zipWith_append hl]
      simp
    rw [e] at ho
    exact ho
  · rcases hsplit i g' hg' with h1 | ⟨h1, h2⟩
    · have hil := (List.getElem?_eq_some_iff.1 h1).1
      rw [List.getElem?_append_left (by omega)] at hy
      exact (h.inner i g' y h1 hy).chg c (fun b _ e m => hd i g' h1 (e ▸ m))
    · subst h1; subst h2
      rw [List.getElem?_append_right (by omega), hl, Nat.sub_self] at hy
      simp at hy
      subst hy
      exact hr
  · rcases hsplit i g' h1 with h3 | ⟨h3, h3'⟩ <;> rcases hsplit j g' h2 with h4 | ⟨h4, h4'⟩
    · exact h.apart i j g' h3 h4
    · have := hnew i g' h3; omega
    · have := hnew j g' h4; omega
    · omega
  · rcases hsplit i g' h1 with h3 | ⟨h3, h3'⟩
    · exact h.above i g' h3
    · omega
/-- as rows that are read -/
theorem OR.rs (h : OR w T U go k gs n xss []) {S : Nat → Prop} (hgo : S go) (hgs : ∀ (i g : Nat), gs[i]? = some g → S g) : RS S w (some ⟨go, 0, none⟩) k (orows gs n xss) := by
  have ho := h.outer
  rw [List.append_nil] at ho
  refine ⟨ho.rsl.mono (fun b e => e ▸ hgo), fun r hr => ?_⟩
  obtain ⟨i, hi⟩ := List.getElem?_of_mem hr
  rw [orows, List.getElem?_zipWith] at hi
  split at hi
  · rename_i g x hg hx
    injection hi with hi
    subst hi
    exact (h.inner i g x hg hx).rsl.mono (fun b e => e ▸ hgs i g hg)
  · cases hi
end
end Go.HL
namespace Go.HL
open Go.RowKit
section
variable {w w' : World} {T U : TypeId} {go k n : Nat} {gs : List Nat} {xss : List (List UInt8)} {tl : List Rw}
theorem OR.lt (h : OR w T U go k gs n xss tl) {i g : Nat} (hg : gs[i]? = some g) : g < w.heap.size := by
  have hi := (List.getElem?_eq_some_iff.1 hg).1
  obtain ⟨x, hx⟩ : ∃ x, xss[i]? = some x := ⟨_, List.getElem?_eq_getElem (by rw [← h.len]; exact hi)⟩
  exact (h.inner i g x hg hx).own.lt _ rfl
theorem OR.lto (h : OR w T U go k gs n xss tl) : go < w.heap.size := h.outer.own.lt _ rfl
end
/-- the rows with a multiple of a column added, the first r of them -/
def updR (ys : List (List UInt8)) (col : List UInt8) (i : Nat) : Nat → List (List UInt8)
  | 0 => ys
  | r + 1 => (updR ys col i r).set r (addRow (ys.getD r []) col (wtq r i))
theorem updR_len (ys : List (List UInt8)) (col : List UInt8) (i r : Nat) : (updR ys col i r).length = ys.length := by
  induction r with
  | zero => rfl
  | succ r ih => rw [updR, List.length_set, ih]
theorem updR_at (ys : List (List UInt8)) (col : List UInt8) (i : Nat) : ∀ (r j : Nat), r ≤ j → (updR ys col i r)[j]? = ys[j]? := by
  intro r
  induction r with
  | zero => intro j _; rfl
  | succ r ih =>
    intro j hj
    rw [updR, List.getElem?_set_ne (by omega), ih j (by omega)]
def three (cols : List (List UInt8)) (n i : Nat) : List (List UInt8) := [prow (wtq 0) cols n i, prow (wtq 1) cols n i, prow (wtq 2) cols n i]
theorem three_next (cols : List (List UInt8)) (n i : Nat) : updR (three cols n i) (cols.getD i []) i 3 = three cols n (i + 1) := rfl
end Go.HL
namespace Go.Proofs.Ytjdbjdgobhjbkaa
open Go.RowKit Go.HL

/-! a number among others -/
theorem index_calls {S : Nat → Prop} {w : World} {ao : Option Addr} {c : Nat} {l : List Int} (hr : RSl S w ei ao c l) (hl : l.length ≤ 140737488351232) (x : Int) :
    Calls Try.prog 49 [.slice ao l.length c, vi x].toArray w (Ret fun v w' => (∃ k : Int, v = vi k ∧ (0 ≤ k ↔ x ∈ l)) ∧ Chg Nob w w') := by
  replace hr := hr.old
  have hw := Chg.refl Nob w
  refine Calls.of_WC Try.func49 rfl Try.ntmps49 (by simp) ?_
  refine WC.seq (WC.region (WL.assign rfl rfl (WL.nil (WX.then_normal (WC.seq (WC.seq (WC.region (?_))))))))
  refine WL.move rfl rfl (WL.len Try.underlying33 rfl rfl (WL.move rfl rfl (WL.nil (WX.then_normal (WC.block (?_))))))
  refine WC.loop (σ := Nat) (fun i => [(0, .slice ao l.length c), (1, vi x), (7, vi l.length), (8, vi i)])
    (fun i w' => i ≤ l.length ∧ (∀ j : Nat, j < i → l[j]? ≠ some x) ∧ RSl (· < w.heap.size) w' ei ao c l ∧ Chg Nob w w') (fun i => l.length - i) 0 ⟨rfl, rfl, rfl, rfl, trivial⟩ ⟨Nat.zero_le _, fun j h => absurd h (by omega), hr, hw⟩ ?_
  clear hr hw
  rintro i w2 ⟨hi, hall, hr, hw⟩
  refine WC.seq (WC.region (?_))
  refine WL.lss? rfl rfl rfl (fun h9 => ?_) (fun h9 => ?_)
  ·
    refine WL.nil (WX.then_normal (WC.seq (WC.cond_true rfl (WC.skip (WX.then_normal (WC.seq (WC.block (?_))))))))
    refine WC.seq (WC.region (WL.move rfl rfl (WL.assign rfl rfl (WL.nil (WX.then_normal (WC.seq (WC.region (?_))))))))
    refine WL.move rfl rfl (WL.move rfl rfl (WL.move rfl rfl (?_)))
    obtain ⟨y, hy⟩ : ∃ y, l[i]? = some y := ⟨_, List.getElem?_eq_getElem (by omega)⟩
    refine WL.indexT Try.underlying33 Try.sizeOf3 hr rfl rfl ⟨hy, rfl⟩ rfl ?_
    intro b_1 o_1 hc_1
    refine WL.load Try.isAgg3 rfl (hc_1 0 _ rfl) rfl (?_)
    refine WL.eql? rfl rfl rfl (fun h16 => ?_) (fun h16 => ?_)
    ·
      refine WL.nil (WX.then_normal (WC.cond_true rfl (WC.seq (WC.region (WL.move rfl rfl (WL.assign rfl rfl (WL.nil (?_))))))))
      refine WX.then_normal (WC.ret (WX.block_ret (WX.then_ret (WX.then_ret (WX.block_ret (WX.then_ret (?_)))))))
      refine WX.ret1 (.inl rfl) Try.results49 rfl ?_
      first
        | (refine ⟨_, rfl, ⟨_, rfl, ?_⟩, hw⟩
           rw [h16]
           exact ⟨fun _ => List.mem_of_getElem? hy, fun _ => by omega⟩)
        | (refine ⟨_, rfl, ⟨_, rfl, ?_⟩, hw⟩
           refine ⟨fun h => absurd h (by decide), fun h => ?_⟩
           obtain ⟨j, hj⟩ := List.getElem?_of_mem h
           have hjl := (List.getElem?_eq_some_iff.1 hj).1
           exact absurd hj (hall j (by omega)))
    ·
      refine WL.nil (WX.then_normal (WC.cond_false rfl (WC.skip (WX.block_normal (WX.then_normal (WC.region (WL.add64 rfl rfl (by first | omega | (constructor <;> omega)) rfl (?_))))))))
      refine WL.move rfl rfl (WL.nil (?_))
      refine WX.loop_next (i + 1) ⟨rfl, rfl, rfl, rfl, trivial⟩ ⟨by omega, fun j h => ?_, hr, hw⟩ (by show _ - _ < _ - _; omega)
      rcases Nat.lt_or_ge j i with h3 | h3
      ·
        exact hall j h3
      ·
        rw [show j = i from by omega, hy]
        exact fun e => h16 (by injection e with e; exact e.symm)
  ·
    refine WL.nil (WX.then_normal (WC.seq (WC.cond_false rfl (WC.exit (WX.then_exit (WX.then_exit (WX.block_here (?_))))))))
    refine WX.then_normal (WC.seq (WC.region (WL.assign rfl rfl (WL.nil (WX.then_normal (WC.ret (?_)))))))
    refine WX.ret1 (.inl rfl) Try.results49 rfl ?_
    first
      | (refine ⟨_, rfl, ⟨_, rfl, ?_⟩, hw⟩
         rw [h16]
         exact ⟨fun _ => List.mem_of_getElem? hy, fun _ => by omega⟩)
      | (refine ⟨_, rfl, ⟨_, rfl, ?_⟩, hw⟩
         refine ⟨fun h => absurd h (by decide), fun h => ?_⟩
         obtain ⟨j, hj⟩ := List.getElem?_of_mem h
         have hjl := (List.getElem?_eq_some_iff.1 hj).1
         exact absurd hj (hall j (by omega)))
theorem contains_calls {S : Nat → Prop} {w : World} {ao : Option Addr} {c : Nat} {l : List Int} (hr : RSl S w ei ao c l) (hl : l.length ≤ 140737488351232) (x : Int) :
    Calls Try.prog 39 [.slice ao l.length c, vi x].toArray w (Ret fun v w' => v = .bool (decide (x ∈ l)) ∧ Chg Nob w w') := by
  replace hr := hr.old
  have hw := Chg.refl Nob w
  refine Calls.of_WC Try.func39 rfl Try.ntmps39 (by simp) ?_
  refine WC.seq (WC.region (WL.assign rfl rfl (WL.nil (WX.then_normal (WC.seq (WC.region (WL.move rfl rfl (?_))))))))
  refine WL.move rfl rfl (?_)
  refine WL.call eg_49 rfl rfl (index_calls hr hl x) ?_
  rintro v w1 ⟨⟨k, rfl, hk⟩, kk⟩
  have zs_kk := kk.size
  replace hr := hr.pure kk
  replace hw := hw.pure kk
  refine WL.geq rfl rfl rfl (WL.assign rfl rfl (WL.nil (WX.then_normal (WC.ret (?_)))))
  refine WX.ret1 (.inl rfl) Try.results39 rfl ?_
  exact ⟨_, rfl, congrArg Value.bool (decide_eq_decide.2 hk), hw⟩
/-! the one length of columns, none of them bad -/
def xss (rs : List Rw) : List (List UInt8) := rs.map Rw.xs
theorem xss_mem {rs : List Rw} {i : Nat} {r : Rw} (h : rs[i]? = some r) : r.xs ∈ xss rs := List.mem_map.2 ⟨r, List.mem_of_getElem? h, rfl⟩
set_option maxHeartbeats 1000000 in
theorem length_calls {S : Nat → Prop} {w : World} {ao : Option Addr} {c : Nat} {rs : List Rw} (hc : RS S w ao c rs) (hl : rs.length * 24 ≤ 140737488351232) :
    Calls Try.prog 43 [.slice ao rs.length c, .slice none 0 0].toArray w (Ret fun v w' => v = vi (lenC (xss rs)) ∧ Chg Nob w w') := by
  replace hc := hc.old
  have hw := Chg.refl Nob w
  refine Calls.of_WC Try.func43 rfl Try.ntmps43 (by simp) ?_
  refine WC.seq (WC.region (WL.assign rfl rfl (WL.nil (WX.then_normal (WC.seq (WC.region (WL.assign rfl rfl (?_))))))))
  refine WL.nil (WX.then_normal (WC.seq (WC.seq (WC.region (WL.move rfl rfl (WL.len Try.underlying22 rfl rfl (WL.move rfl rfl (?_))))))))
  refine WL.nil (WX.then_normal (WC.block (?_)))
  refine WC.loop (σ := Nat × Int) (fun q => [(1, .slice none 0 0), (5, vi q.2), (8, .slice ao rs.length c), (9, vi rs.length), (10, vi q.1)])
    (fun q w' => q.1 ≤ rs.length ∧ (q.1 = 0 ∧ q.2 = -1 ∨ 0 < q.1 ∧ ∃ m : Nat, q.2 = (m : Int) ∧ ∀ (j : Nat) (r : Rw), j < q.1 → rs[j]? = some r → r.xs.length = m) ∧ RS (· < w.heap.size) w' ao c rs ∧ Chg Nob w w') (fun q => rs.length - q.1) (0, -1) ⟨rfl, rfl, rfl, rfl, rfl, trivial⟩ ⟨Nat.zero_le _, .inl ⟨rfl, rfl⟩, hc, hw⟩ ?_
  clear hc hw
  rintro ⟨i, n⟩ w2 ⟨hi, hall, hc, hw⟩
  dsimp only at hi hall hc hw ⊢
  refine WC.seq (WC.region (?_))
  refine WL.lss? rfl rfl rfl (fun h11 => ?_) (fun h11 => ?_)
  ·
    refine WL.nil (WX.then_normal (WC.seq (WC.cond_true rfl (WC.skip (WX.then_normal (WC.seq (WC.block (?_))))))))
    refine WC.seq (WC.region (WL.move rfl rfl (?_)))
    obtain ⟨r, hr⟩ : ∃ r, rs[i]? = some r := ⟨_, List.getElem?_eq_getElem (by omega)⟩
    refine WL.indexT Try.underlying22 Try.sizeOf23 hc.outer rfl rfl ⟨hr, rfl⟩ rfl ?_
    intro b_1 o_1 hc_1
    refine WL.load Try.isAgg23 rfl (hc_1 0 _ rfl) rfl (WL.assign rfl rfl (WL.assign rfl rfl (WL.nil (WX.then_normal (WC.block (WC.seq (WC.region (?_))))))))
    refine WL.move rfl rfl (WL.move rfl rfl (?_))
    refine WL.call eg_39 rfl rfl (contains_calls (RSl.nil (fun _ => True) _ ei none 0) (by decide) _) ?_
    rintro v w3 ⟨rfl, k⟩
    rw [show decide ((i : Int) ∈ ([] : List Int)) = false from rfl]
    have zs_k := k.size
    replace hc := hc.pure k
    replace hw := hw.pure k
    refine WL.assign rfl rfl (WL.nil (WX.then_normal (WC.cond_false rfl (WC.seq (WC.region (WL.move rfl rfl (?_)))))))
    refine WL.geq? rfl rfl rfl (fun h23 => ?_) (fun h23 => ?_)
    ·
      refine WL.move rfl rfl (WL.want rfl rfl rfl (WL.move rfl rfl (WL.want rfl rfl rfl (WL.len Try.underlying23 rfl rfl (WL.want rfl rfl rfl (WL.move rfl rfl (WL.want rfl rfl rfl (?_))))))))
      refine WL.neq? rfl rfl rfl (fun h28 => ?_) (fun h28 => ?_)
      ·
        refine WL.pickT rfl rfl rfl (WL.assign rfl rfl (WL.nil (WX.then_normal (WC.cond_true rfl (WC.seq (WC.region (WL.assign rfl rfl (?_))))))))
        refine WL.nil (WX.then_normal (WC.ret (WX.block_ret (WX.block_ret (WX.then_ret (WX.then_ret (WX.block_ret (?_))))))))
        refine WX.then_ret (?_)
        refine WX.ret1 (.inl rfl) Try.results43 rfl ?_
        first
          | (refine ⟨_, rfl, ?_, hw⟩
             rcases hall with ⟨h1, h2⟩ | ⟨h0, m, h1, h2⟩
             ·
               exfalso; omega
             ·
               obtain ⟨r0, hr0⟩ : ∃ r0, rs[0]? = some r0 := ⟨_, List.getElem?_eq_getElem (by omega)⟩
               have h3 := h2 0 r0 h0 hr0
               rw [lenC_bad (xss_mem hr) (xss_mem hr0) (by omega)])
          | (have hil : i = rs.length := by omega
             refine ⟨_, rfl, ?_, hw⟩
             rcases hall with ⟨h1, h2⟩ | ⟨h0, m, h1, h2⟩
             ·
               have : rs = [] := List.eq_nil_of_length_eq_zero (by omega)
               subst this
               first
                 | rfl
                 | (exfalso; omega)
             ·
               have hne : xss rs ≠ [] := fun e => by
                 have : (xss rs).length = 0 := by rw [e]; rfl
                 rw [xss, List.length_map] at this
                 omega
               have hall2 : ∀ d ∈ xss rs, d.length = m := by
                 intro d hd
                 obtain ⟨r, hr, rfl⟩ := List.mem_map.1 hd
                 obtain ⟨j, hj⟩ := List.getElem?_of_mem hr
                 exact h2 j r (by have := (List.getElem?_eq_some_iff.1 hj).1; omega) hj
               rw [lenC_of hne hall2]
               first
                 | (rw [if_neg (by omega)]; done)
                 | (rw [if_pos (by omega), h1]; done))
      ·
        refine WL.pickT rfl rfl rfl (WL.assign rfl rfl (WL.nil (WX.then_normal (WC.cond_false rfl (WC.region (WL.move rfl rfl (WL.len Try.underlying23 rfl rfl (?_))))))))
        refine WL.assign rfl rfl (WL.nil (WX.block_normal (WX.block_normal (WX.then_normal (WC.region (WL.add64 rfl rfl (by first | omega | (constructor <;> omega)) rfl (WL.move rfl rfl (?_))))))))
        refine WL.nil (?_)
        refine WX.loop_next (i + 1, (r.xs.length : Int)) ⟨rfl, rfl, rfl, rfl, rfl, trivial⟩ ⟨by dsimp only; omega, .inr ⟨by dsimp only; omega, r.xs.length, rfl, fun j r' h h' => ?_⟩, hc, hw⟩ (by show _ - _ < _ - _; omega)
        dsimp only at h
        rcases Nat.lt_or_ge j i with h3 | h3
        ·
          rcases hall with ⟨h1, _⟩ | ⟨_, m, h1, h2⟩
          ·
            omega
          ·
            have h4 := h2 j r' h3 h'
            omega
        ·
          rw [show j = i from by omega, hr] at h'
          injection h' with h'
          rw [h']
    ·
      refine WL.move rfl rfl (WL.pass rfl rfl rfl rfl (WL.pass rfl rfl rfl rfl (WL.pass rfl rfl rfl rfl (WL.pass rfl rfl rfl rfl (WL.pickF rfl rfl rfl (WL.assign rfl rfl (WL.nil (?_))))))))
      refine WX.then_normal (WC.cond_false rfl (WC.region (WL.move rfl rfl (WL.len Try.underlying23 rfl rfl (WL.assign rfl rfl (WL.nil (WX.block_normal (?_))))))))
      refine WX.block_normal (WX.then_normal (WC.region (WL.add64 rfl rfl (by first | omega | (constructor <;> omega)) rfl (WL.move rfl rfl (WL.nil (?_))))))
      refine WX.loop_next (i + 1, (r.xs.length : Int)) ⟨rfl, rfl, rfl, rfl, rfl, trivial⟩ ⟨by dsimp only; omega, .inr ⟨by dsimp only; omega, r.xs.length, rfl, fun j r' h h' => ?_⟩, hc, hw⟩ (by show _ - _ < _ - _; omega)
      dsimp only at h
      rcases Nat.lt_or_ge j i with h3 | h3
      ·
        rcases hall with ⟨h1, _⟩ | ⟨_, m, h1, h2⟩
        ·
          omega
        ·
          have h4 := h2 j r' h3 h'
          omega
      ·
        rw [show j = i from by omega, hr] at h'
        injection h' with h'
        rw [h']
  ·
    refine WL.nil (WX.then_normal (WC.seq (WC.cond_false rfl (WC.exit (WX.then_exit (WX.then_exit (WX.block_here (?_))))))))
    refine WX.then_normal (WC.seq (WC.seq (WC.region (WL.move rfl rfl (?_)))))
    refine WL.lss? rfl rfl rfl (fun h32 => ?_) (fun h32 => ?_)
    ·
      refine WL.move rfl rfl (WL.pass rfl rfl rfl rfl (WL.pass rfl rfl rfl rfl (WL.pickT rfl rfl rfl (WL.nil (WX.then_normal (WC.cond_true rfl (WC.seq (?_))))))))
      refine WC.region (WL.assign rfl rfl (WL.nil (WX.then_normal (WC.ret (WX.then_ret (?_))))))
      refine WX.ret1 (.inl rfl) Try.results43 rfl ?_
      first
        | (refine ⟨_, rfl, ?_, hw⟩
           rcases hall with ⟨h1, h2⟩ | ⟨h0, m, h1, h2⟩
           ·
             exfalso; omega
           ·
             obtain ⟨r0, hr0⟩ : ∃ r0, rs[0]? = some r0 := ⟨_, List.getElem?_eq_getElem (by omega)⟩
             have h3 := h2 0 r0 h0 hr0
             rw [lenC_bad (xss_mem hr) (xss_mem hr0) (by omega)])
        | (have hil : i = rs.length := by omega
           refine ⟨_, rfl, ?_, hw⟩
           rcases hall with ⟨h1, h2⟩ | ⟨h0, m, h1, h2⟩
           ·
             have : rs = [] := List.eq_nil_of_length_eq_zero (by omega)
             subst this
             first
               | rfl
               | (exfalso; omega)
           ·
             have hne : xss rs ≠ [] := fun e => by
               have : (xss rs).length = 0 := by rw [e]; rfl
               rw [xss, List.length_map] at this
               omega
             have hall2 : ∀ d ∈ xss rs, d.length = m := by
               intro d hd
               obtain ⟨r, hr, rfl⟩ := List.mem_map.1 hd
               obtain ⟨j, hj⟩ := List.getElem?_of_mem hr
               exact h2 j r (by have := (List.getElem?_eq_some_iff.1 hj).1; omega) hj
             rw [lenC_of hne hall2]
             first
               | (rw [if_neg (by omega)]; done)
               | (rw [if_pos (by omega), h1]; done))
    ·
      refine WL.move rfl rfl (WL.want rfl rfl rfl (WL.move rfl rfl (WL.want rfl rfl rfl (?_))))
      refine WL.gtr? rfl rfl rfl (fun h35 => ?_) (fun h35 => ?_)
      ·
        refine WL.pickF rfl rfl rfl (WL.nil (WX.then_normal (WC.cond_true rfl (WC.seq (WC.region (WL.assign rfl rfl (WL.nil (?_))))))))
        refine WX.then_normal (WC.ret (WX.then_ret (?_)))
        refine WX.ret1 (.inl rfl) Try.results43 rfl ?_
        first
          | (refine ⟨_, rfl, ?_, hw⟩
             rcases hall with ⟨h1, h2⟩ | ⟨h0, m, h1, h2⟩
             ·
               exfalso; omega
             ·
               obtain ⟨r0, hr0⟩ : ∃ r0, rs[0]? = some r0 := ⟨_, List.getElem?_eq_getElem (by omega)⟩
               have h3 := h2 0 r0 h0 hr0
               rw [lenC_bad (xss_mem hr) (xss_mem hr0) (by omega)])
          | (have hil : i = rs.length := by omega
             refine ⟨_, rfl, ?_, hw⟩
             rcases hall with ⟨h1, h2⟩ | ⟨h0, m, h1, h2⟩
             ·
               have : rs = [] := List.eq_nil_of_length_eq_zero (by omega)
               subst this
               first
                 | rfl
                 | (exfalso; omega)
             ·
               have hne : xss rs ≠ [] := fun e => by
                 have : (xss rs).length = 0 := by rw [e]; rfl
                 rw [xss, List.length_map] at this
                 omega
               have hall2 : ∀ d ∈ xss rs, d.length = m := by
                 intro d hd
                 obtain ⟨r, hr, rfl⟩ := List.mem_map.1 hd
                 obtain ⟨j, hj⟩ := List.getElem?_of_mem hr
                 exact h2 j r (by have := (List.getElem?_eq_some_iff.1 hj).1; omega) hj
               rw [lenC_of hne hall2]
               first
                 | (rw [if_neg (by omega)]; done)
                 | (rw [if_pos (by omega), h1]; done))
      ·
        refine WL.pickF rfl rfl rfl (WL.nil (WX.then_normal (WC.cond_false rfl (WC.skip (WX.then_normal (WC.seq (WC.region (?_))))))))
        refine WL.move rfl rfl (WL.assign rfl rfl (WL.nil (WX.then_normal (WC.ret (?_)))))
        refine WX.ret1 (.inl rfl) Try.results43 rfl ?_
        first
          | (refine ⟨_, rfl, ?_, hw⟩
             rcases hall with ⟨h1, h2⟩ | ⟨h0, m, h1, h2⟩
             ·
               exfalso; omega
             ·
               obtain ⟨r0, hr0⟩ : ∃ r0, rs[0]? = some r0 := ⟨_, List.getElem?_eq_getElem (by omega)⟩
               have h3 := h2 0 r0 h0 hr0
               rw [lenC_bad (xss_mem hr) (xss_mem hr0) (by omega)])
          | (have hil : i = rs.length := by omega
             refine ⟨_, rfl, ?_, hw⟩
             rcases hall with ⟨h1, h2⟩ | ⟨h0, m, h1, h2⟩
             ·
               have : rs = [] := List.eq_nil_of_length_eq_zero (by omega)
               subst this
               first
                 | rfl
                 | (exfalso; omega)
             ·
               have hne : xss rs ≠ [] := fun e => by
                 have : (xss rs).length = 0 := by rw [e]; rfl
                 rw [xss, List.length_map] at this
                 omega
               have hall2 : ∀ d ∈ xss rs, d.length = m := by
                 intro d hd
                 obtain ⟨r, hr, rfl⟩ := List.mem_map.1 hd
                 obtain ⟨j, hj⟩ := List.getElem?_of_mem hr
                 exact h2 j r (by have := (List.getElem?_eq_some_iff.1 hj).1; omega) hj
               rw [lenC_of hne hall2]
               first
                 | (rw [if_neg (by omega)]; done)
                 | (rw [if_pos (by omega), h1]; done))
end Go.Proofs.Ytjdbjdgobhjbkaa
namespace Go.Proofs.Ytjdbjdgobhjbkaa
open Go.RowKit Go.HL

/-! where the tables are there already -/
theorem doR_calls {w : World} {g : Nat} (hR : Blk w g 65 FR) (fv : Value) :
    Calls Try.prog 52 [.pointer (some ⟨g, 0, none⟩), fv].toArray w (Ret fun v w' => v = .tuple #[] ∧ Chg Nob w w') := by
  refine (do_done hR fv).mono ?_
  rintro e w' ⟨rfl, rfl⟩
  exact ⟨_, rfl, rfl, Chg.refl _ _⟩
theorem tablesR_calls {w : World} {g : Nat} (hR : Blk w g 65 FR) : Calls Try.prog 47 [.pointer (some ⟨g, 0, none⟩)].toArray w (Ret fun v w' => v = .tuple #[] ∧ Chg Nob w w') := by
  have hw := Chg.refl Nob w
  refine Calls.of_WC Try.func47 rfl Try.ntmps47 (by simp) ?_
  refine WC.seq (WC.region (?_))
  refine WL.box rfl rfl ?_
  intro g_1 w_1 hge_1 hlt_1 hb_1 k_1
  have zs_k_1 := k_1.size
  replace hR := hR.pure k_1
  replace hw := hw.pure k_1
  refine WL.nil (WX.then_normal (WC.region (WL.loadB Try.isAgg28 hb_1 rfl rfl rfl (WL.nilCheck rfl rfl (WL.fieldAddr (fld_65_0) rfl rfl (?_))))))
  refine WL.makeFunc rfl rfl ?_
  refine WL.call eg_52 rfl rfl (doR_calls hR _) ?_
  rintro v w2 ⟨rfl, k⟩
  have zs_k := k.size
  replace hR := hR.pure k
  replace hw := hw.pure k
  replace hb_1 := hb_1.pure k
  refine WL.nil (?_)
  refine WX.ret0 (.inr rfl) Try.results47 ?_
  exact ⟨_, rfl, rfl, hw⟩
set_option maxRecDepth 100000 in
theorem readyR_calls {w : World} {g : Nat} (hR : Blk w g 65 FR) : Calls Try.prog 29 [.pointer (some ⟨g, 0, none⟩)].toArray w (Ret fun v w' => v = .pointer (some ⟨g, 0, none⟩) ∧ Chg Nob w w') := by
  have hw := Chg.refl Nob w
  refine Calls.of_WC Try.func29 rfl Try.ntmps29 (by simp) ?_
  refine WC.seq (WC.region (WL.assign rfl rfl (WL.nil (WX.then_normal (WC.seq (WC.seq (WC.region (?_))))))))
  refine WL.move rfl rfl (?_)
  refine WL.pnil Try.underlying28 rfl rfl rfl ?_
  rw [show (some (⟨g, 0, none⟩ : Addr)).isNone = false from rfl]
  refine WL.nil (WX.then_normal (WC.cond_false rfl (WC.skip (WX.then_normal (WC.seq (WC.region (WL.move rfl rfl (?_))))))))
  refine WL.call eg_47 rfl rfl (tablesR_calls hR) ?_
  rintro v w2 ⟨rfl, k⟩
  have zs_k := k.size
  replace hR := hR.pure k
  replace hw := hw.pure k
  refine WL.nil (WX.then_normal (WC.seq (WC.region (WL.move rfl rfl (WL.assign rfl rfl (WL.nil (WX.then_normal (?_))))))))
  refine WC.ret (?_)
  refine WX.ret1 (.inl rfl) Try.results29 rfl ?_
  exact ⟨_, rfl, rfl, hw⟩
theorem mulR_calls {w : World} {g : Nat} (hR : Blk w g 65 FR) (a b : UInt8) : Calls Try.prog 15 [.pointer (some ⟨g, 0, none⟩), v8 a, v8 b].toArray w (Ret fun v w' => v = v8 (mul a b) ∧ Chg Nob w w') := by
  have hw := Chg.refl Nob w
  have hla := L_lt a
  have hlb := L_lt b
  refine Calls.of_WC Try.func15 rfl Try.ntmps15 (by simp) ?_
  refine WC.seq (WC.region (WL.assign rfl rfl (WL.nil (WX.then_normal (WC.seq (WC.seq (WC.region (?_))))))))
  refine WL.move rfl rfl (?_)
  refine WL.eql? rfl rfl rfl (fun h8 => ?_) (fun h8 => ?_)
  ·
    refine WL.move rfl rfl (WL.pass rfl rfl rfl rfl (WL.pass rfl rfl rfl rfl (WL.pickT rfl rfl rfl (WL.nil (WX.then_normal (WC.cond_true rfl (WC.seq (?_))))))))
    refine WC.region (WL.assign rfl rfl (WL.nil (WX.then_normal (WC.ret (WX.then_ret (?_))))))
    refine WX.ret1 (.inl rfl) Try.results15 rfl ?_
    first
      | (have ha := u8_zero h8
         subst ha
         refine ⟨_, rfl, ?_, hw⟩
         rw [mul_zero_l]
         rfl)
      | (have hb := u8_zero h11
         subst hb
         refine ⟨_, rfl, ?_, hw⟩
         rw [mul_zero_r]
         rfl)
      | (refine ⟨_, rfl, ?_, hw⟩
         rw [mul, if_neg (by rintro (h | h); exact u8_ne h8 h; exact u8_ne h11 h)])
  ·
    refine WL.move rfl rfl (WL.want rfl rfl rfl (WL.move rfl rfl (WL.want rfl rfl rfl (?_))))
    refine WL.eql? rfl rfl rfl (fun h11 => ?_) (fun h11 => ?_)
    ·
      refine WL.pickF rfl rfl rfl (WL.nil (WX.then_normal (WC.cond_true rfl (WC.seq (WC.region (WL.assign rfl rfl (WL.nil (?_))))))))
      refine WX.then_normal (WC.ret (WX.then_ret (?_)))
      refine WX.ret1 (.inl rfl) Try.results15 rfl ?_
      first
        | (have ha := u8_zero h8
           subst ha
           refine ⟨_, rfl, ?_, hw⟩
           rw [mul_zero_l]
           rfl)
        | (have hb := u8_zero h11
           subst hb
           refine ⟨_, rfl, ?_, hw⟩
           rw [mul_zero_r]
           rfl)
        | (refine ⟨_, rfl, ?_, hw⟩
           rw [mul, if_neg (by rintro (h | h); exact u8_ne h8 h; exact u8_ne h11 h)])
    ·
      refine WL.pickF rfl rfl rfl (WL.nil (WX.then_normal (WC.cond_false rfl (WC.skip (WX.then_normal (WC.seq (WC.region (?_))))))))
      refine WL.move rfl rfl (?_)
      refine WL.call eg_29 rfl rfl (readyR_calls hR) ?_
      rintro v w2 ⟨rfl, k⟩
      have zs_k := k.size
      replace hR := hR.pure k
      replace hw := hw.pure k
      refine WL.assign rfl rfl (WL.nil (WX.then_normal (WC.seq (?_))))
      refine WC.draw (Nob) [0, 1, 2, 3, 4, 5, 6, 7, 8, 9, 10, 11, 12, 13, 14, 15, 16, 17, 18] [] mixed rfl rfl (fun wd_1 kd_1 zd_1 => ?_)
      have zs_kd_1 := kd_1.size
      replace hR := hR.pure kd_1
      replace hw := hw.pure kd_1
      apply DQ.step (E' := [(0, _)])
      case ho => rfl
      case hs => exact ⟨rfl, trivial⟩
      case hk => rfl
      case h1 =>
        intro wq_2 kq_2
        refine WL.move rfl rfl (?_)
        refine WL.nil ?_
        exact WX.one ⟨rfl, by first | exact Chg.refl _ _ | assumption⟩
      apply DQ.step (E' := [(0, _)])
      case ho => rfl
      case hs => exact ⟨rfl, trivial⟩
      case hk => rfl
      case h1 =>
        intro wq_3 kq_3
        refine WL.move rfl rfl (?_)
        refine WL.nil ?_
        exact WX.one ⟨rfl, by first | exact Chg.refl _ _ | assumption⟩
      apply DQ.step (E' := [(1, _)])
      case ho => rfl
      case hs => exact ⟨rfl, trivial⟩
      case hk => rfl
      case h1 =>
        intro wq_4 kq_4
        refine WL.move rfl rfl (?_)
        refine WL.nil ?_
        exact WX.one ⟨rfl, by first | exact Chg.refl _ _ | assumption⟩
      apply DQ.step (E' := [(16, _)])
      case ho => rfl
      case hs => exact ⟨rfl, trivial⟩
      case hk => rfl
      case h1 =>
        intro wq_5 kq_5
        refine WL.nilCheck rfl rfl (?_)
        refine WL.nil ?_
        exact WX.one ⟨rfl, by first | exact Chg.refl _ _ | assumption⟩
      apply DQ.step (E' := [(18, _)])
      case ho => rfl
      case hs => exact ⟨rfl, trivial⟩
      case hk => rfl
      case h1 =>
        intro wq_6 kq_6
        refine WL.fieldAddr (fld_65_2) rfl rfl (?_)
        refine WL.nil ?_
        exact WX.one ⟨rfl, by first | exact Chg.refl _ _ | assumption⟩
      apply DQ.step (E' := [(19, _), (17, _)])
      case ho => rfl
      case hs => exact ⟨rfl, rfl, trivial⟩
      case hk => rfl
      case h1 =>
        intro wq_7 kq_7
        have zs_kq_7 := kq_7.size
        replace hR := hR.pure kq_7
        replace hw := hw.pure kq_7
        refine WL.indexArrO a.toNat Try.underlying63 Try.sizeOf3 rfl rfl ⟨rfl, a.toNat_lt⟩ rfl ?_
        refine WL.nil ?_
        exact WX.one ⟨rfl, by first | exact Chg.refl _ _ | assumption⟩
      apply DQ.step (E' := [(20, _)])
      case ho => rfl
      case hs => exact ⟨rfl, trivial⟩
      case hk => rfl
      case h1 =>
        intro wq_8 kq_8
        have zs_kq_8 := kq_8.size
        replace hR := hR.pure kq_8
        replace hw := hw.pure kq_8
        refine WL.loadB Try.isAgg3 hR rfl (FR_l a) rfl ?_
        refine WL.nil ?_
        exact WX.one ⟨rfl, by first | exact Chg.refl _ _ | assumption⟩
      apply DQ.step (E' := [(0, _)])
      case ho => rfl
      case hs => exact ⟨rfl, trivial⟩
      case hk => rfl
      case h1 =>
        intro wq_9 kq_9
        refine WL.move rfl rfl (?_)
        refine WL.nil ?_
        exact WX.one ⟨rfl, by first | exact Chg.refl _ _ | assumption⟩
      apply DQ.step (E' := [(2, _)])
      case ho => rfl
      case hs => exact ⟨rfl, trivial⟩
      case hk => rfl
      case h1 =>
        intro wq_10 kq_10
        refine WL.move rfl rfl (?_)
        refine WL.nil ?_
        exact WX.one ⟨rfl, by first | exact Chg.refl _ _ | assumption⟩
      apply DQ.step (E' := [(22, _)])
      case ho => rfl
      case hs => exact ⟨rfl, trivial⟩
      case hk => rfl
      case h1 =>
        intro wq_11 kq_11
        refine WL.nilCheck rfl rfl (?_)
        refine WL.nil ?_
        exact WX.one ⟨rfl, by first | exact Chg.refl _ _ | assumption⟩
      apply DQ.step (E' := [(24, _)])
      case ho => rfl
      case hs => exact ⟨rfl, trivial⟩
      case hk => rfl
      case h1 =>
        intro wq_12 kq_12
        refine WL.fieldAddr (fld_65_2) rfl rfl (?_)
        refine WL.nil ?_
        exact WX.one ⟨rfl, by first | exact Chg.refl _ _ | assumption⟩
      apply DQ.step (E' := [(25, _), (23, _)])
      case ho => rfl
      case hs => exact ⟨rfl, rfl, trivial⟩
      case hk => rfl
      case h1 =>
        intro wq_13 kq_13
        have zs_kq_13 := kq_13.size
        replace hR := hR.pure kq_13
        replace hw := hw.pure kq_13
        refine WL.indexArrO b.toNat Try.underlying63 Try.sizeOf3 rfl rfl ⟨rfl, b.toNat_lt⟩ rfl ?_
        refine WL.nil ?_
        exact WX.one ⟨rfl, by first | exact Chg.refl _ _ | assumption⟩
      apply DQ.step (E' := [(26, _)])
      case ho => rfl
      case hs => exact ⟨rfl, trivial⟩
      case hk => rfl
      case h1 =>
        intro wq_14 kq_14
        have zs_kq_14 := kq_14.size
        replace hR := hR.pure kq_14
        replace hw := hw.pure kq_14
        refine WL.loadB Try.isAgg3 hR rfl (FR_l b) rfl ?_
        refine WL.nil ?_
        exact WX.one ⟨rfl, by first | exact Chg.refl _ _ | assumption⟩
      apply DQ.step (E' := [(21, _), (27, _)])
      case ho => rfl
      case hs => exact ⟨rfl, rfl, trivial⟩
      case hk => rfl
      case h1 =>
        intro wq_15 kq_15
        refine WL.add64 rfl rfl (by first | omega | (constructor <;> omega)) rfl (?_)
        refine WL.nil ?_
        exact WX.one ⟨rfl, by first | exact Chg.refl _ _ | assumption⟩
      apply DQ.step (E' := [(15, _)])
      case ho => rfl
      case hs => exact ⟨rfl, trivial⟩
      case hk => rfl
      case h1 =>
        intro wq_16 kq_16
        refine WL.nilCheck rfl rfl (?_)
        refine WL.nil ?_
        exact WX.one ⟨rfl, by first | exact Chg.refl _ _ | assumption⟩
      apply DQ.step (E' := [(29, _)])
      case ho => rfl
      case hs => exact ⟨rfl, trivial⟩
      case hk => rfl
      case h1 =>
        intro wq_17 kq_17
        refine WL.fieldAddr (fld_65_1) rfl rfl (?_)
        refine WL.nil ?_
        exact WX.one ⟨rfl, by first | exact Chg.refl _ _ | assumption⟩
      apply DQ.step (E' := [(30, _), (28, _)])
      case ho => rfl
      case hs => exact ⟨rfl, rfl, trivial⟩
      case hk => rfl
      case h1 =>
        intro wq_18 kq_18
        have zs_kq_18 := kq_18.size
        replace hR := hR.pure kq_18
        replace hw := hw.pure kq_18
        refine WL.indexArrO (L a + L b) Try.underlying62 Try.sizeOf5 rfl rfl ⟨by omega, by omega⟩ rfl ?_
        refine WL.nil ?_
        exact WX.one ⟨rfl, by first | exact Chg.refl _ _ | assumption⟩
      apply DQ.step (E' := [(31, _)])
      case ho => rfl
      case hs => exact ⟨rfl, trivial⟩
      case hk => rfl
      case h1 =>
        intro wq_19 kq_19
        have zs_kq_19 := kq_19.size
        replace hR := hR.pure kq_19
        replace hw := hw.pure kq_19
        refine WL.loadB Try.isAgg5 hR rfl (FR_e (by omega)) rfl ?_
        refine WL.nil ?_
        exact WX.one ⟨rfl, by first | exact Chg.refl _ _ | assumption⟩
      apply DQ.step (E' := [(32, _)])
      case ho => rfl
      case hs => exact ⟨rfl, trivial⟩
      case hk => rfl
      case h1 =>
        intro wq_20 kq_20
        refine WL.assign rfl rfl (?_)
        refine WL.nil ?_
        exact WX.one ⟨rfl, by first | exact Chg.refl _ _ | assumption⟩
      refine DQ.done (fun _ => ?_)
      refine DL.done (fun we_21 ke_21 => ?_)
      have zs_ke_21 := ke_21.size
      replace hR := hR.pure ke_21
      replace hw := hw.pure ke_21
      refine WX.then_normal (WC.ret (?_))
      refine WX.ret1 (.inl rfl) Try.results15 rfl ?_
      first
        | (have ha := u8_zero h8
           subst ha
           refine ⟨_, rfl, ?_, hw⟩
           rw [mul_zero_l]
           rfl)
        | (have hb := u8_zero h11
           subst hb
           refine ⟨_, rfl, ?_, hw⟩
           rw [mul_zero_r]
           rfl)
        | (refine ⟨_, rfl, ?_, hw⟩
           rw [mul, if_neg (by rintro (h | h); exact u8_ne h8 h; exact u8_ne h11 h)])
theorem mulT_calls {w : World} {g : Nat} (hF : Fld w g) (a b : UInt8) (ha : a ≠ 0) (hb : b ≠ 0) : Calls Try.prog 15 [.pointer (some ⟨g, 0, none⟩), v8 a, v8 b].toArray w (Ret fun v w' => v = v8 (mul a b) ∧ Blk w' g 65 FR ∧ Chg (fun x => x = g) w w') := by
  have hw := Chg.refl (fun x => x = g) w
  have hla := L_lt a
  have hlb := L_lt b
  refine Calls.of_WC Try.func15 rfl Try.ntmps15 (by simp) ?_
  refine WC.seq (WC.region (WL.assign rfl rfl (WL.nil (WX.then_normal (WC.seq (WC.seq (WC.region (?_))))))))
  refine WL.move rfl rfl (?_)
  refine WL.eql? rfl rfl rfl (fun h8 => ?_) (fun h8 => ?_)
  ·
    refine WL.move rfl rfl (WL.pass rfl rfl rfl rfl (WL.pass rfl rfl rfl rfl (WL.pickT rfl rfl rfl (WL.nil (WX.then_normal (WC.cond_true rfl (WC.seq (?_))))))))
    refine WC.region (WL.assign rfl rfl (WL.nil (WX.then_normal (WC.ret (WX.then_ret (?_))))))
    refine WX.ret1 (.inl rfl) Try.results15 rfl ?_
    first
      | (exfalso; exact ha (u8_zero h8))
      | (exfalso; exact hb (u8_zero h11))
      | (refine ⟨_, rfl, ?_, hR, hw⟩
         rw [mul, if_neg (by rintro (h | h); exact u8_ne h8 h; exact u8_ne h11 h)])
  ·
    refine WL.move rfl rfl (WL.want rfl rfl rfl (WL.move rfl rfl (WL.want rfl rfl rfl (?_))))
    refine WL.eql? rfl rfl rfl (fun h11 => ?_) (fun h11 => ?_)
    ·
      refine WL.pickF rfl rfl rfl (WL.nil (WX.then_normal (WC.cond_true rfl (WC.seq (WC.region (WL.assign rfl rfl (WL.nil (?_))))))))
      refine WX.then_normal (WC.ret (WX.then_ret (?_)))
      refine WX.ret1 (.inl rfl) Try.results15 rfl ?_
      first
        | (exfalso; exact ha (u8_zero h8))
        | (exfalso; exact hb (u8_zero h11))
        | (refine ⟨_, rfl, ?_, hR, hw⟩
           rw [mul, if_neg (by rintro (h | h); exact u8_ne h8 h; exact u8_ne h11 h)])
    ·
      refine WL.pickF rfl rfl rfl (WL.nil (WX.then_normal (WC.cond_false rfl (WC.skip (WX.then_normal (WC.seq (WC.region (?_))))))))
      refine WL.move rfl rfl (?_)
      refine WL.call eg_29 rfl rfl (ready_calls hF) ?_
      rintro v w2 ⟨rfl, hR, k⟩
      have zs_k := k.size
      replace hw := hw.chg k (by first | (intro x h1 h2; exact h2) | (intro x h0 h1 h2; exact hS x h1 h2) | (intro x h0 h1 h2; have h3 : _ = _ := h2; subst h3; exact hSR h1.1) | (intro x h1 h2; have h3 : _ = _ := h2; subst h3; assumption) | (intro x h1 h2; have h3 : _ = _ := h2; exfalso; omega) | (intro b h1 h2 h3; have h4 : _ = _ := h3; (try dsimp only at h2); exfalso; omega) | (intro h1; have h2 : _ = _ := h1; exfalso; omega) | (intro h1; have h2 : _ ≤ _ := h1; exfalso; omega) | (intros; exfalso; (try dsimp only at *); omega) | (intro b h1 h2 h3; exfalso; have h4 := h3.2; (try dsimp only at *); omega) | (intro h1; exfalso; have h4 := h1.2; (try dsimp only at *); omega) | (intro x h1 h2; exfalso; have h4 := h2.2; (try dsimp only at *); omega) | (intro x h1 h2; exact ⟨_, rfl, h2⟩) | (intro x h1 h2; have h4 := h2.1; have h5 := h2.2; exfalso; omega) | (intro x h1 h2; exact h2.1) | (intro x h1 h2; rcases h2.1 with h3 | h3; exact h3; exfalso; omega) | (intro x h1 h2; rcases h2 with h3 | h3; exact h3; exfalso; omega))
      refine WL.assign rfl rfl (WL.nil (WX.then_normal (WC.seq (?_))))
      refine WC.draw (Nob) [0, 1, 2, 3, 4, 5, 6, 7, 8, 9, 10, 11, 12, 13, 14, 15, 16, 17, 18] [] mixed rfl rfl (fun wd_1 kd_1 zd_1 => ?_)
      have zs_kd_1 := kd_1.size
      replace hw := hw.pure kd_1
      replace hR := hR.pure kd_1
      apply DQ.step (E' := [(0, _)])
      case ho => rfl
      case hs => exact ⟨rfl, trivial⟩
      case hk => rfl
      case h1 =>
        intro wq_2 kq_2
        refine WL.move rfl rfl (?_)
        refine WL.nil ?_
        exact WX.one ⟨rfl, by first | exact Chg.refl _ _ | assumption⟩
      apply DQ.step (E' := [(0, _)])
      case ho => rfl
      case hs => exact ⟨rfl, trivial⟩
      case hk => rfl
      case h1 =>
        intro wq_3 kq_3
        refine WL.move rfl rfl (?_)
        refine WL.nil ?_
        exact WX.one ⟨rfl, by first | exact Chg.refl _ _ | assumption⟩
      apply DQ.step (E' := [(1, _)])
      case ho => rfl
      case hs => exact ⟨rfl, trivial⟩
      case hk => rfl
      case h1 =>
        intro wq_4 kq_4
        refine WL.move rfl rfl (?_)
        refine WL.nil ?_
        exact WX.one ⟨rfl, by first | exact Chg.refl _ _ | assumption⟩
      apply DQ.step (E' := [(16, _)])
      case ho => rfl
      case hs => exact ⟨rfl, trivial⟩
      case hk => rfl
      case h1 =>
        intro wq_5 kq_5
        refine WL.nilCheck rfl rfl (?_)
        refine WL.nil ?_
        exact WX.one ⟨rfl, by first | exact Chg.refl _ _ | assumption⟩
      apply DQ.step (E' := [(18, _)])
      case ho => rfl
      case hs => exact ⟨rfl, trivial⟩
      case hk => rfl
      case h1 =>
        intro wq_6 kq_6
        refine WL.fieldAddr (fld_65_2) rfl rfl (?_)
        refine WL.nil ?_
        exact WX.one ⟨rfl, by first | exact Chg.refl _ _ | assumption⟩
      apply DQ.step (E' := [(19, _), (17, _)])
      case ho => rfl
      case hs => exact ⟨rfl, rfl, trivial⟩
      case hk => rfl
      case h1 =>
        intro wq_7 kq_7
        have zs_kq_7 := kq_7.size
        replace hw := hw.pure kq_7
        replace hR := hR.pure kq_7
        refine WL.indexArrO a.toNat Try.underlying63 Try.sizeOf3 rfl rfl ⟨rfl, a.toNat_lt⟩ rfl ?_
        refine WL.nil ?_
        exact WX.one ⟨rfl, by first | exact Chg.refl _ _ | assumption⟩
      apply DQ.step (E' := [(20, _)])
      case ho => rfl
      case hs => exact ⟨rfl, trivial⟩
      case hk => rfl
      case h1 =>
        intro wq_8 kq_8
        have zs_kq_8 := kq_8.size
        replace hw := hw.pure kq_8
        replace hR := hR.pure kq_8
        refine WL.loadB Try.isAgg3 hR rfl (FR_l a) rfl ?_
        refine WL.nil ?_
        exact WX.one ⟨rfl, by first | exact Chg.refl _ _ | assumption⟩
      apply DQ.step (E' := [(0, _)])
      case ho => rfl
      case hs => exact ⟨rfl, trivial⟩
      case hk => rfl
      case h1 =>
        intro wq_9 kq_9
        refine WL.move rfl rfl (?_)
        refine WL.nil ?_
        exact WX.one ⟨rfl, by first | exact Chg.refl _ _ | assumption⟩
      apply DQ.step (E' := [(2, _)])
      case ho => rfl
      case hs => exact ⟨rfl, trivial⟩
      case hk => rfl
      case h1 =>
        intro wq_10 kq_10
        refine WL.move rfl rfl (?_)
        refine WL.nil ?_
        exact WX.one ⟨rfl, by first | exact Chg.refl _ _ | assumption⟩
      apply DQ.step (E' := [(22, _)])
      case ho => rfl
      case hs => exact ⟨rfl, trivial⟩
      case hk => rfl
      case h1 =>
        intro wq_11 kq_11
        refine WL.nilCheck rfl rfl (?_)
        refine WL.nil ?_
        exact WX.one ⟨rfl, by first | exact Chg.refl _ _ | assumption⟩
      apply DQ.step (E' := [(24, _)])
      case ho => rfl
      case hs => exact ⟨rfl, trivial⟩
      case hk => rfl
      case h1 =>
        intro wq_12 kq_12
        refine WL.fieldAddr (fld_65_2) rfl rfl (?_)
        refine WL.nil ?_
        exact WX.one ⟨rfl, by first | exact Chg.refl _ _ | assumption⟩
      apply DQ.step (E' := [(25, _), (23, _)])
      case ho => rfl
      case hs => exact ⟨rfl, rfl, trivial⟩
      case hk => rfl
      case h1 =>
        intro wq_13 kq_13
        have zs_kq_13 := kq_13.size
        replace hw := hw.pure kq_13
        replace hR := hR.pure kq_13
        refine WL.indexArrO b.toNat Try.underlying63 Try.sizeOf3 rfl rfl ⟨rfl, b.toNat_lt⟩ rfl ?_
        refine WL.nil ?_
        exact WX.one ⟨rfl, by first | exact Chg.refl _ _ | assumption⟩
      apply DQ.step (E' := [(26, _)])
      case ho => rfl
      case hs => exact ⟨rfl, trivial⟩
      case hk => rfl
      case h1 =>
        intro wq_14 kq_14
        have zs_kq_14 := kq_14.size
        replace hw := hw.pure kq_14
        replace hR := hR.pure kq_14
        refine WL.loadB Try.isAgg3 hR rfl (FR_l b) rfl ?_
        refine WL.nil ?_
        exact WX.one ⟨rfl, by first | exact Chg.refl _ _ | assumption⟩
      apply DQ.step (E' := [(21, _), (27, _)])
      case ho => rfl
      case hs => exact ⟨rfl, rfl, trivial⟩
      case hk => rfl
      case h1 =>
        intro wq_15 kq_15
        refine WL.add64 rfl rfl (by first | omega | (constructor <;> omega)) rfl (?_)
        refine WL.nil ?_
        exact WX.one ⟨rfl, by first | exact Chg.refl _ _ | assumption⟩
      apply DQ.step (E' := [(15, _)])
      case ho => rfl
      case hs => exact ⟨rfl, trivial⟩
      case hk => rfl
      case h1 =>
        intro wq_16 kq_16
        refine WL.nilCheck rfl rfl (?_)
        refine WL.nil ?_
        exact WX.one ⟨rfl, by first | exact Chg.refl _ _ | assumption⟩
      apply DQ.step (E' := [(29, _)])
      case ho => rfl
      case hs => exact ⟨rfl, trivial⟩
      case hk => rfl
      case h1 =>
        intro wq_17 kq_17
        refine WL.fieldAddr (fld_65_1) rfl rfl (?_)
        refine WL.nil ?_
        exact WX.one ⟨rfl, by first | exact Chg.refl _ _ | assumption⟩
      apply DQ.step (E' := [(30, _), (28, _)])
      case ho => rfl
      case hs => exact ⟨rfl, rfl, trivial⟩
      case hk => rfl
      case h1 =>
        intro wq_18 kq_18
        have zs_kq_18 := kq_18.size
        replace hw := hw.pure kq_18
        replace hR := hR.pure kq_18
        refine WL.indexArrO (L a + L b) Try.underlying62 Try.sizeOf5 rfl rfl ⟨by omega, by omega⟩ rfl ?_
        refine WL.nil ?_
        exact WX.one ⟨rfl, by first | exact Chg.refl _ _ | assumption⟩
      apply DQ.step (E' := [(31, _)])
      case ho => rfl
      case hs => exact ⟨rfl, trivial⟩
      case hk => rfl
      case h1 =>
        intro wq_19 kq_19
        have zs_kq_19 := kq_19.size
        replace hw := hw.pure kq_19
        replace hR := hR.pure kq_19
        refine WL.loadB Try.isAgg5 hR rfl (FR_e (by omega)) rfl ?_
        refine WL.nil ?_
        exact WX.one ⟨rfl, by first | exact Chg.refl _ _ | assumption⟩
      apply DQ.step (E' := [(32, _)])
      case ho => rfl
      case hs => exact ⟨rfl, trivial⟩
      case hk => rfl
      case h1 =>
        intro wq_20 kq_20
        refine WL.assign rfl rfl (?_)
        refine WL.nil ?_
        exact WX.one ⟨rfl, by first | exact Chg.refl _ _ | assumption⟩
      refine DQ.done (fun _ => ?_)
      refine DL.done (fun we_21 ke_21 => ?_)
      have zs_ke_21 := ke_21.size
      replace hw := hw.pure ke_21
      replace hR := hR.pure ke_21
      refine WX.then_normal (WC.ret (?_))
      refine WX.ret1 (.inl rfl) Try.results15 rfl ?_
      first
        | (exfalso; exact ha (u8_zero h8))
        | (exfalso; exact hb (u8_zero h11))
        | (refine ⟨_, rfl, ?_, hR, hw⟩
           rw [mul, if_neg (by rintro (h | h); exact u8_ne h8 h; exact u8_ne h11 h)])
set_option maxRecDepth 100000 in
theorem powR_two (m : Nat) : powR 2 (m : Int) = (G m, 0) := by
  have hL : L 2 = 1 := by decide +kernel
  rw [powR, if_neg (by omega)]
  by_cases hm : (m : Int) = 0
  · rw [if_pos hm, show m = 0 from by omega, G_zero]
  · rw [if_neg hm, if_neg (by decide), hL, Int.toNat_natCast, Nat.one_mul, Nat.mod_mod, G]
theorem weights_calls {w : World} {g : Nat} (hF : Fld w g) (i : Nat) : Calls Try.prog 50 [.pointer (some ⟨g, 0, none⟩), vi i].toArray w (Ret fun v w' => v = .agg ([wtq 0 i, wtq 1 i, wtq 2 i].map v8).toArray ∧ Blk w' g 65 FR ∧ Chg (fun x => x = g) w w') := by
  have hw := Chg.refl (fun x => x = g) w
  have lg := hF.lt
  refine Calls.of_WC Try.func50 rfl Try.ntmps50 (by simp) ?_
  refine WC.seq (WC.region (?_))
  refine WL.alloc Try.zeroValue84 rfl ?_
  intro g_1 w_1 hge_1 hlt_1 hb_1 k_1
  have zs_k_1 := k_1.size
  replace hF := hF.pure k_1
  replace hw := hw.pure k_1
  refine WL.nil (WX.then_normal (WC.seq (WC.region (WL.move rfl rfl (WL.move rfl rfl (?_))))))
  refine WL.call eg_54 rfl rfl (pow_calls hF 2 i) ?_
  rintro v w1 ⟨rfl, hF2, k⟩
  rw [powR_two]
  have zs_k := k.size
  replace hw := hw.chg k (by first | (intro x h1 h2; exact h2) | (intro x h0 h1 h2; exact hS x h1 h2) | (intro x h0 h1 h2; have h3 : _ = _ := h2; subst h3; exact hSR h1.1) | (intro x h1 h2; have h3 : _ = _ := h2; subst h3; assumption) | (intro x h1 h2; have h3 : _ = _ := h2; exfalso; omega) | (intro b h1 h2 h3; have h4 : _ = _ := h3; (try dsimp only at h2); exfalso; omega) | (intro h1; have h2 : _ = _ := h1; exfalso; omega) | (intro h1; have h2 : _ ≤ _ := h1; exfalso; omega) | (intros; exfalso; (try dsimp only at *); omega) | (intro b h1 h2 h3; exfalso; have h4 := h3.2; (try dsimp only at *); omega) | (intro h1; exfalso; have h4 := h1.2; (try dsimp only at *); omega) | (intro x h1 h2; exfalso; have h4 := h2.2; (try dsimp only at *); omega) | (intro x h1 h2; exact ⟨_, rfl, h2⟩) | (intro x h1 h2; have h4 := h2.1; have h5 := h2.2; exfalso; omega) | (intro x h1 h2; exact h2.1) | (intro x h1 h2; rcases h2.1 with h3 | h3; exact h3; exfalso; omega) | (intro x h1 h2; rcases h2 with h3 | h3; exact h3; exfalso; omega))
  replace hb_1 := hb_1.chg k (by first | (intro x h1 h2; exact h2) | (intro x h0 h1 h2; exact hS x h1 h2) | (intro x h0 h1 h2; have h3 : _ = _ := h2; subst h3; exact hSR h1.1) | (intro x h1 h2; have h3 : _ = _ := h2; subst h3; assumption) | (intro x h1 h2; have h3 : _ = _ := h2; exfalso; omega) | (intro b h1 h2 h3; have h4 : _ = _ := h3; (try dsimp only at h2); exfalso; omega) | (intro h1; have h2 : _ = _ := h1; exfalso; omega) | (intro h1; have h2 : _ ≤ _ := h1; exfalso; omega) | (intros; exfalso; (try dsimp only at *); omega) | (intro b h1 h2 h3; exfalso; have h4 := h3.2; (try dsimp only at *); omega) | (intro h1; exfalso; have h4 := h1.2; (try dsimp only at *); omega) | (intro x h1 h2; exfalso; have h4 := h2.2; (try dsimp only at *); omega) | (intro x h1 h2; exact ⟨_, rfl, h2⟩) | (intro x h1 h2; have h4 := h2.1; have h5 := h2.2; exfalso; omega) | (intro x h1 h2; exact h2.1) | (intro x h1 h2; rcases h2.1 with h3 | h3; exact h3; exfalso; omega) | (intro x h1 h2; rcases h2 with h3 | h3; exact h3; exfalso; omega))
  replace hF := hF2
  refine WL.move rfl rfl (WL.extract rfl rfl rfl (WL.extract rfl rfl rfl (WL.assign rfl rfl (WL.assign rfl rfl (WL.nil (WX.then_normal (WC.seq (?_))))))))
  refine WC.region (WL.move rfl rfl (WL.move rfl rfl (WL.move rfl rfl (WL.move rfl rfl (?_)))))
  refine WL.call eg_15 rfl rfl (mulT_calls hF (G i) (G i) (G_ne i) (G_ne i)) ?_
  rintro v w1 ⟨rfl, hR, k⟩
  have zs_k := k.size
  replace hw := hw.chg k (by first | (intro x h1 h2; exact h2) | (intro x h0 h1 h2; exact hS x h1 h2) | (intro x h0 h1 h2; have h3 : _ = _ := h2; subst h3; exact hSR h1.1) | (intro x h1 h2; have h3 : _ = _ := h2; subst h3; assumption) | (intro x h1 h2; have h3 : _ = _ := h2; exfalso; omega) | (intro b h1 h2 h3; have h4 : _ = _ := h3; (try dsimp only at h2); exfalso; omega) | (intro h1; have h2 : _ = _ := h1; exfalso; omega) | (intro h1; have h2 : _ ≤ _ := h1; exfalso; omega) | (intros; exfalso; (try dsimp only at *); omega) | (intro b h1 h2 h3; exfalso; have h4 := h3.2; (try dsimp only at *); omega) | (intro h1; exfalso; have h4 := h1.2; (try dsimp only at *); omega) | (intro x h1 h2; exfalso; have h4 := h2.2; (try dsimp only at *); omega) | (intro x h1 h2; exact ⟨_, rfl, h2⟩) | (intro x h1 h2; have h4 := h2.1; have h5 := h2.2; exfalso; omega) | (intro x h1 h2; exact h2.1) | (intro x h1 h2; rcases h2.1 with h3 | h3; exact h3; exfalso; omega) | (intro x h1 h2; rcases h2 with h3 | h3; exact h3; exfalso; omega))
  replace hb_1 := hb_1.chg k (by first | (intro x h1 h2; exact h2) | (intro x h0 h1 h2; exact hS x h1 h2) | (intro x h0 h1 h2; have h3 : _ = _ := h2; subst h3; exact hSR h1.1) | (intro x h1 h2; have h3 : _ = _ := h2; subst h3; assumption) | (intro x h1 h2; have h3 : _ = _ := h2; exfalso; omega) | (intro b h1 h2 h3; have h4 : _ = _ := h3; (try dsimp only at h2); exfalso; omega) | (intro h1; have h2 : _ = _ := h1; exfalso; omega) | (intro h1; have h2 : _ ≤ _ := h1; exfalso; omega) | (intros; exfalso; (try dsimp only at *); omega) | (intro b h1 h2 h3; exfalso; have h4 := h3.2; (try dsimp only at *); omega) | (intro h1; exfalso; have h4 := h1.2; (try dsimp only at *); omega) | (intro x h1 h2; exfalso; have h4 := h2.2; (try dsimp only at *); omega) | (intro x h1 h2; exact ⟨_, rfl, h2⟩) | (intro x h1 h2; have h4 := h2.1; have h5 := h2.2; exfalso; omega) | (intro x h1 h2; exact h2.1) | (intro x h1 h2; rcases h2.1 with h3 | h3; exact h3; exfalso; omega) | (intro x h1 h2; rcases h2 with h3 | h3; exact h3; exfalso; omega))
  refine WL.bld rfl (bld_84_0_1_2 _ _ _) rfl (?_)
  refine WL.stores Try.sizeOf84 hb_1 rfl rfl (by first | (simp; done) | (simp; omega) | rfl) (by first | exact Enc.one _ _ | (intro u hu; obtain ⟨x, _, rfl⟩ := List.mem_map.1 hu; rfl) | (simp [Value.oneCell']; done) | (simp [Value.oneCell', Value.cells]; done)) (by first | (simp; done) | (simp; omega) | (simp [Value.cells]; done) | (simp [Value.cells]; omega) | exact Nat.le_of_ble_eq_true rfl) rfl ?_
  intro w_2 hs_2 hn_2 k_2
  have zs_k_2 := k_2.size
  replace hw := hw.chg k_2 (by first | (intro x h1 h2; exact h2) | (intro x h0 h1 h2; exact hS x h1 h2) | (intro x h0 h1 h2; have h3 : _ = _ := h2; subst h3; exact hSR h1.1) | (intro x h1 h2; have h3 : _ = _ := h2; subst h3; assumption) | (intro x h1 h2; have h3 : _ = _ := h2; exfalso; omega) | (intro b h1 h2 h3; have h4 : _ = _ := h3; (try dsimp only at h2); exfalso; omega) | (intro h1; have h2 : _ = _ := h1; exfalso; omega) | (intro h1; have h2 : _ ≤ _ := h1; exfalso; omega) | (intros; exfalso; (try dsimp only at *); omega) | (intro b h1 h2 h3; exfalso; have h4 := h3.2; (try dsimp only at *); omega) | (intro h1; exfalso; have h4 := h1.2; (try dsimp only at *); omega) | (intro x h1 h2; exfalso; have h4 := h2.2; (try dsimp only at *); omega) | (intro x h1 h2; exact ⟨_, rfl, h2⟩) | (intro x h1 h2; have h4 := h2.1; have h5 := h2.2; exfalso; omega) | (intro x h1 h2; exact h2.1) | (intro x h1 h2; rcases h2.1 with h3 | h3; exact h3; exfalso; omega) | (intro x h1 h2; rcases h2 with h3 | h3; exact h3; exfalso; omega))
  replace hR := hR.chg k_2 (by first | (intro x h1 h2; exact h2) | (intro x h0 h1 h2; exact hS x h1 h2) | (intro x h0 h1 h2; have h3 : _ = _ := h2; subst h3; exact hSR h1.1) | (intro x h1 h2; have h3 : _ = _ := h2; subst h3; assumption) | (intro x h1 h2; have h3 : _ = _ := h2; exfalso; omega) | (intro b h1 h2 h3; have h4 : _ = _ := h3; (try dsimp only at h2); exfalso; omega) | (intro h1; have h2 : _ = _ := h1; exfalso; omega) | (intro h1; have h2 : _ ≤ _ := h1; exfalso; omega) | (intros; exfalso; (try dsimp only at *); omega) | (intro b h1 h2 h3; exfalso; have h4 := h3.2; (try dsimp only at *); omega) | (intro h1; exfalso; have h4 := h1.2; (try dsimp only at *); omega) | (intro x h1 h2; exfalso; have h4 := h2.2; (try dsimp only at *); omega) | (intro x h1 h2; exact ⟨_, rfl, h2⟩) | (intro x h1 h2; have h4 := h2.1; have h5 := h2.2; exfalso; omega) | (intro x h1 h2; exact h2.1) | (intro x h1 h2; rcases h2.1 with h3 | h3; exact h3; exfalso; omega) | (intro x h1 h2; rcases h2 with h3 | h3; exact h3; exfalso; omega))
  replace hb_1 := hn_2
  refine WL.nil (WX.then_normal (WC.ret (?_)))
  refine WX.ret1c (.inl rfl) Try.results50 Try.isAgg84 Try.sizeOf84 hb_1 rfl (by first | (simp; done) | (simp; omega) | rfl) ?_
  exact ⟨_, rfl, rfl, hR, hw⟩
end Go.Proofs.Ytjdbjdgobhjbkaa
namespace Go.HL
open Go.RowKit
/-- rows of the call's own, gathered one behind the other, each in a block of its own -/
structure AR (L N n1 : Nat) (w : World) (T U : TypeId) (ao : Option Addr) (c : Nat) (gs : List Nat) (rs : List Rw) : Prop where
  outer : Row (fun x => N ≤ x ∧ x < n1) w T erow ao c rs
  inner : ∀ (i g : Nat) (r : Rw), gs[i]? = some g → rs[i]? = some r → r.ao = some ⟨g, 0, none⟩ ∧ Row (fun b => b = g) w U eb (some ⟨g, 0, none⟩) r.cap r.xs ∧ g < n1 ∧ ¬ Eqb ao g
  len : gs.length = rs.length
  apart : ∀ (i j g : Nat), gs[i]? = some g → gs[j]? = some g → i = j
  low : ∀ (i g : Nat), gs[i]? = some g → L ≤ g
section
variable {L N n1 : Nat} {w w' : World} {T U : TypeId} {ao : Option Addr} {c : Nat} {gs : List Nat} {rs : List Rw} {M : Nat → Prop}
theorem AR.nil (L N n1 : Nat) (w : World) (T U : TypeId) : AR L N n1 w T U none 0 [] [] :=
  ⟨Row.nil _ _ _ _, fun i g r h => by simp at h, rfl, fun i j g h => by simp at h, fun i g h => by simp at h⟩
theorem AR.chg (h : AR L N n1 w T U ao c gs rs) (k : Chg M w w') (hd : ∀ x, x < n1 → M x → False) : AR L N n1 w' T U ao c gs rs :=
  ⟨h.outer.chg k (fun b _ hs hm => hd b hs.2 hm), fun i g r hg hr => by
    obtain ⟨h1, h2, h3, h4⟩ := h.inner i g r hg hr
    exact ⟨h1, h2.chg k (fun b _ hs hm => hd b (by have h5 : b = g := hs; omega) hm), h3, h4⟩, h.len, h.apart, h.low⟩
theorem AR.pure (h : AR L N n1 w T U ao c gs rs) (k : Chg Nob w w') : AR L N n1 w' T U ao c gs rs := h.chg k (fun _ _ x => x)
theorem get_snoc {α : Type} {l : List α} {a b : α} {i : Nat} (h : (l ++ [a])[i]? = some b) : l[i]? = some b ∨ i = l.length ∧ b = a := by
  rcases Nat.lt_or_ge i l.length with h2 | h2
  · rw [List.getElem?_append_left h2] at h; exact .inl h
  · rw [List.getElem?_append_right h2] at h
    have h3 := (List.getElem?_eq_some_iff.1 h).1
    simp at h3
    have h4 : i - l.length = 0 := by omega
    rw [h4] at h
    simp at h
    exact .inr ⟨by omega, h.symm⟩
/-- one more, which was made after all others -/
theorem AR.snoc (h : AR L N n1 w T U ao c gs rs) {g cr : Nat} {xs : List UInt8} (hg : n1 ≤ g) (hL : L ≤ g) (hr : Row (fun b => b = g) w U eb (some ⟨g, 0, none⟩) cr xs) (hs : n1 ≤ w.heap.size) {ao2 : Option Addr} {c2 : Nat} (ho : Row (fun x => N ≤ x) w' T erow ao2 c2 (rs ++ [⟨some ⟨g, 0, none⟩, cr, xs⟩])) (gw : Grow (fun x => N ≤ x) w ao w' ao2) :
    AR L N w'.heap.size w' T U ao2 c2 (gs ++ [g]) (rs ++ [⟨some ⟨g, 0, none⟩, cr, xs⟩]) := by
  have zs := gw.chg.size
  have hgl : g < w.heap.size := hr.own.lt _ rfl
  have hat : ∀ x, Eqb ao x → x < n1 := fun x e => (h.outer.at_.eqb e).2
  have hnew : ∀ x, x < w.heap.size → Eqb ao2 x → Eqb ao x := by
    intro x hx e
    rcases gw.fr with e1 | e1
    · rw [← e1]; exact e
    · have := e1.eqb e
      omega
  refine ⟨ho.lt, fun i g' r hg' hr' => ?_, by simp [h.len], fun i j g' h1 h2 => ?_, fun i g' h1 => ?_⟩
  · rcases get_snoc hg' with h1 | ⟨h1, h1'⟩
    · have hil := (List.getElem?_eq_some_iff.1 h1).1
      rw [List.getElem?_append_left (by rw [← h.len]; exact hil)] at hr'
      obtain ⟨h2, h3, h4, h5⟩ := h.inner i g' r h1 hr'
      exact ⟨h2, h3.chg gw.chg (fun b _ hb hm => h5 ((show b = g' from hb) ▸ hm.1)), by omega, fun e => h5 (hnew g' (by omega) e)⟩
    · subst h1; subst h1'
      rw [List.getElem?_append_right (by rw [h.len]; exact Nat.le_refl _), h.len, Nat.sub_self] at hr'
      simp at hr'
      subst hr'
      exact ⟨rfl, hr.chg gw.chg (fun b _ hb hm => by have h6 : b = g' := hb; have := hat b hm.1; omega), by omega, fun e => by have := hat g' (hnew g' hgl e); omega⟩
  · rcases get_snoc h1 with h3 | ⟨h3, h3'⟩ <;> rcases get_snoc h2 with h4 | ⟨h4, h4'⟩
    · exact h.apart i j g' h3 h4
    · have hil := (List.getElem?_eq_some_iff.1 h3).1
      obtain ⟨r, hr0⟩ : ∃ r, rs[i]? = some r := ⟨_, List.getElem?_eq_getElem (by rw [← h.len]; exact hil)⟩
      have := (h.inner i g' r h3 hr0).2.2.1
      omega
    · have hil := (List.getElem?_eq_some_iff.1 h4).1
      obtain ⟨r, hr0⟩ : ∃ r, rs[j]? = some r := ⟨_, List.getElem?_eq_getElem (by rw [← h.len]; exact hil)⟩
      have := (h.inner j g' r h4 hr0).2.2.1
      omega
    · omega
  · rcases get_snoc h1 with h3 | ⟨h3, h3'⟩
    · exact h.low i g' h3
    · omega
/-- one row has turned -/
theorem AR.upd (h : AR L N n1 w T U ao c gs rs) {r g : Nat} {q : Rw} {x' : List UInt8} (hg : gs[r]? = some g) (hx : rs[r]? = some q) (hl : x'.length = q.xs.length) (k : Chg (fun b => b = g) w w') (hr : Row (fun b => b = g) w' U eb (some ⟨g, 0, none⟩) q.cap x') :
    AR L N n1 w' T U ao c gs (rs.set r ⟨q.ao, q.cap, x'⟩) := by
  obtain ⟨h1, h2, h3, h4⟩ := h.inner r g q hg hx
  have hrl : r < rs.length := (List.getElem?_eq_some_iff.1 hx).1
  have hgo : ∀ x, x = g → N ≤ x ∧ x < n1 → Eqb ao x → False := fun x e _ hq => h4 (e ▸ hq)
  refine ⟨?_, fun i g' r' hg' hr' => ?_, by rw [List.length_set]; exact h.len, h.apart, h.low⟩
  · have hat : Row (fun x => (N ≤ x ∧ x < n1) ∧ ¬ x = g) w T erow ao c rs := ⟨fun a ea => ⟨h.outer.at_ a ea, fun e => h4 ⟨a, ea, e.symm⟩⟩, h.outer.own⟩
    have ho := hat.chg k (fun b _ hs hm => hs.2 hm)
    have e1 : erow.all (rs.set r ⟨q.ao, q.cap, x'⟩) = erow.all rs := by
      have : ∀ (ys : List Rw) (r : Nat), ys[r]? = some q → erow.all (ys.set r ⟨q.ao, q.cap, x'⟩) = erow.all ys := by
        intro ys
        induction ys with
        | nil => intro r hr; simp at hr
        | cons y ys ih =>
          intro r hr
          cases r with
          | zero =>
            simp at hr
            subst hr
            simp [Enc.all, erow, hl]
          | succ r =>
            have := ih r (by simpa using hr)
            simp only [Enc.all] at this
            simp [Enc.all, this]
      exact this rs r hx
    exact ⟨fun a ea => (ho.at_ a ea).1, by rw [e1, List.length_set]; exact ho.own⟩
  · by_cases hir : i = r
    · subst hir
      rw [hg] at hg'
      injection hg' with hg'
      subst hg'
      rw [List.getElem?_set_self hrl] at hr'
      injection hr' with hr'
      subst hr'
      exact ⟨h1, hr, h3, h4⟩
    · rw [List.getElem?_set_ne (fun e => hir e.symm)] at hr'
      obtain ⟨i1, i2, i3, i4⟩ := h.inner i g' r' hg' hr'
      refine ⟨i1, i2.chg k (fun b _ hb hm => ?_), i3, i4⟩
      have e1 : b = g' := hb
      have e2 : b = g := hm
      exact hir (h.apart i r g (by rw [← e2, e1]; exact hg') hg)
/-- as rows that are read -/
theorem AR.read (h : AR L N n1 w T U ao c gs rs) : RS (fun _ => True) w ao c rs := by
  refine ⟨h.outer.rsl.mono (fun _ _ => trivial), fun r hr => ?_⟩
  obtain ⟨i, hi⟩ := List.getElem?_of_mem hr
  have hil := (List.getElem?_eq_some_iff.1 hi).1
  obtain ⟨g, hg⟩ : ∃ g, gs[i]? = some g := ⟨_, List.getElem?_eq_getElem (by rw [h.len]; exact hil)⟩
  obtain ⟨h1, h2, _⟩ := h.inner i g r hg hi
  rw [h1]
  exact h2.rsl.mono (fun _ _ => trivial)
end
end Go.HL
namespace Go.HL
open Go.RowKit
theorem get_app {α : Type} {l m : List α} {b : α} {i : Nat} (h : (l ++ m)[i]? = some b) : i < l.length ∧ l[i]? = some b ∨ l.length ≤ i ∧ m[i - l.length]? = some b := by
  rcases Nat.lt_or_ge i l.length with h2 | h2
  · rw [List.getElem?_append_left h2] at h; exact .inl ⟨h2, h⟩
  · rw [List.getElem?_append_right h2] at h; exact .inr ⟨h2, h⟩
/-- three more, which were made ahead of all others -/
theorem AR.app {L N n1 : Nat} {w w' : World} {T U : TypeId} {ao ao2 : Option Addr} {c c2 go k n : Nat} {gs gs' : List Nat} {rs : List Rw} {ys : List (List UInt8)} (h : AR L N n1 w T U ao c gs rs) (hp : OR w T U go k gs' n ys []) (hLN : N ≤ L)
    (hlt : ∀ (i g : Nat), gs'[i]? = some g → g < N) (hNn : N ≤ n1) (hs : n1 ≤ w.heap.size) (ho : Row (fun x => N ≤ x) w' T erow ao2 c2 (rs ++ orows gs' n ys)) (gw : Grow (fun x => N ≤ x) w ao w' ao2) :
    AR 0 N w'.heap.size w' T U ao2 c2 (gs ++ gs') (rs ++ orows gs' n ys) := by
  have zs := gw.chg.size
  have hat : ∀ x, Eqb ao x → N ≤ x ∧ x < n1 := fun x e => h.outer.at_.eqb e
  have hnew : ∀ x, x < w.heap.size → Eqb ao2 x → Eqb ao x := by
    intro x hx e
    rcases gw.fr with e1 | e1
    · rw [← e1]; exact e
    · have := e1.eqb e
      omega
  have hol := orows_len (n := n) hp.len
  refine ⟨ho.lt, fun i g' r hg' hr' => ?_, by rw [List.length_append, List.length_append, h.len, hol], fun i j g' h1 h2 => ?_, fun i g' h1 => Nat.zero_le _⟩
  · rcases get_app hg' with ⟨h0, h1⟩ | ⟨h0, h1⟩
    · rw [List.getElem?_append_left (by rw [← h.len]; exact h0)] at hr'
      obtain ⟨h2, h3, h4, h5⟩ := h.inner i g' r h1 hr'
      exact ⟨h2, h3.chg gw.chg (fun b _ hb hm => h5 ((show b = g' from hb) ▸ hm.1)), by omega, fun e => h5 (hnew g' (by omega) e)⟩
    · rw [List.getElem?_append_right (by rw [← h.len]; exact h0), ← h.len] at hr'
      have hil := (List.getElem?_eq_some_iff.1 h1).1
      obtain ⟨y, hy⟩ : ∃ y, ys[i - gs.length]? = some y := ⟨_, List.getElem?_eq_getElem (by rw [← hp.len]; exact hil)⟩
      have hrow := hp.inner _ g' y h1 hy
      rw [orows, List.getElem?_zipWith, h1, hy] at hr'
      injection hr' with hr'
      subst hr'
      have hg'N := hlt _ g' h1
      exact ⟨rfl, hrow.chg gw.chg (fun b _ hb hm => by have h6 : b = g' := hb; have := hat b hm.1; omega), by omega, fun e => by have := hat g' (hnew g' (by omega) e); omega⟩
  · rcases get_app h1 with ⟨h3, h3'⟩ | ⟨h3, h3'⟩ <;> rcases get_app h2 with ⟨h4, h4'⟩ | ⟨h4, h4'⟩
    · exact h.apart i j g' h3' h4'
    · have := h.low i g' h3'
      have := hlt _ g' h4'
      omega
    · have := h.low j g' h4'
      have := hlt _ g' h3'
      omega
    · have := hp.apart _ _ g' h3' h4'
      omega
end Go.HL
namespace Go.Proofs.Ytjdbjdgobhjbkaa
open Go.RowKit Go.HL

/-! rows joined; a row times an element; a row plus a multiple of another -/
theorem grow_calls {w : World} (n : Nat) (hn : 1 ≤ n ∧ n ≤ 100000) : Calls Try.prog 46 [.slice none 0 0, vi (n : Int)].toArray w (Ret fun v w' => (∃ g c, v = .slice (some ⟨g, 0, none⟩) 0 c ∧ Row (fun b => b = g) w' 5 eb (some ⟨g, 0, none⟩) c [] ∧ w.heap.size ≤ g) ∧ Chg Nob w w') := by
  have hw := Chg.refl Nob w
  refine Calls.of_WC Try.func46 rfl Try.ntmps46 (by simp) ?_
  refine WC.seq (WC.region (WL.assign rfl rfl (WL.nil (WX.then_normal (WC.seq (WC.seq (WC.region (?_))))))))
  refine WL.move rfl rfl (?_)
  refine WL.lssF rfl rfl rfl (by first | rfl | omega | decide) ?_
  refine WL.nil (WX.then_normal (WC.cond_false rfl (WC.skip (WX.then_normal (WC.seq (WC.seq (WC.region (?_))))))))
  refine WL.move rfl rfl (WL.move rfl rfl (?_))
  refine WL.cap Try.underlying23 rfl rfl ?_
  refine WL.move rfl rfl (WL.len Try.underlying23 rfl rfl (WL.sub64 rfl rfl (by first | omega | (constructor <;> omega)) rfl (WL.sub64 rfl rfl (by first | omega | (constructor <;> omega)) rfl (WL.assign rfl rfl (WL.nil (WX.then_normal (WC.seq (?_))))))))
  refine WC.region (WL.move rfl rfl (?_))
  refine WL.gtrT rfl rfl rfl (by first | rfl | omega | decide) ?_
  refine WL.nil (WX.then_normal (WC.cond_true rfl (WC.region (WL.move rfl rfl (WL.move rfl rfl (?_))))))
  refine WL.cap Try.underlying23 rfl rfl ?_
  refine WL.sliceN (l := 0) (h := 0) (k := .i64) Try.underlying23 Try.sizeOf5 rfl (.inr ⟨rfl, rfl⟩) (.inl ⟨rfl, Nat.le_refl _⟩) (Nat.le_refl _) rfl ?_
  refine WL.move rfl rfl (?_)
  refine WL.appendZ (e := eb) (n := n) info_5 rfl Try.underlying23 Try.underlying3 rfl (by show some (vi ((n : Int) - (((0 : Nat) : Int) - ((0 : Nat) : Int)))) = some (vi (n : Int)); rw [show (n : Int) - (((0 : Nat) : Int) - ((0 : Nat) : Int)) = (n : Int) by omega]) ⟨by omega, by omega, by omega⟩ rfl ?_
  intro g c w3 hr hc k3 eg
  have zs_k3 := k3.size
  replace hw := hw.pure k3
  refine WL.move rfl rfl (WL.len Try.underlying23 rfl rfl (?_))
  refine WL.sliceN (l := 0) (h := 0) (k := .i64) Try.underlying23 Try.sizeOf5 rfl (.inr ⟨rfl, rfl⟩) (.inl ⟨rfl, Nat.zero_le _⟩) (Nat.le_refl _) rfl ?_
  refine WL.assign rfl rfl (WL.nil (WX.then_normal (WC.seq (WC.region (WL.move rfl rfl (WL.assign rfl rfl (WL.nil (?_))))))))
  refine WX.then_normal (WC.ret (?_))
  refine WX.ret1 (.inl rfl) Try.results46 rfl ?_
  refine ⟨_, rfl, ⟨g, c, ?_, hr, by have := hw.size; omega⟩, hw⟩
  have e1 : cutAt (some (⟨g, 0, none⟩ : Addr)) c 0 1 = some ⟨g, 0, none⟩ := by unfold cutAt; split <;> simp [Addr.add_lit]
  simp [e1]
theorem concat_calls {S : Nat → Prop} {w : World} {ao : Option Addr} {c : Nat} {r1 r2 : Rw} (h : RS S w ao c [r1, r2]) (h1 : 1 ≤ r1.xs.length ∧ r1.xs.length ≤ 10000) (h2 : r2.xs.length ≤ 10000) :
    Calls Try.prog 28 [.slice ao 2 c].toArray w (Ret fun v w' => (∃ g c2, v = .slice (some ⟨g, 0, none⟩) (r1.xs ++ r2.xs).length c2 ∧ Row (fun b => b = g) w' 5 eb (some ⟨g, 0, none⟩) c2 (r1.xs ++ r2.xs) ∧ w.heap.size ≤ g) ∧ Chg Nob w w') := by
  have hw := Chg.refl Nob w
  replace h := h.old
  obtain ⟨sm, hsm⟩ : ∃ sm : Nat → Nat, sm = fun i => if i = 0 then 0 else if i = 1 then r1.xs.length else r1.xs.length + r2.xs.length := ⟨_, rfl⟩
  obtain ⟨jn, hjn⟩ : ∃ jn : Nat → List UInt8, jn = fun i => if i = 0 then [] else if i = 1 then r1.xs else r1.xs ++ r2.xs := ⟨_, rfl⟩
  have hs0 : sm 0 = 0 := by rw [hsm]; rfl
  have hs2 : sm 2 = r1.xs.length + r2.xs.length := by rw [hsm]; rfl
  have hst : ∀ i r, i < 2 → [r1, r2][i]? = some r → sm (i + 1) = sm i + r.xs.length ∧ r.xs.length ≤ 10000 ∧ sm i ≤ 10000 ∧ jn (i + 1) = jn i ++ r.xs ∧ (jn i).length ≤ 10000 ∧ 1 ≤ (jn i ++ r.xs).length := fun i r hi hr => by
    have h3 : i = 0 ∨ i = 1 := by omega
    rcases h3 with rfl | rfl
    · injection hr with hr
      subst hr
      rw [hsm, hjn]
      exact ⟨by simp, by omega, by simp, by simp, by simp, by simp; omega⟩
    · injection hr with hr
      subst hr
      rw [hsm, hjn]
      exact ⟨by simp, by omega, by simp; omega, by simp, by simp; omega, by simp; omega⟩
  refine Calls.of_WC Try.func28 rfl Try.ntmps28 (by simp) ?_
  refine WC.seq (WC.region (WL.assign rfl rfl (WL.nil (WX.then_normal (WC.seq (WC.region (WL.assign rfl rfl (?_))))))))
  refine WL.nil (WX.then_normal (WC.seq (WC.seq (WC.region (WL.move rfl rfl (WL.len Try.underlying22 rfl rfl (WL.move rfl rfl (?_))))))))
  refine WL.nil (WX.then_normal (WC.block (?_)))
  refine WC.loop (σ := Nat) (fun i => [(0, .slice ao 2 c), (3, vi (sm i : Int)), (9, .slice ao 2 c), (10, vi 2), (11, vi (i : Int))]) (fun i w' => i ≤ 2 ∧ RS (· < w.heap.size) w' ao c [r1, r2] ∧ Chg Nob w w') (fun i => 2 - i) 0 ⟨rfl, by rw [hs0]; rfl, rfl, rfl, rfl, trivial⟩ ⟨Nat.zero_le _, h, hw⟩ ?_
  clear h hw
  rintro i w1 ⟨hi, h, hw⟩
  refine WC.seq (WC.region (?_))
  refine WL.lss? rfl rfl rfl (fun h12 => ?_) (fun h12 => ?_)
  ·
    refine WL.nil (WX.then_normal (WC.seq (WC.cond_true rfl (WC.skip (WX.then_normal (WC.seq (WC.block (?_))))))))
    refine WC.seq (WC.region (?_))
    obtain ⟨r, hr⟩ : ∃ r, [r1, r2][i]? = some r := ⟨_, List.getElem?_eq_getElem (by simp; omega)⟩
    obtain ⟨e1, e2, e3, -, -, -⟩ := hst i r (by omega) hr
    refine WL.indexT (e := erow) Try.underlying22 Try.sizeOf23 h.outer rfl rfl ⟨hr, rfl⟩ rfl ?_
    intro bb oo hcc
    refine WL.load Try.isAgg23 rfl (hcc 0 _ rfl) rfl ?_
    refine WL.assign rfl rfl (WL.nil (WX.then_normal (WC.seq (WC.region (WL.move rfl rfl (WL.move rfl rfl (WL.len Try.underlying23 rfl rfl (?_))))))))
    refine WL.add64 rfl rfl (by first | omega | (constructor <;> omega)) rfl (WL.assign rfl rfl (WL.nil (WX.then_normal (WC.seq (WC.region (WL.move rfl rfl (?_)))))))
    refine WL.lssF rfl rfl rfl (by first | rfl | omega | decide) ?_
    refine WL.nil (WX.then_normal (WC.cond_false rfl (WC.skip (WX.block_normal (WX.then_normal (WC.region (WL.add64 rfl rfl (by first | omega | (constructor <;> omega)) rfl (?_))))))))
    refine WL.move rfl rfl (WL.nil (?_))
    first
      | exact WX.loop_next (i + 1) ⟨rfl, by simp [List.lookup, ev, e1], rfl, rfl, rfl, trivial⟩ ⟨by omega, h, hw⟩ (by omega)
      | exact WX.loop_next (i + 1, g2, c2) ⟨rfl, by rw [e4]; rfl, rfl, rfl, rfl, trivial⟩ ⟨by show i + 1 ≤ 2; omega, h, by show Row _ _ _ _ _ _ (jn (i + 1)); rw [e4]; exact hg3, hge2, hw⟩ (by show 2 - (i + 1) < 2 - i; omega)
  ·
    refine WL.nil (WX.then_normal (WC.seq (WC.cond_false rfl (WC.exit (WX.then_exit (WX.then_exit (WX.block_here (?_))))))))
    refine WX.then_normal (WC.seq (WC.region (WL.move rfl rfl (?_))))
    have hi2 : i = 2 := by omega
    subst hi2
    rw [hs2]
    have zw1 := hw.size
    refine WL.call eg_46 rfl rfl (grow_calls (r1.xs.length + r2.xs.length) ⟨by omega, by omega⟩) ?_
    rintro v w2 ⟨⟨g, cg, rfl, hg, hge⟩, k2⟩
    have zs_k2 := k2.size
    replace h := h.pure k2
    replace hw := hw.pure k2
    refine WL.assign rfl rfl (WL.nil (WX.then_normal (WC.seq (WC.seq (WC.region (WL.move rfl rfl (WL.len Try.underlying22 rfl rfl (?_))))))))
    refine WL.move rfl rfl (WL.nil (WX.then_normal (WC.block (?_))))
    have hj0 : jn 0 = [] := by rw [hjn]; rfl
    refine WC.loop (σ := Nat × Nat × Nat) (fun q => [(0, .slice ao 2 c), (6, .slice (some ⟨q.2.1, 0, none⟩) (jn q.1).length q.2.2), (25, .slice ao 2 c), (26, vi 2), (27, vi (q.1 : Int))]) (fun q w' => q.1 ≤ 2 ∧ RS (· < w.heap.size) w' ao c [r1, r2] ∧ Row (fun b => b = q.2.1) w' 5 eb (some ⟨q.2.1, 0, none⟩) q.2.2 (jn q.1) ∧ w.heap.size ≤ q.2.1 ∧ Chg Nob w w') (fun q => 2 - q.1) (0, g, cg) ⟨rfl, by rw [hj0]; rfl, rfl, rfl, rfl, trivial⟩ ⟨Nat.zero_le _, h, by rw [hj0]; exact hg, by show w.heap.size ≤ g; have := hw.size; omega, hw⟩ ?_
    clear h hw hg
    rintro ⟨i, g, cg⟩ w1 ⟨hi, h, hg, hge, hw⟩
    simp only at hi hg hge
    dsimp only
    refine WC.seq (WC.region (?_))
    refine WL.lss? rfl rfl rfl (fun h28 => ?_) (fun h28 => ?_)
    ·
      refine WL.nil (WX.then_normal (WC.seq (WC.cond_true rfl (WC.skip (WX.then_normal (WC.seq (WC.block (?_))))))))
      refine WC.seq (WC.region (?_))
      obtain ⟨r, hr⟩ : ∃ r, [r1, r2][i]? = some r := ⟨_, List.getElem?_eq_getElem (by simp; omega)⟩
      obtain ⟨-, e2, -, e4, e5, e6⟩ := hst i r (by omega) hr
      refine WL.indexT (e := erow) Try.underlying22 Try.sizeOf23 h.outer rfl rfl ⟨hr, rfl⟩ rfl ?_
      intro bb oo hcc
      refine WL.load Try.isAgg23 rfl (hcc 0 _ rfl) rfl ?_
      refine WL.assign rfl rfl (WL.nil (WX.then_normal (WC.region (WL.move rfl rfl (WL.move rfl rfl (?_))))))
      refine WL.append (e := eb) info_5 rfl Try.underlying23 rfl rfl (hg.mono (S' := fun b => w.heap.size ≤ b) (fun b hb => by have : b = g := hb; omega)) ((h.at hr).src Try.underlying23) (by constructor <;> omega) (fun b hb => by have := hw.size; omega) rfl ?_
      intro a2 c2 w5 hg2 gg nn
      replace h := h.chg gg.chg (fun b _ h2 h3 => by have := h3.2; omega)
      replace hw := hw.chg gg.chg (fun b h2 h3 => by have := h3.2; omega)
      obtain ⟨g2, rfl⟩ : ∃ g2, a2 = some ⟨g2, 0, none⟩ := by
        rcases gg.fr with e | e
        ·
          exact ⟨g, e⟩
        ·
          rcases hg2.own.2.2 with ⟨rfl, hc0⟩ | ⟨g2, _, _, rfl, _⟩
          ·
            rw [nn rfl] at e6
            exact absurd e6 (by decide)
          ·
            exact ⟨g2, rfl⟩
      have hg3 : Row (fun b => b = g2) _ 5 eb (some ⟨g2, 0, none⟩) c2 (jn i ++ r.xs) := ⟨fun a ea => by injection ea with ea; rw [← ea], hg2.own⟩
      have hge2 : w.heap.size ≤ g2 := hg2.at_ _ rfl
      refine WL.assign rfl rfl (WL.nil (WX.block_normal (WX.then_normal (WC.region (WL.add64 rfl rfl (by first | omega | (constructor <;> omega)) rfl (WL.move rfl rfl (WL.nil (?_))))))))
      first
        | exact WX.loop_next (i + 1) ⟨rfl, by simp [List.lookup, ev, e1], rfl, rfl, rfl, trivial⟩ ⟨by omega, h, hw⟩ (by omega)
        | exact WX.loop_next (i + 1, g2, c2) ⟨rfl, by rw [e4]; rfl, rfl, rfl, rfl, trivial⟩ ⟨by show i + 1 ≤ 2; omega, h, by show Row _ _ _ _ _ _ (jn (i + 1)); rw [e4]; exact hg3, hge2, hw⟩ (by show 2 - (i + 1) < 2 - i; omega)
    ·
      refine WL.nil (WX.then_normal (WC.seq (WC.cond_false rfl (WC.exit (WX.then_exit (WX.then_exit (WX.block_here (?_))))))))
      refine WX.then_normal (WC.seq (WC.region (WL.move rfl rfl (WL.assign rfl rfl (WL.nil (WX.then_normal (WC.ret (?_))))))))
      refine WX.ret1 (.inl rfl) Try.results28 rfl ?_
      have hi2 : i = 2 := by omega
      subst hi2
      have e2 : jn 2 = r1.xs ++ r2.xs := by rw [hjn]; rfl
      rw [e2] at hg ⊢
      exact ⟨_, rfl, ⟨g, cg, rfl, hg, hge⟩, hw⟩
theorem scale_calls {w : World} {gf g c : Nat} {xs : List UInt8} (hR : Blk w gf 65 FR) (hr : Row (fun b => b = g) w 5 eb (some ⟨g, 0, none⟩) c xs) (hne : g ≠ gf) (hl : xs.length ≤ 100000) (s : UInt8) :
    Calls Try.prog 31 [.pointer (some ⟨gf, 0, none⟩), .slice (some ⟨g, 0, none⟩) xs.length c, v8 s].toArray w (Ret fun v w' => v = .tuple #[] ∧ (∃ ys : List UInt8, ys.length = xs.length ∧ (∀ j, ys.getD j 0 = mul (xs.getD j 0) s) ∧ Row (fun b => b = g) w' 5 eb (some ⟨g, 0, none⟩) c ys) ∧ Chg (fun b => b = g) w w') := by
  have hw := Chg.refl (fun b => b = g) w
  refine Calls.of_WC Try.func31 rfl Try.ntmps31 (by simp) ?_
  refine WC.seq (WC.region (WL.move rfl rfl (WL.len Try.underlying23 rfl rfl (WL.move rfl rfl (WL.nil (WX.then_normal (WC.block (?_))))))))
  refine WC.loop (σ := Nat × List UInt8) (fun q => [(0, .pointer (some ⟨gf, 0, none⟩)), (1, .slice (some ⟨g, 0, none⟩) xs.length c), (2, v8 s), (8, vi xs.length), (9, vi (q.1 : Int))]) (fun q w' => q.1 ≤ xs.length ∧ (q.2.length = xs.length ∧ ∀ j, q.2.getD j 0 = if j < q.1 then mul (xs.getD j 0) s else xs.getD j 0) ∧ Blk w' gf 65 FR ∧ Row (fun b => b = g) w' 5 eb (some ⟨g, 0, none⟩) c q.2 ∧ Chg (fun b => b = g) w w') (fun q => xs.length - q.1) (0, xs) ⟨rfl, rfl, rfl, rfl, rfl, trivial⟩ ⟨Nat.zero_le _, ⟨rfl, fun j => by rw [if_neg (Nat.not_lt_zero j)]⟩, hR, hr, hw⟩ ?_
  clear hR hr hw
  rintro ⟨i, ys⟩ w1 ⟨hi, ⟨hyl, hyv⟩, hR, hr, hw⟩
  simp only at hi hyl hyv hr
  dsimp only
  refine WC.seq (WC.region (?_))
  refine WL.lss? rfl rfl rfl (fun h10 => ?_) (fun h10 => ?_)
  ·
    refine WL.nil (WX.then_normal (WC.seq (WC.cond_true rfl (WC.skip (WX.then_normal (WC.seq (WC.block (?_))))))))
    refine WC.seq (WC.region (WL.move rfl rfl (WL.assign rfl rfl (WL.nil (WX.then_normal (WC.region (WL.move rfl rfl (?_))))))))
    refine WL.move rfl rfl (WL.move rfl rfl (WL.move rfl rfl (WL.move rfl rfl (?_))))
    obtain ⟨y, hy⟩ : ∃ y, ys[i]? = some y := ⟨_, List.getElem?_eq_getElem (by omega)⟩
    refine WL.indexT (e := eb) Try.underlying23 Try.sizeOf5 hr.rsl (by show some (Value.slice _ xs.length c) = _; rw [hyl]) rfl ⟨hy, rfl⟩ rfl ?_
    intro bb oo hcc
    refine WL.load Try.isAgg5 rfl (hcc 0 _ rfl) rfl ?_
    refine WL.move rfl rfl (?_)
    refine WL.call eg_15 rfl rfl (mulR_calls hR y s) ?_
    rintro v w2 ⟨rfl, k2⟩
    have zs_k2 := k2.size
    replace hR := hR.pure k2
    replace hr := hr.pure k2
    replace hw := hw.pure k2
    refine WL.index (j := i) (sz := 1) Try.underlying23 Try.sizeOf5 rfl rfl rfl (by omega) rfl ?_
    refine WL.storeRow (z := mul y s) i Try.sizeOf5 hr rfl rfl rfl (by show 0 + i * 1 = i; omega) (by omega) rfl ?_
    intro w3 z3 hr3 k3
    replace hR := hR.chg k3 (fun e => hne e.symm)
    replace hw := hw.chg k3 (fun x _ h => h)
    refine WL.nil (WX.block_normal (WX.then_normal (WC.region (WL.add64 rfl rfl (by first | omega | (constructor <;> omega)) rfl (WL.move rfl rfl (WL.nil (?_)))))))
    refine WX.loop_next (i + 1, ys.set i (mul y s)) ⟨rfl, rfl, rfl, rfl, rfl, trivial⟩ ⟨by show i + 1 ≤ _; omega, ⟨by show (ys.set i _).length = _; rw [List.length_set]; exact hyl, fun j => ?_⟩, hR, hr3, hw⟩ (by show xs.length - (i + 1) < xs.length - i; omega)
    show (ys.set i (mul y s)).getD j 0 = if j < i + 1 then _ else _
    rw [List.getD_eq_getElem?_getD, List.getElem?_set]
    by_cases e : i = j
    ·
      subst e
      have h1 := hyv i
      rw [if_neg (Nat.lt_irrefl i), List.getD_eq_getElem?_getD, hy] at h1
      rw [if_pos rfl, if_pos (by omega), if_pos (by omega), ← h1]
      rfl
    ·
      rw [if_neg e, ← List.getD_eq_getElem?_getD, hyv j]
      by_cases e2 : j < i
      ·
        rw [if_pos e2, if_pos (by omega)]
      ·
        rw [if_neg e2, if_neg (by omega)]
  ·
    refine WL.nil (WX.then_normal (WC.seq (WC.cond_false rfl (WC.exit (WX.then_exit (WX.then_exit (WX.block_here (?_))))))))
    refine WX.ret0 (.inr rfl) Try.results31 ?_
    have hi2 : i = xs.length := by omega
    subst hi2
    refine ⟨_, rfl, rfl, ⟨ys, hyl, fun j => ?_, hr⟩, hw⟩
    rw [hyv j]
    by_cases e : j < xs.length
    ·
      rw [if_pos e]
    ·
      rw [if_neg e]
      have e3 : xs.getD j 0 = 0 := by rw [List.getD_eq_getElem?_getD, List.getElem?_eq_none (by omega)]; rfl
      rw [e3, mul_zero_l]
theorem fadd_calls {w : World} {gf g c cr : Nat} {ar : Option Addr} {xs rs : List UInt8} (hR : Blk w gf 65 FR) (hr : Row (fun b => b = g) w 5 eb (some ⟨g, 0, none⟩) c xs) (hs : RSl (fun b => b ≠ g) w eb ar cr rs) (hrl : rs.length = xs.length) (hne : g ≠ gf) (hl : xs.length ≤ 100000) (s : UInt8) :
    Calls Try.prog 32 [.pointer (some ⟨gf, 0, none⟩), .slice (some ⟨g, 0, none⟩) xs.length c, .slice ar rs.length cr, v8 s].toArray w (Ret fun v w' => v = .tuple #[] ∧ (∃ ys : List UInt8, ys.length = xs.length ∧ (∀ j, ys.getD j 0 = xs.getD j 0 ^^^ mul (rs.getD j 0) s) ∧ Row (fun b => b = g) w' 5 eb (some ⟨g, 0, none⟩) c ys) ∧ Chg (fun b => b = g) w w') := by
  have hw := Chg.refl (fun b => b = g) w
  refine Calls.of_WC Try.func32 rfl Try.ntmps32 (by simp) ?_
  refine WC.seq (WC.region (WL.move rfl rfl (WL.len Try.underlying23 rfl rfl (WL.move rfl rfl (WL.nil (WX.then_normal (WC.block (?_))))))))
  refine WC.loop (σ := Nat × List UInt8) (fun q => [(0, .pointer (some ⟨gf, 0, none⟩)), (1, .slice (some ⟨g, 0, none⟩) xs.length c), (2, .slice ar rs.length cr), (3, v8 s), (10, vi xs.length), (11, vi (q.1 : Int))]) (fun q w' => q.1 ≤ xs.length ∧ (q.2.length = xs.length ∧ ∀ j, q.2.getD j 0 = if j < q.1 then xs.getD j 0 ^^^ mul (rs.getD j 0) s else xs.getD j 0) ∧ Blk w' gf 65 FR ∧ Row (fun b => b = g) w' 5 eb (some ⟨g, 0, none⟩) c q.2 ∧ RSl (fun b => b ≠ g) w' eb ar cr rs ∧ Chg (fun b => b = g) w w') (fun q => xs.length - q.1) (0, xs) ⟨rfl, rfl, rfl, rfl, rfl, rfl, trivial⟩ ⟨Nat.zero_le _, ⟨rfl, fun j => by rw [if_neg (Nat.not_lt_zero j)]⟩, hR, hr, hs, hw⟩ ?_
  clear hR hr hs hw
  rintro ⟨i, ys⟩ w1 ⟨hi, ⟨hyl, hyv⟩, hR, hr, hs, hw⟩
  simp only at hi hyl hyv hr
  dsimp only
  refine WC.seq (WC.region (?_))
  refine WL.lss? rfl rfl rfl (fun h12 => ?_) (fun h12 => ?_)
  ·
    refine WL.nil (WX.then_normal (WC.seq (WC.cond_true rfl (WC.skip (WX.then_normal (WC.seq (WC.block (?_))))))))
    refine WC.seq (WC.region (WL.move rfl rfl (WL.assign rfl rfl (WL.nil (WX.then_normal (?_))))))
    obtain ⟨y, hy⟩ : ∃ y, ys[i]? = some y := ⟨_, List.getElem?_eq_getElem (by omega)⟩
    obtain ⟨z, hz⟩ : ∃ z, rs[i]? = some z := ⟨_, List.getElem?_eq_getElem (by omega)⟩
    obtain ⟨zb, zo, hza⟩ := hs.place hz
    refine WC.draw (fun b => b = g) [0, 1, 2, 4, 5, 6, 7, 8, 9, 10, 12] [3, 11, 13] mixed rfl rfl (fun wd_1 kd_1 zd_1 => ?_)
    have zs_kd_1 := kd_1.size
    replace hR := hR.pure kd_1
    replace hr := hr.pure kd_1
    replace hs := hs.pure kd_1
    replace hw := hw.pure kd_1
    apply DQ.step (E' := [(1, _)])
    case ho => rfl
    case hs => exact ⟨rfl, trivial⟩
    case hk => rfl
    case h1 =>
      intro wq_3 kq_3
      refine WL.move rfl rfl (?_)
      refine WL.nil ?_
      exact WX.one ⟨rfl, by first | exact Chg.refl _ _ | assumption⟩
    apply DQ.step (E' := [(8, _)])
    case ho => rfl
    case hs => exact ⟨rfl, trivial⟩
    case hk => rfl
    case h1 =>
      intro wq_4 kq_4
      refine WL.move rfl rfl (?_)
      refine WL.nil ?_
      exact WX.one ⟨rfl, by first | exact Chg.refl _ _ | assumption⟩
    apply DQ.step (E' := [(14, _), (15, _)])
    case ho => rfl
    case hs => exact ⟨rfl, rfl, trivial⟩
    case hk => rfl
    case h1 =>
      intro wq_5 kq_5
      have zs_kq_5 := kq_5.size
      replace hR := hR.chg kq_5 (by first | (intro x h1 h2; exact h2) | (intro x h1 h2; have h3 : _ = _ := h2; exfalso; omega) | (intro b h1 h2 h3; have h4 : _ = _ := h3; (try dsimp only at h2); exfalso; omega) | (intro h1; have h2 : _ = _ := h1; exfalso; omega) | (intros; exfalso; (try dsimp only at *); omega) | (intro b h1 h2 h3; exfalso; have h4 := h3.2; (try dsimp only at *); omega) | (intro h1; exfalso; have h4 := h1.2; (try dsimp only at *); omega))
      replace hs := hs.chg kq_5 (by first | (intro x h1 h2; exact h2) | (intro x h1 h2; have h3 : _ = _ := h2; exfalso; omega) | (intro b h1 h2 h3; have h4 : _ = _ := h3; (try dsimp only at h2); exfalso; omega) | (intro h1; have h2 : _ = _ := h1; exfalso; omega) | (intros; exfalso; (try dsimp only at *); omega) | (intro b h1 h2 h3; exfalso; have h4 := h3.2; (try dsimp only at *); omega) | (intro h1; exfalso; have h4 := h1.2; (try dsimp only at *); omega))
      refine WL.index (j := i) (sz := 1) Try.underlying23 Try.sizeOf5 rfl rfl rfl (by omega) rfl ?_
      refine WL.nil ?_
      exact WX.one ⟨rfl, by first | exact Chg.refl _ _ | assumption⟩
    apply DQ.step (E' := [(0, _)])
    case ho => rfl
    case hs => exact ⟨rfl, trivial⟩
    case hk => rfl
    case h1 =>
      intro wq_6 kq_6
      refine WL.move rfl rfl (?_)
      refine WL.nil ?_
      exact WX.one ⟨rfl, by first | exact Chg.refl _ _ | assumption⟩
    apply DQ.step (E' := [(2, _)])
    case ho => rfl
    case hs => exact ⟨rfl, trivial⟩
    case hk => rfl
    case h1 =>
      intro wq_7 kq_7
      refine WL.move rfl rfl (?_)
      refine WL.nil ?_
      exact WX.one ⟨rfl, by first | exact Chg.refl _ _ | assumption⟩
    apply DQ.step (E' := [(8, _)])
    case ho => rfl
    case hs => exact ⟨rfl, trivial⟩
    case hk => rfl
    case h1 =>
      intro wq_8 kq_8
      refine WL.move rfl rfl (?_)
      refine WL.nil ?_
      exact WX.one ⟨rfl, by first | exact Chg.refl _ _ | assumption⟩
    apply DQ.step (E' := [(19, _), (20, _)])
    case ho => rfl
    case hs => exact ⟨rfl, rfl, trivial⟩
    case hk => rfl
    case h1 =>
      intro wq_9 kq_9
      have zs_kq_9 := kq_9.size
      replace hR := hR.chg kq_9 (by first | (intro x h1 h2; exact h2) | (intro x h1 h2; have h3 : _ = _ := h2; exfalso; omega) | (intro b h1 h2 h3; have h4 : _ = _ := h3; (try dsimp only at h2); exfalso; omega) | (intro h1; have h2 : _ = _ := h1; exfalso; omega) | (intros; exfalso; (try dsimp only at *); omega) | (intro b h1 h2 h3; exfalso; have h4 := h3.2; (try dsimp only at *); omega) | (intro h1; exfalso; have h4 := h1.2; (try dsimp only at *); omega))
      replace hs := hs.chg kq_9 (by first | (intro x h1 h2; exact h2) | (intro x h1 h2; have h3 : _ = _ := h2; exfalso; omega) | (intro b h1 h2 h3; have h4 : _ = _ := h3; (try dsimp only at h2); exfalso; omega) | (intro h1; have h2 : _ = _ := h1; exfalso; omega) | (intros; exfalso; (try dsimp only at *); omega) | (intro b h1 h2 h3; exfalso; have h4 := h3.2; (try dsimp only at *); omega) | (intro h1; exfalso; have h4 := h1.2; (try dsimp only at *); omega))
      have hsq := hs
      rw [hza] at hsq
      refine WL.indexC (e := eb) hsq Try.underlying23 Try.sizeOf5 (by show some (Value.slice ar rs.length cr) = _; rw [hza]) rfl ⟨hz, rfl⟩ rfl ?_
      refine WL.nil ?_
      exact WX.one ⟨rfl, by first | exact Chg.refl _ _ | assumption⟩
    apply DQ.step (E' := [(21, _)])
    case ho => rfl
    case hs => exact ⟨rfl, trivial⟩
    case hk => rfl
    case h1 =>
      intro wq_10 kq_10
      have zs_kq_10 := kq_10.size
      replace hR := hR.chg kq_10 (by first | (intro x h1 h2; exact h2) | (intro x h1 h2; have h3 : _ = _ := h2; exfalso; omega) | (intro b h1 h2 h3; have h4 : _ = _ := h3; (try dsimp only at h2); exfalso; omega) | (intro h1; have h2 : _ = _ := h1; exfalso; omega) | (intros; exfalso; (try dsimp only at *); omega) | (intro b h1 h2 h3; exfalso; have h4 := h3.2; (try dsimp only at *); omega) | (intro h1; exfalso; have h4 := h1.2; (try dsimp only at *); omega))
      replace hs := hs.chg kq_10 (by first | (intro x h1 h2; exact h2) | (intro x h1 h2; have h3 : _ = _ := h2; exfalso; omega) | (intro b h1 h2 h3; have h4 : _ = _ := h3; (try dsimp only at h2); exfalso; omega) | (intro h1; have h2 : _ = _ := h1; exfalso; omega) | (intros; exfalso; (try dsimp only at *); omega) | (intro b h1 h2 h3; exfalso; have h4 := h3.2; (try dsimp only at *); omega) | (intro h1; exfalso; have h4 := h1.2; (try dsimp only at *); omega))
      have hsq := hs
      rw [hza] at hsq
      refine WL.load Try.isAgg5 rfl (hsq.cellsAt hz 0 _ rfl) rfl ?_
      refine WL.nil ?_
      exact WX.one ⟨rfl, by first | exact Chg.refl _ _ | assumption⟩
    apply DQ.step (E' := [(3, _)])
    case ho => rfl
    case hs => exact ⟨rfl, trivial⟩
    case hk => rfl
    case h1 =>
      intro wq_11 kq_11
      refine WL.move rfl rfl (?_)
      refine WL.nil ?_
      exact WX.one ⟨rfl, by first | exact Chg.refl _ _ | assumption⟩
    apply DQ.step (E' := [(18, _), (22, _), (23, _)])
    case ho => rfl
    case hs => exact ⟨rfl, rfl, rfl, trivial⟩
    case hk => rfl
    case h1 =>
      intro wq_12 kq_12
      have zs_kq_12 := kq_12.size
      replace hR := hR.chg kq_12 (by first | (intro x h1 h2; exact h2) | (intro x h1 h2; have h3 : _ = _ := h2; exfalso; omega) | (intro b h1 h2 h3; have h4 : _ = _ := h3; (try dsimp only at h2); exfalso; omega) | (intro h1; have h2 : _ = _ := h1; exfalso; omega) | (intros; exfalso; (try dsimp only at *); omega) | (intro b h1 h2 h3; exfalso; have h4 := h3.2; (try dsimp only at *); omega) | (intro h1; exfalso; have h4 := h1.2; (try dsimp only at *); omega))
      replace hs := hs.chg kq_12 (by first | (intro x h1 h2; exact h2) | (intro x h1 h2; have h3 : _ = _ := h2; exfalso; omega) | (intro b h1 h2 h3; have h4 : _ = _ := h3; (try dsimp only at h2); exfalso; omega) | (intro h1; have h2 : _ = _ := h1; exfalso; omega) | (intros; exfalso; (try dsimp only at *); omega) | (intro b h1 h2 h3; exfalso; have h4 := h3.2; (try dsimp only at *); omega) | (intro h1; exfalso; have h4 := h1.2; (try dsimp only at *); omega))
      refine WL.call eg_15 rfl rfl (mulR_calls hR z s) ?_
      rintro v w2 ⟨rfl, k2⟩
      have zs_k2 := k2.size
      replace hR := hR.pure k2
      replace hs := hs.pure k2
      refine WL.nil ?_
      exact WX.one ⟨rfl, by first | exact Chg.refl _ _ | assumption⟩
    apply DQ.step (E' := [(14, _), (15, _)])
    case ho => rfl
    case hs => exact ⟨rfl, rfl, trivial⟩
    case hk => rfl
    case h1 =>
      intro wq_13 kq_13
      have zs_kq_13 := kq_13.size
      replace hR := hR.chg kq_13 (by first | (intro x h1 h2; exact h2) | (intro x h1 h2; have h3 : _ = _ := h2; exfalso; omega) | (intro b h1 h2 h3; have h4 : _ = _ := h3; (try dsimp only at h2); exfalso; omega) | (intro h1; have h2 : _ = _ := h1; exfalso; omega) | (intros; exfalso; (try dsimp only at *); omega) | (intro b h1 h2 h3; exfalso; have h4 := h3.2; (try dsimp only at *); omega) | (intro h1; exfalso; have h4 := h1.2; (try dsimp only at *); omega))
      replace hs := hs.chg kq_13 (by first | (intro x h1 h2; exact h2) | (intro x h1 h2; have h3 : _ = _ := h2; exfalso; omega) | (intro b h1 h2 h3; have h4 : _ = _ := h3; (try dsimp only at h2); exfalso; omega) | (intro h1; have h2 : _ = _ := h1; exfalso; omega) | (intros; exfalso; (try dsimp only at *); omega) | (intro b h1 h2 h3; exfalso; have h4 := h3.2; (try dsimp only at *); omega) | (intro h1; exfalso; have h4 := h1.2; (try dsimp only at *); omega))
      refine WL.index (j := i) (sz := 1) Try.underlying23 Try.sizeOf5 rfl rfl rfl (by omega) rfl ?_
      refine WL.nil ?_
      exact WX.one ⟨rfl, by first | exact Chg.refl _ _ | assumption⟩
    refine DQ.done (fun hd_2 => ?_)
    refine DL.step [(16, _)] rfl ⟨rfl, trivial⟩ rfl (fun wq_14 kq_14 => ?_)
    have zs_kq_14 := kq_14.size
    replace hR := hR.pure kq_14
    replace hr := hr.pure kq_14
    replace hs := hs.pure kq_14
    replace hw := hw.pure kq_14
    replace hd_2 := hd_2.pure kq_14
    refine WL.load Try.isAgg5 rfl ((hr.rsl.cellsAt hy) 0 _ rfl) rfl ?_
    refine WL.nil ?_
    refine WX.one ⟨hd_2, ?_⟩
    refine DL.step [(17, _), (24, _)] rfl ⟨rfl, rfl, trivial⟩ rfl (fun wq_15 kq_15 => ?_)
    have zs_kq_15 := kq_15.size
    replace hR := hR.pure kq_15
    replace hr := hr.pure kq_15
    replace hs := hs.pure kq_15
    replace hw := hw.pure kq_15
    replace hd_2 := hd_2.pure kq_15
    refine WL.num rfl rfl (n_xor8 _ _ _ _) rfl (?_)
    refine WL.nil ?_
    refine WX.one ⟨hd_2, ?_⟩
    refine DL.step [(26, _), (25, _)] rfl ⟨rfl, rfl, trivial⟩ rfl (fun wq_16 kq_16 => ?_)
    have zs_kq_16 := kq_16.size
    replace hR := hR.pure kq_16
    replace hr := hr.pure kq_16
    replace hs := hs.pure kq_16
    replace hw := hw.pure kq_16
    replace hd_2 := hd_2.pure kq_16
    refine WL.storeRow (z := y ^^^ mul z s) i Try.sizeOf5 hr rfl rfl rfl (by show 0 + i * 1 = i; omega) (by omega) rfl ?_
    intro w3 z3 hr3 k3
    have zs_k3 := k3.size
    replace hR := hR.chg k3 (by first | (intro x h1 h2; exact h2) | (intro x h1 h2; have h3 : _ = _ := h2; exfalso; omega) | (intro b h1 h2 h3; have h4 : _ = _ := h3; (try dsimp only at h2); exfalso; omega) | (intro h1; have h2 : _ = _ := h1; exfalso; omega) | (intros; exfalso; (try dsimp only at *); omega) | (intro b h1 h2 h3; exfalso; have h4 := h3.2; (try dsimp only at *); omega) | (intro h1; exfalso; have h4 := h1.2; (try dsimp only at *); omega))
    replace hs := hs.chg k3 (by first | (intro x h1 h2; exact h2) | (intro x h1 h2; have h3 : _ = _ := h2; exfalso; omega) | (intro b h1 h2 h3; have h4 : _ = _ := h3; (try dsimp only at h2); exfalso; omega) | (intro h1; have h2 : _ = _ := h1; exfalso; omega) | (intros; exfalso; (try dsimp only at *); omega) | (intro b h1 h2 h3; exfalso; have h4 := h3.2; (try dsimp only at *); omega) | (intro h1; exfalso; have h4 := h1.2; (try dsimp only at *); omega))
    replace hw := hw.chg k3 (by first | (intro x h1 h2; exact h2) | (intro x h1 h2; have h3 : _ = _ := h2; exfalso; omega) | (intro b h1 h2 h3; have h4 : _ = _ := h3; (try dsimp only at h2); exfalso; omega) | (intro h1; have h2 : _ = _ := h1; exfalso; omega) | (intros; exfalso; (try dsimp only at *); omega) | (intro b h1 h2 h3; exfalso; have h4 := h3.2; (try dsimp only at *); omega) | (intro h1; exfalso; have h4 := h1.2; (try dsimp only at *); omega))
    replace hd_2 := hd_2.chg k3 (by first | (intro x h1 h2; exact h2) | (intro x h1 h2; have h3 : _ = _ := h2; exfalso; omega) | (intro b h1 h2 h3; have h4 : _ = _ := h3; (try dsimp only at h2); exfalso; omega) | (intro h1; have h2 : _ = _ := h1; exfalso; omega) | (intros; exfalso; (try dsimp only at *); omega) | (intro b h1 h2 h3; exfalso; have h4 := h3.2; (try dsimp only at *); omega) | (intro h1; exfalso; have h4 := h1.2; (try dsimp only at *); omega))
    refine WL.nil ?_
    refine WX.one0 (v := undef) ⟨hd_2, ?_⟩
    refine DL.done (fun we_17 ke_17 => ?_)
    have zs_ke_17 := ke_17.size
    replace hR := hR.pure ke_17
    replace hs := hs.pure ke_17
    replace hw := hw.pure ke_17
    replace hd_2 := hd_2.pure ke_17
    replace hr3 := hr3.pure ke_17
    refine WX.block_normal (WX.then_normal (WC.region (WL.add64 rfl rfl (by first | omega | (constructor <;> omega)) rfl (WL.move rfl rfl (WL.nil (?_))))))
    refine WX.loop_next (i + 1, ys.set i (y ^^^ mul z s)) ⟨rfl, rfl, rfl, rfl, rfl, rfl, trivial⟩ ⟨by show i + 1 ≤ _; omega, ⟨by show (ys.set i _).length = _; rw [List.length_set]; exact hyl, fun j => ?_⟩, hR, hr3, hs, hw⟩ (by show xs.length - (i + 1) < xs.length - i; omega)
    show (ys.set i (y ^^^ mul z s)).getD j 0 = if j < i + 1 then _ else _
    rw [List.getD_eq_getElem?_getD, List.getElem?_set]
    by_cases e : i = j
    ·
      subst e
      have h1 := hyv i
      rw [if_neg (Nat.lt_irrefl i), List.getD_eq_getElem?_getD, hy] at h1
      have h2 : rs.getD i 0 = z := by rw [List.getD_eq_getElem?_getD, hz]; rfl
      rw [if_pos rfl, if_pos (by omega), if_pos (by omega), ← h1, h2]
      rfl
    ·
      rw [if_neg e, ← List.getD_eq_getElem?_getD, hyv j]
      by_cases e2 : j < i
      ·
        rw [if_pos e2, if_pos (by omega)]
      ·
        rw [if_neg e2, if_neg (by omega)]
  ·
    refine WL.nil (WX.then_normal (WC.seq (WC.cond_false rfl (WC.exit (WX.then_exit (WX.then_exit (WX.block_here (?_))))))))
    refine WX.ret0 (.inr rfl) Try.results32 ?_
    have hi2 : i = xs.length := by omega
    subst hi2
    refine ⟨_, rfl, rfl, ⟨ys, hyl, fun j => ?_, hr⟩, hw⟩
    rw [hyv j]
    by_cases e : j < xs.length
    ·
      rw [if_pos e]
    ·
      rw [if_neg e]
      have e3 : rs.getD j 0 = 0 := by rw [List.getD_eq_getElem?_getD, List.getElem?_eq_none (by omega)]; rfl
      rw [e3, mul_zero_l, xor_zero']
end Go.Proofs.Ytjdbjdgobhjbkaa
namespace Go.HL
open Go.RowKit
/-! two places of a list change -/
def sg (a b i : Nat) : Nat := if i = a then b else if i = b then a else i
theorem sg_sg (a b i : Nat) : sg a b (sg a b i) = i := by
  unfold sg
  by_cases e1 : i = a
  · rw [if_pos e1]
    by_cases e2 : b = a
    · rw [if_pos e2]; omega
    · rw [if_neg e2, if_pos rfl]; omega
  · rw [if_neg e1]
    by_cases e2 : i = b
    · rw [if_pos e2, if_pos rfl]; omega
    · rw [if_neg e2, if_neg e1, if_neg e2]
theorem sg_inj {a b i j : Nat} (h : sg a b i = sg a b j) : i = j := by
  rw [← sg_sg a b i, h, sg_sg]
theorem swap_get {α : Type} {l : List α} {a b : Nat} {x y : α} (ha : l[a]? = some x) (hb : l[b]? = some y) (i : Nat) : ((l.set a y).set b x)[i]? = l[sg a b i]? := by
  have hal := (List.getElem?_eq_some_iff.1 ha).1
  have hbl := (List.getElem?_eq_some_iff.1 hb).1
  rw [List.getElem?_set, List.length_set, List.getElem?_set]
  unfold sg
  by_cases e1 : b = i
  · subst e1
    rw [if_pos rfl, if_pos hbl]
    by_cases e2 : b = a
    · subst e2; rw [if_pos rfl]; exact ha.symm
    · rw [if_neg e2, if_pos rfl]; exact ha.symm
  · rw [if_neg e1]
    by_cases e2 : a = i
    · subst e2; rw [if_pos rfl, if_pos hal, if_pos rfl]; exact hb.symm
    · rw [if_neg e2, if_neg (fun e => e2 e.symm), if_neg (fun e => e1 e.symm)]
section
variable {L N n1 : Nat} {w w' : World} {T U : TypeId} {ao : Option Addr} {c : Nat} {gs : List Nat} {rs : List Rw} {M : Nat → Prop}
theorem AR.chgN (h : AR L N n1 w T U ao c gs rs) (k : Chg M w w') (hd : ∀ x, L ≤ x ∨ N ≤ x → M x → False) : AR L N n1 w' T U ao c gs rs :=
  ⟨h.outer.chg k (fun b _ hs hm => hd b (.inr hs.1) hm), fun i g r hg hr => by
    obtain ⟨h1, h2, h3, h4⟩ := h.inner i g r hg hr
    exact ⟨h1, h2.chg k (fun b _ hs hm => hd b (.inl (by have h5 : b = g := hs; have := h.low i g hg; omega)) hm), h3, h4⟩, h.len, h.apart, h.low⟩
theorem AR.up (h : AR L N n1 w T U ao c gs rs) {n2 : Nat} (hn : n1 ≤ n2) : AR L N n2 w T U ao c gs rs :=
  ⟨h.outer.mono (fun b hb => ⟨hb.1, by have := hb.2; omega⟩), fun i g r hg hr => by
    obtain ⟨h1, h2, h3, h4⟩ := h.inner i g r hg hr
    exact ⟨h1, h2, by omega, h4⟩, h.len, h.apart, h.low⟩
theorem AR.swap (h : AR L N n1 w T U ao c gs rs) {a b ga gb : Nat} {ra rb : Rw} (hga : gs[a]? = some ga) (hgb : gs[b]? = some gb) (hra : rs[a]? = some ra) (hrb : rs[b]? = some rb) (k : Chg (Eqb ao) w w')
    (ho : Row (fun x => N ≤ x ∧ x < n1) w' T erow ao c ((rs.set a rb).set b ra)) : AR L N n1 w' T U ao c ((gs.set a gb).set b ga) ((rs.set a rb).set b ra) := by
  refine ⟨ho, fun i g r hg hr => ?_, by simp [h.len], fun i j g h1 h2 => ?_, fun i g h1 => ?_⟩
  · rw [swap_get hga hgb] at hg
    rw [swap_get hra hrb] at hr
    obtain ⟨h1, h2, h3, h4⟩ := h.inner _ g r hg hr
    exact ⟨h1, h2.chg k (fun x _ hx hm => h4 (by have e : x = g := hx; rw [← e]; exact hm)), h3, h4⟩
  · rw [swap_get hga hgb] at h1 h2
    exact sg_inj (h.apart _ _ g h1 h2)
  · rw [swap_get hga hgb] at h1
    exact h.low _ g h1
end
def mx (rs : List Rw) : List (List UInt8) := rs.map (·.xs)
theorem mx_at {rs : List Rw} {i : Nat} {r : Rw} (h : rs[i]? = some r) : (mx rs)[i]? = some r.xs := by simp [mx, h]
theorem mx_len (rs : List Rw) : (mx rs).length = rs.length := by simp [mx]
theorem fn_row {m : List (List UInt8)} {i : Nat} {r : Option (List UInt8)} (h : m[i]? = r) (j : Nat) : fn m i j = (r.getD []).getD j 0 := by
  have e : m.getD i [] = r.getD [] := by rw [List.getD_eq_getElem?_getD, h]
  rw [fn, e]
theorem fn_mx {rs : List Rw} {i : Nat} {r : Rw} (h : rs[i]? = some r) (j : Nat) : fn (mx rs) i j = r.xs.getD j 0 := by
  rw [fn_row (mx_at h)]
  rfl
theorem fn_swap {rs : List Rw} {a b : Nat} {ra rb : Rw} (hra : rs[a]? = some ra) (hrb : rs[b]? = some rb) (i j : Nat) : fn (mx ((rs.set a rb).set b ra)) i j = fn (mx rs) (sg a b i) j := by
  have e : (mx ((rs.set a rb).set b ra))[i]? = (mx rs)[sg a b i]? := by
    rw [mx, mx, List.getElem?_map, List.getElem?_map, swap_get hra hrb]
  rw [fn_row e, fn_row rfl]
theorem fn_setr {rs : List Rw} {k : Nat} (hk : k < rs.length) (q : Rw) (i j : Nat) : fn (mx (rs.set k q)) i j = if i = k then q.xs.getD j 0 else fn (mx rs) i j := by
  have e : mx (rs.set k q) = (mx rs).set k q.xs := by rw [mx, mx, List.map_set]
  rw [e, fn_set (by rw [mx_len]; exact hk)]
end Go.HL
namespace Go.Proofs.Ytjdbjdgobhjbkaa
open Go.RowKit Go.HL

theorem invR_calls {w : World} {g : Nat} (hR : Blk w g 65 FR) (a : UInt8) : Calls Try.prog 30 [.pointer (some ⟨g, 0, none⟩), v8 a].toArray w (Ret fun v w' => v = .tuple #[v8 (inv a), vi (if a = 0 then 1 else 0)] ∧ Chg Nob w w') := by
  have hw := Chg.refl Nob w
  have hla := L_lt a
  refine Calls.of_WC Try.func30 rfl Try.ntmps30 (by simp) ?_
  refine WC.seq (WC.region (WL.assign rfl rfl (WL.assign rfl rfl (WL.nil (WX.then_normal (WC.seq (WC.seq (?_))))))))
  refine WC.region (WL.move rfl rfl (?_))
  refine WL.eql? rfl rfl rfl (fun h7 => ?_) (fun h7 => ?_)
  ·
    refine WL.nil (WX.then_normal (WC.cond_true rfl (WC.seq (WC.region (WL.assign rfl rfl (WL.assign rfl rfl (WL.nil (?_))))))))
    refine WX.then_normal (WC.ret (WX.then_ret (?_)))
    refine WX.ret2 (.inl rfl) Try.results30 rfl rfl ?_
    first
      | (have ha := u8_zero h7
         subst ha
         exact ⟨_, rfl, rfl, hw⟩)
      | (refine ⟨_, rfl, ?_, hw⟩
         rw [inv, if_neg (u8_ne h7), if_neg (u8_ne h7)])
  ·
    refine WL.nil (WX.then_normal (WC.cond_false rfl (WC.skip (WX.then_normal (WC.seq (WC.region (WL.move rfl rfl (?_))))))))
    refine WL.call eg_29 rfl rfl (readyR_calls hR) ?_
    rintro v w2 ⟨rfl, k⟩
    have zs_k := k.size
    replace hR := hR.pure k
    replace hw := hw.pure k
    refine WL.assign rfl rfl (WL.nil (WX.then_normal (WC.seq (?_))))
    refine WC.draw (Nob) [0, 1, 2, 3, 4, 5, 6, 7, 8, 9, 10, 11, 12, 13] [] mixed rfl rfl (fun wd_1 kd_1 zd_1 => ?_)
    have zs_kd_1 := kd_1.size
    replace hR := hR.pure kd_1
    replace hw := hw.pure kd_1
    apply DQ.step (E' := [(0, _)])
    case ho => rfl
    case hs => exact ⟨rfl, trivial⟩
    case hk => rfl
    case h1 =>
      intro wq_2 kq_2
      refine WL.move rfl rfl (?_)
      refine WL.nil ?_
      exact WX.one ⟨rfl, by first | exact Chg.refl _ _ | assumption⟩
    apply DQ.step (E' := [(0, _)])
    case ho => rfl
    case hs => exact ⟨rfl, trivial⟩
    case hk => rfl
    case h1 =>
      intro wq_3 kq_3
      refine WL.move rfl rfl (?_)
      refine WL.nil ?_
      exact WX.one ⟨rfl, by first | exact Chg.refl _ _ | assumption⟩
    apply DQ.step (E' := [(1, _)])
    case ho => rfl
    case hs => exact ⟨rfl, trivial⟩
    case hk => rfl
    case h1 =>
      intro wq_4 kq_4
      refine WL.move rfl rfl (?_)
      refine WL.nil ?_
      exact WX.one ⟨rfl, by first | exact Chg.refl _ _ | assumption⟩
    apply DQ.step (E' := [(11, _)])
    case ho => rfl
    case hs => exact ⟨rfl, trivial⟩
    case hk => rfl
    case h1 =>
      intro wq_5 kq_5
      refine WL.nilCheck rfl rfl (?_)
      refine WL.nil ?_
      exact WX.one ⟨rfl, by first | exact Chg.refl _ _ | assumption⟩
    apply DQ.step (E' := [(13, _)])
    case ho => rfl
    case hs => exact ⟨rfl, trivial⟩
    case hk => rfl
    case h1 =>
      intro wq_6 kq_6
      refine WL.fieldAddr (fld_65_2) rfl rfl (?_)
      refine WL.nil ?_
      exact WX.one ⟨rfl, by first | exact Chg.refl _ _ | assumption⟩
    apply DQ.step (E' := [(14, _), (12, _)])
    case ho => rfl
    case hs => exact ⟨rfl, rfl, trivial⟩
    case hk => rfl
    case h1 =>
      intro wq_7 kq_7
      have zs_kq_7 := kq_7.size
      replace hR := hR.pure kq_7
      replace hw := hw.pure kq_7
      refine WL.indexArrO a.toNat Try.underlying63 Try.sizeOf3 rfl rfl ⟨rfl, a.toNat_lt⟩ rfl ?_
      refine WL.nil ?_
      exact WX.one ⟨rfl, by first | exact Chg.refl _ _ | assumption⟩
    apply DQ.step (E' := [(15, _)])
    case ho => rfl
    case hs => exact ⟨rfl, trivial⟩
    case hk => rfl
    case h1 =>
      intro wq_8 kq_8
      have zs_kq_8 := kq_8.size
      replace hR := hR.pure kq_8
      replace hw := hw.pure kq_8
      refine WL.loadB Try.isAgg3 hR rfl (FR_l a) rfl ?_
      refine WL.nil ?_
      exact WX.one ⟨rfl, by first | exact Chg.refl _ _ | assumption⟩
    apply DQ.step (E' := [(16, _)])
    case ho => rfl
    case hs => exact ⟨rfl, trivial⟩
    case hk => rfl
    case h1 =>
      intro wq_9 kq_9
      refine WL.sub64 rfl rfl (by first | omega | (constructor <;> omega)) rfl (?_)
      refine WL.nil ?_
      exact WX.one ⟨rfl, by first | exact Chg.refl _ _ | assumption⟩
    apply DQ.step (E' := [(10, _)])
    case ho => rfl
    case hs => exact ⟨rfl, trivial⟩
    case hk => rfl
    case h1 =>
      intro wq_10 kq_10
      refine WL.nilCheck rfl rfl (?_)
      refine WL.nil ?_
      exact WX.one ⟨rfl, by first | exact Chg.refl _ _ | assumption⟩
    apply DQ.step (E' := [(18, _)])
    case ho => rfl
    case hs => exact ⟨rfl, trivial⟩
    case hk => rfl
    case h1 =>
      intro wq_11 kq_11
      refine WL.fieldAddr (fld_65_1) rfl rfl (?_)
      refine WL.nil ?_
      exact WX.one ⟨rfl, by first | exact Chg.refl _ _ | assumption⟩
    apply DQ.step (E' := [(19, _), (17, _)])
    case ho => rfl
    case hs => exact ⟨rfl, rfl, trivial⟩
    case hk => rfl
    case h1 =>
      intro wq_12 kq_12
      have zs_kq_12 := kq_12.size
      replace hR := hR.pure kq_12
      replace hw := hw.pure kq_12
      refine WL.indexArrO (255 - L a) Try.underlying62 Try.sizeOf5 rfl rfl ⟨by omega, by omega⟩ rfl ?_
      refine WL.nil ?_
      exact WX.one ⟨rfl, by first | exact Chg.refl _ _ | assumption⟩
    apply DQ.step (E' := [(20, _)])
    case ho => rfl
    case hs => exact ⟨rfl, trivial⟩
    case hk => rfl
    case h1 =>
      intro wq_13 kq_13
      have zs_kq_13 := kq_13.size
      replace hR := hR.pure kq_13
      replace hw := hw.pure kq_13
      refine WL.loadB Try.isAgg5 hR rfl (FR_e (by omega)) rfl ?_
      refine WL.nil ?_
      exact WX.one ⟨rfl, by first | exact Chg.refl _ _ | assumption⟩
    apply DQ.step (E' := [(21, _)])
    case ho => rfl
    case hs => exact ⟨rfl, trivial⟩
    case hk => rfl
    case h1 =>
      intro wq_14 kq_14
      refine WL.assign rfl rfl (?_)
      refine WL.nil ?_
      exact WX.one ⟨rfl, by first | exact Chg.refl _ _ | assumption⟩
    apply DQ.step (E' := [])
    case ho => rfl
    case hs => exact trivial
    case hk => rfl
    case h1 =>
      intro wq_15 kq_15
      refine WL.assign rfl rfl (?_)
      refine WL.nil ?_
      exact WX.one ⟨rfl, by first | exact Chg.refl _ _ | assumption⟩
    refine DQ.done (fun _ => ?_)
    refine DL.done (fun we_16 ke_16 => ?_)
    have zs_ke_16 := ke_16.size
    replace hR := hR.pure ke_16
    replace hw := hw.pure ke_16
    refine WX.then_normal (WC.ret (?_))
    refine WX.ret2 (.inl rfl) Try.results30 rfl rfl ?_
    first
      | (have ha := u8_zero h7
         subst ha
         exact ⟨_, rfl, rfl, hw⟩)
      | (refine ⟨_, rfl, ?_, hw⟩
         rw [inv, if_neg (u8_ne h7), if_neg (u8_ne h7)])
/-- what the built rows are -/
structure Blt (rs ms : List Rw) (rgt : List UInt8) (i : Nat) : Prop where
  len : ms.length = i
  row : ∀ (j : Nat) (r q : Rw), rs[j]? = some r → ms[j]? = some q → ∃ y, rgt[j]? = some y ∧ q.xs = r.xs ++ [y] ∧ r.xs.length = rs.length
theorem Blt.snoc {rs ms : List Rw} {rgt : List UInt8} {i : Nat} (h : Blt rs ms rgt i) {r q : Rw} {y : UInt8} (hr : rs[i]? = some r) (hy : rgt[i]? = some y) (hq : q.xs = r.xs ++ [y]) (hl : r.xs.length = rs.length) : Blt rs (ms ++ [q]) rgt (i + 1) := by
  refine ⟨by simp [h.len], fun j r' q' h1 h2 => ?_⟩
  rcases get_snoc h2 with h3 | ⟨h3, h4⟩
  · exact h.row j r' q' h1 h3
  · subst h4
    rw [h3, h.len, hr] at h1
    injection h1 with h1
    subst h1
    exact ⟨y, by rw [h3, h.len]; exact hy, hq, hl⟩
end Go.Proofs.Ytjdbjdgobhjbkaa
