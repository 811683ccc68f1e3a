import Derived.Test.YtgmkoieemmglpaaDs
namespace Go.Proofs.Ytgmkoieemmglpaa
open Go.RowKit Go.HL

/-! what a line keeps, and what is let go -/
def allP (L : LA) : List PtV := L.snaps.flatMap (·.2) ++ L.dead
theorem allP_destroy (L : LA) {k : Nat} (hk : k < L.snaps.length) : (allP (destroyA L k) ++ freeA L k).Perm (allP L) := by
  obtain ⟨x0, h0⟩ : ∃ x0, L.snaps[k]? = some x0 := ⟨_, List.getElem?_eq_getElem hk⟩
  have hsp : L.snaps = L.snaps.take k ++ x0 :: L.snaps.drop (k + 1) := by
    have := List.drop_eq_getElem_cons hk
    rw [(List.getElem?_eq_some_iff.1 h0).2] at this
    rw [← this, List.take_append_drop]
  have hperm : ∀ (l : List PtV) (a : PtV), List.count a (l.filter fun p => decide (L.ahead k < p.b)) + List.count a (l.filter fun p => !decide (L.ahead k < p.b)) = List.count a l := fun l a => by
    have := (List.filter_append_perm (fun p : PtV => decide (L.ahead k < p.b)) l).count_eq a
    rw [List.count_append] at this
    exact this
  refine List.perm_iff_count.2 fun a => ?_
  cases h1 : L.snaps[k + 1]? with
  | none =>
    have hB : L.snaps.drop (k + 1) = [] := List.drop_of_length_le (by have := List.getElem?_eq_none_iff.1 h1; omega)
    have hk1 : keepA L k = x0.2 ++ L.dead.filter fun p => !decide (L.ahead k < p.b) := by simp [keepA, h0, nextA, h1]
    have hf : freeA L k = L.dead.filter fun p => decide (L.ahead k < p.b) := by simp [freeA, nextA, h1]
    have hd : destroyA L k = ⟨L.base, L.snaps.take k, keepA L k⟩ := by
      rw [destroyA, h1]
      simp only [hB, List.append_nil]
    have e := hperm L.dead a
    rw [hd, hf, hk1]
    conv => rhs; rw [allP, hsp, hB]
    simp only [allP, List.count_append, List.flatMap_append, List.flatMap_cons, List.flatMap_nil, List.append_nil]
    omega
  | some x1 =>
    have hkl := (List.getElem?_eq_some_iff.1 h1).1
    have hB : L.snaps.drop (k + 1) = x1 :: L.snaps.drop (k + 2) := by
      have := List.drop_eq_getElem_cons hkl
      rw [(List.getElem?_eq_some_iff.1 h1).2] at this
      exact this
    have hk1 : keepA L k = x0.2 ++ x1.2.filter fun p => !decide (L.ahead k < p.b) := by simp [keepA, h0, nextA, h1]
    have hf : freeA L k = x1.2.filter fun p => decide (L.ahead k < p.b) := by simp [freeA, nextA, h1]
    have hd : destroyA L k = ⟨L.base, L.snaps.take k ++ (x1.1, keepA L k) :: L.snaps.drop (k + 2), L.dead⟩ := by
      rw [destroyA, h1]
      simp only [LA.mk.injEq, true_and, and_true]
      congr 1
      · rw [List.take_set_of_le (by omega)]
      · rw [List.drop_set, if_neg (by omega), Nat.sub_self, hB]
        rfl
    have e := hperm x1.2 a
    rw [hd, hf, hk1]
    conv => rhs; rw [allP, hsp, hB]
    simp only [allP, List.count_append, List.flatMap_append, List.flatMap_cons]
    omega
theorem destroy_sl {L : LA} {k : Nat} (hk : k < L.snaps.length) : (destroyA L k).snaps.length = L.snaps.length - 1 := by
  rw [destroyA]
  split
  · show List.length (_ ++ _) = _
    rw [List.length_append, List.length_take, List.length_drop, List.length_set]
    omega
  · show List.length (_ ++ _) = _
    rw [List.length_append, List.length_take, List.length_drop]
    omega
theorem nodup_ne {fr : List PtV} (h : (fr.map (·.a)).Nodup) {i j : Nat} {p q : PtV} (hi : fr[i]? = some p) (hj : fr[j]? = some q) (hij : i < j) : p.a ≠ q.a := by
  have h1 := (List.getElem?_eq_some_iff.1 hi)
  have h2 := (List.getElem?_eq_some_iff.1 hj)
  have := List.pairwise_iff_getElem.1 h i j (by simpa using h1.1) (by simpa using h2.1) hij
  simpa [h1.2, h2.2] using this
structure OI (L : LA) (m : Nat) : Prop where
  right : L.Right
  base : L.base = 0
  born : ∀ p ∈ allP L, 1 ≤ p.b ∧ 0 ≤ p.a ∧ p.a < (m : Int)
  nodup : ((allP L).map (·.a)).Nodup
theorem OI.zero : OI LA.zero 0 := ⟨⟨Int.le_refl _, (fun p hp => by cases hp), (fun i x hx => by simp [LA.zero] at hx)⟩, rfl, (fun p hp => by simp [allP, LA.zero] at hp), by simp [allP, LA.zero]⟩
theorem OI.up {L : LA} {m : Nat} (h : OI L m) : OI L (m + 1) := ⟨h.right, h.base, fun p hp => by have := h.born p hp; omega, h.nodup⟩
theorem SnapR.go {L L' : LA} {t e : Int} (h : SnapR L t L' e) (hR : L.Right) (ht : L.ahead L.snaps.length < t) : L' = { L with snaps := L.snaps ++ [(t, L.dead)], dead := [] } ∧ e = 0 := by
  rcases h with ⟨h, _⟩ | ⟨_, h, _⟩ | ⟨_, _, h⟩
  · exact absurd hR h
  · omega
  · exact h
theorem KillR.keep {L L' : LA} {p : PtV} {b : Bool} {e : Int} (h : KillR L p L' b e) (hR : L.Right) (hp : p.b ≤ L.ahead L.snaps.length) : L' = { L with dead := L.dead ++ [p] } ∧ b = false ∧ e = 0 := by
  rcases h with ⟨h, _⟩ | ⟨_, h, _⟩ | ⟨_, _, h⟩
  · exact absurd hR h
  · omega
  · exact h
theorem KillR.free {L L' : LA} {p : PtV} {b : Bool} {e : Int} (h : KillR L p L' b e) (hR : L.Right) (hp : L.ahead L.snaps.length < p.b) : L' = L ∧ b = true ∧ e = 0 := by
  rcases h with ⟨h, _⟩ | ⟨_, _, h⟩ | ⟨_, h, _⟩
  · exact absurd hR h
  · exact h
  · omega
theorem DestR.go {L L' : LA} {k e : Int} {fr : List PtV} (h : DestR L k L' fr e) (hR : L.Right) (hk : 0 ≤ k ∧ k < (L.snaps.length : Int)) : L' = destroyA L k.toNat ∧ fr = freeA L k.toNat ∧ e = 0 := by
  rcases h with ⟨h, _⟩ | ⟨_, h, _⟩ | ⟨_, _, h⟩
  · exact absurd hR h
  · omega
  · exact h
theorem snap_ahead (L : LA) (t : Int) : ({ L with snaps := L.snaps ++ [(t, L.dead)], dead := [] } : LA).ahead (L.snaps.length + 1) = t := by
  rw [LA.ahead, if_neg (by omega)]
  simp
theorem snap_right {L : LA} {t : Int} (hR : L.Right) (ht : L.ahead L.snaps.length < t) : ({ L with snaps := L.snaps ++ [(t, L.dead)], dead := [] } : LA).Right := by
  have hah : ∀ i, i ≤ L.snaps.length → ({ L with snaps := L.snaps ++ [(t, L.dead)], dead := [] } : LA).ahead i = L.ahead i := fun i hi => by
    refine ahead_cong (L := { L with snaps := L.snaps ++ [(t, L.dead)], dead := [] }) (M := L) rfl ?_
    rcases Nat.eq_zero_or_pos i with h2 | h2
    · exact .inl ⟨h2, h2⟩
    · refine .inr ⟨h2, h2, ?_⟩
      show ((L.snaps ++ [(t, L.dead)])[i - 1]?).map _ = _
      rw [List.getElem?_append_left (by omega)]
  refine ⟨hR.base, (fun p hp => by cases hp), fun i x hx => ?_⟩
  have hx : (L.snaps ++ [(t, L.dead)])[i]? = some x := hx
  have hi := (List.getElem?_eq_some_iff.1 hx).1
  rw [List.length_append] at hi
  simp only [List.length_cons, List.length_nil] at hi
  rw [hah i (by omega)]
  rcases Nat.lt_or_ge i L.snaps.length with h1 | h1
  · rw [List.getElem?_append_left h1] at hx
    exact hR.snaps i x hx
  · have h2 : i = L.snaps.length := by omega
    subst h2
    simp at hx
    subst hx
    exact ⟨ht, hR.dead⟩
theorem snap_all (L : LA) (t : Int) : allP { L with snaps := L.snaps ++ [(t, L.dead)], dead := [] } = allP L := by simp [allP]
theorem OI.snap {L : LA} {m : Nat} (h : OI L m) {t : Int} (ht : L.ahead L.snaps.length < t) : OI { L with snaps := L.snaps ++ [(t, L.dead)], dead := [] } m :=
  ⟨snap_right h.right ht, h.base, by rw [snap_all]; exact h.born, by rw [snap_all]; exact h.nodup⟩
theorem kill_all (L : LA) (p : PtV) : allP { L with dead := L.dead ++ [p] } = allP L ++ [p] := by simp [allP]
theorem kill_right {L : LA} {p : PtV} (hR : L.Right) (hp : p.b ≤ L.ahead L.snaps.length) : ({ L with dead := L.dead ++ [p] } : LA).Right := ⟨hR.base, fun q hq => by
  rcases List.mem_append.1 hq with h1 | h1
  · exact hR.dead q h1
  · rw [List.mem_singleton.1 h1]
    exact hp, hR.snaps⟩
theorem OI.kill {L : LA} {m : Nat} (h : OI L m) {p : PtV} (hp : p.b ≤ L.ahead L.snaps.length) (h1 : 1 ≤ p.b) (ha : p.a = (m : Int)) : OI { L with dead := L.dead ++ [p] } (m + 1) := by
  refine ⟨kill_right h.right hp, h.base, ?_, ?_⟩
  · rw [kill_all]
    intro q hq
    rcases List.mem_append.1 hq with h2 | h2
    · have := h.born q h2; omega
    · rw [List.mem_singleton.1 h2]; omega
  · rw [kill_all, List.map_append, List.nodup_append]
    refine ⟨h.nodup, by simp, fun a h2 b h3 e => ?_⟩
    obtain ⟨q, hq, rfl⟩ := List.mem_map.1 h2
    have := h.born q hq
    simp only [List.map_cons, List.map_nil, List.mem_singleton] at h3
    omega
theorem OI.destroy {L : LA} {m : Nat} (h : OI L m) {k : Nat} (hk : k < L.snaps.length) : OI (destroyA L k) m ∧ (∀ p ∈ freeA L k, 0 ≤ p.a ∧ p.a < (m : Int)) ∧ ((freeA L k).map (·.a)).Nodup ∧ (∀ p ∈ allP (destroyA L k), ∀ q ∈ freeA L k, p.a ≠ q.a) ∧ (allP L).length = (allP (destroyA L k)).length + (freeA L k).length := by
  have hp := allP_destroy L hk
  have hm : ∀ p, p ∈ allP (destroyA L k) ++ freeA L k ↔ p ∈ allP L := fun p => hp.mem_iff
  have hn : ((allP (destroyA L k) ++ freeA L k).map (·.a)).Nodup := (hp.map _).nodup_iff.2 h.nodup
  rw [List.map_append, List.nodup_append] at hn
  refine ⟨⟨right_destroy h.right hk, ?_, fun p hp => h.born p ((hm p).1 (List.mem_append_left _ hp)), hn.1⟩, fun p hp => (h.born p ((hm p).1 (List.mem_append_right _ hp))).2, hn.2.1, fun p hp q hq e => hn.2.2 _ (List.mem_map.2 ⟨p, hp, rfl⟩) _ (List.mem_map.2 ⟨q, hq, rfl⟩) e, ?_⟩
  · rw [destroyA]
    split <;> exact h.base
  · have := hp.length_eq
    rw [List.length_append] at this
    exact this.symm
theorem OI.end_ {L : LA} {m : Nat} (h : OI L m) (hs : L.snaps = []) : allP L = [] := by
  have hd : L.dead = [] := by
    refine List.eq_nil_iff_forall_not_mem.2 fun p hp => ?_
    have h1 := h.right.dead p hp
    have h2 := (h.born p (List.mem_append_right _ hp)).1
    rw [hs] at h1
    have h3 : L.ahead 0 = L.base := rfl
    have h4 := h.base
    simp only [List.length_nil] at h1
    omega
  simp [allP, hs, hd]
theorem all_len {L : LA} {n : Nat} (h : (allP L).length ≤ n) : L.dead.length ≤ n ∧ ∀ x ∈ L.snaps, x.2.length ≤ n := by
  rw [allP, List.length_append] at h
  refine ⟨by omega, fun x hx => ?_⟩
  have : x.2.length ≤ (L.snaps.flatMap (·.2)).length := by
    obtain ⟨A, B, e⟩ := List.append_of_mem hx
    rw [e, List.flatMap_append, List.flatMap_cons, List.length_append, List.length_append]
    omega
  omega
theorem all_sm {l : LnV} {n : Nat} (h : (allP l.abs).length ≤ n) (hs : l.snaps.length ≤ n) (hn : n ≤ 1000) : Sm 0 l ∧ l.dead.length ≤ 1700000000000 ∧ ∀ x ∈ l.snaps, x.dead.length ≤ 1700000000000 := by
  obtain ⟨h1, h2⟩ := all_len h
  have h1 : l.dead.length ≤ n := h1
  have h3 : ∀ x ∈ l.snaps, x.dead.length ≤ n := fun x hx => h2 (x.txg, x.dead) (List.mem_map.2 ⟨x, hx, rfl⟩)
  exact ⟨⟨by omega, by omega, fun x hx => by have := h3 x hx; omega⟩, by omega, fun x hx => by have := h3 x hx; omega⟩
theorem LS.lt {S : Nat → Prop} {w : World} {l : LnV} (h : LS S w l) : LS (fun b => S b ∧ b < w.heap.size) w l := ⟨h.snaps.lt, h.dead.lt, fun x hx => (h.inner x hx).lt⟩
end Go.Proofs.Ytgmkoieemmglpaa
