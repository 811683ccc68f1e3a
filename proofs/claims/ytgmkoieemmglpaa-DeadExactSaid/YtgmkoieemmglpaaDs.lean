import Derived.Test.YtgmkoieemmglpaaDn
namespace Go.Proofs.Ytgmkoieemmglpaa
open Go.RowKit Go.HL

/-! a line that is destroyed stays in form -/
theorem LA.ahead_succ {L : LA} {i : Nat} {x : Int × List PtV} (h : L.snaps[i]? = some x) : L.ahead (i + 1) = x.1 := by
  rw [LA.ahead, if_neg (by omega), Nat.add_sub_cancel, h]
  rfl
theorem ahead_cong {L M : LA} (hb : L.base = M.base) {i j : Nat} (h : i = 0 ∧ j = 0 ∨ 0 < i ∧ 0 < j ∧ (L.snaps[i - 1]?).map (·.1) = (M.snaps[j - 1]?).map (·.1)) : L.ahead i = M.ahead j := by
  rcases h with ⟨rfl, rfl⟩ | ⟨h1, h2, h3⟩
  · exact hb
  · rw [LA.ahead, LA.ahead, if_neg (by omega), if_neg (by omega), h3]
theorem keep_old {L : LA} (hR : L.Right) {k : Nat} {x0 : Int × List PtV} (h0 : L.snaps[k]? = some x0) : ∀ p ∈ keepA L k, p.b ≤ L.ahead k := by
  intro p hp
  rw [keepA, h0] at hp
  rcases List.mem_append.1 hp with h1 | h1
  · exact (hR.snaps k x0 h0).2 p h1
  · have := (List.mem_filter.1 h1).2
    simp at this
    exact this
theorem right_destroy {L : LA} (hR : L.Right) {k : Nat} (hk : k < L.snaps.length) : (destroyA L k).Right := by
  obtain ⟨x0, h0⟩ : ∃ x0, L.snaps[k]? = some x0 := ⟨_, List.getElem?_eq_getElem hk⟩
  have hkeep := keep_old hR h0
  have hlt := (hR.snaps k x0 h0).1
  cases h1 : L.snaps[k + 1]? with
  | none =>
    have hl : L.snaps.length = k + 1 := by
      have := List.getElem?_eq_none_iff.1 h1
      omega
    have hd : destroyA L k = ⟨L.base, L.snaps.take k, keepA L k⟩ := by
      rw [destroyA, h1]
      simp only [List.drop_of_length_le (Nat.le_of_eq hl), List.append_nil]
    have hah : ∀ i, i ≤ k → (destroyA L k).ahead i = L.ahead i := fun i hi => by
      refine ahead_cong (by rw [hd]) ?_
      rcases Nat.eq_zero_or_pos i with h2 | h2
      · exact .inl ⟨h2, h2⟩
      · refine .inr ⟨h2, h2, ?_⟩
        rw [hd]
        show (((L.snaps.take k)[i - 1]?).map _) = _
        rw [List.getElem?_take_of_lt (by omega)]
    refine ⟨by rw [hd]; exact hR.base, fun p hp => ?_, fun i x hx => ?_⟩
    · have hlen : (destroyA L k).snaps.length = k := by rw [hd]; show (L.snaps.take k).length = k; rw [List.length_take]; omega
      rw [hlen, hah k (Nat.le_refl _)]
      rw [hd] at hp
      exact hkeep p hp
    · rw [hd] at hx
      have hx : (L.snaps.take k)[i]? = some x := hx
      have hi : i < k := by
        have := (List.getElem?_eq_some_iff.1 hx).1
        rw [List.length_take] at this
        omega
      rw [List.getElem?_take_of_lt hi] at hx
      rw [hah i (Nat.le_of_lt hi)]
      exact hR.snaps i x hx
  | some x1 =>
    have hk1 := (List.getElem?_eq_some_iff.1 h1).1
    have hd : destroyA L k = ⟨L.base, (L.snaps.set (k + 1) (x1.1, keepA L k)).take k ++ (L.snaps.set (k + 1) (x1.1, keepA L k)).drop (k + 1), L.dead⟩ := by rw [destroyA, h1]
    have hlo : ∀ i, i < k → (destroyA L k).snaps[i]? = L.snaps[i]? := fun i hi => by
      rw [hd]
      show (_ ++ _)[i]? = _
      rw [List.getElem?_append_left (by rw [List.length_take, List.length_set]; omega), List.getElem?_take_of_lt hi, List.getElem?_set_ne (by omega)]
    have hhi : ∀ i, k ≤ i → (destroyA L k).snaps[i]? = (L.snaps.set (k + 1) (x1.1, keepA L k))[i + 1]? := fun i hi => by
      rw [hd]
      show (_ ++ _)[i]? = _
      rw [List.getElem?_append_right (by rw [List.length_take, List.length_set]; omega), List.getElem?_drop, List.length_take, List.length_set]
      congr 1
      omega
    have hmid : (destroyA L k).snaps[k]? = some (x1.1, keepA L k) := by rw [hhi k (Nat.le_refl _), List.getElem?_set_self hk1]
    have hup : ∀ i, k < i → (destroyA L k).snaps[i]? = L.snaps[i + 1]? := fun i hi => by rw [hhi i (Nat.le_of_lt hi), List.getElem?_set_ne (by omega)]
    have ha1 : ∀ i, i ≤ k → (destroyA L k).ahead i = L.ahead i := fun i hi => by
      refine ahead_cong (by rw [hd]) ?_
      rcases Nat.eq_zero_or_pos i with h2 | h2
      · exact .inl ⟨h2, h2⟩
      · exact .inr ⟨h2, h2, by rw [hlo (i - 1) (by omega)]⟩
    have ha2 : ∀ i, k < i → (destroyA L k).ahead i = L.ahead (i + 1) := fun i hi => by
      refine ahead_cong (by rw [hd]) (.inr ⟨by omega, by omega, ?_⟩)
      rcases Nat.lt_or_ge k (i - 1) with h2 | h2
      · rw [hup (i - 1) h2]
        congr 2
        omega
      · have h3 : i - 1 = k := by omega
        have h4 : i + 1 - 1 = k + 1 := by omega
        rw [h3, h4, hmid, h1]
        rfl
    refine ⟨by rw [hd]; exact hR.base, fun p hp => ?_, fun i x hx => ?_⟩
    · have hlen : (destroyA L k).snaps.length = L.snaps.length - 1 := by
        rw [hd]
        show List.length (_ ++ _) = _
        rw [List.length_append, List.length_take, List.length_drop, List.length_set]
        omega
      rw [hlen, ha2 _ (by omega), show L.snaps.length - 1 + 1 = L.snaps.length from by omega]
      rw [hd] at hp
      exact hR.dead p hp
    · rcases Nat.lt_trichotomy i k with h2 | h2 | h2
      · rw [hlo i h2] at hx
        rw [ha1 i (Nat.le_of_lt h2)]
        exact hR.snaps i x hx
      · subst h2
        rw [hmid] at hx
        injection hx with hx
        subst hx
        rw [ha1 i (Nat.le_refl _)]
        refine ⟨?_, hkeep⟩
        have h3 := (hR.snaps (i + 1) x1 h1).1
        rw [LA.ahead_succ h0] at h3
        show _ < x1.1
        omega
      · rw [hup i h2] at hx
        rw [ha2 i h2]
        exact hR.snaps (i + 1) x hx
theorem next_len {L : LA} {Z : Nat} (hz : L.dead.length ≤ Z ∧ ∀ x ∈ L.snaps, x.2.length ≤ Z) (k : Nat) : (nextA L k).length ≤ Z := by
  rw [nextA]
  split
  · next x h => exact hz.2 _ (List.mem_of_getElem? h)
  · exact hz.1
theorem keep_len {L : LA} {Z : Nat} (hz : L.dead.length ≤ Z ∧ ∀ x ∈ L.snaps, x.2.length ≤ Z) (k : Nat) : (keepA L k).length ≤ Z + Z := by
  have h1 := next_len hz k
  have h2 := List.length_filter_le (fun p : PtV => !decide (L.ahead k < p.b)) (nextA L k)
  have h3 : (((L.snaps[k]?).map (·.2)).getD []).length ≤ Z := by
    cases h : L.snaps[k]? with
    | none => exact Nat.zero_le _
    | some x => exact hz.2 _ (List.mem_of_getElem? h)
  rw [keepA, List.length_append]
  omega
theorem destroy_len {L : LA} {Z : Nat} (hz : L.dead.length ≤ Z ∧ ∀ x ∈ L.snaps, x.2.length ≤ Z) (k : Nat) : (destroyA L k).snaps.length ≤ L.snaps.length ∧ (destroyA L k).dead.length ≤ Z + Z ∧ ∀ x ∈ (destroyA L k).snaps, x.2.length ≤ Z + Z := by
  have hkl := keep_len hz k
  rw [destroyA]
  split
  · next x h =>
    refine ⟨?_, by show L.dead.length ≤ _; omega, fun y hy => ?_⟩
    · show List.length (_ ++ _) ≤ _
      rw [List.length_append, List.length_take, List.length_drop, List.length_set]
      omega
    · have h2 : y ∈ L.snaps.set (k + 1) (x.1, keepA L k) := by
        rcases List.mem_append.1 hy with h | h
        · exact List.mem_of_mem_take h
        · exact List.mem_of_mem_drop h
      rcases List.mem_or_eq_of_mem_set h2 with h3 | h3
      · have := hz.2 y h3; omega
      · rw [h3]; exact hkl
  · refine ⟨?_, hkl, fun y hy => ?_⟩
    · show List.length (_ ++ _) ≤ _
      rw [List.length_append, List.length_take, List.length_drop]
      omega
    · have h2 : y ∈ L.snaps := by
        rcases List.mem_append.1 hy with h | h
        · exact List.mem_of_mem_take h
        · exact List.mem_of_mem_drop h
      have := hz.2 y h2; omega
theorem DestR.sm {L L' : LA} {k : Int} {fr : List PtV} {e : Int} {Z : Nat} (h : DestR L k L' fr e) (hl : L.snaps.length ≤ 4398046510976) (hZ : Z ≤ 1700000000000) (hz : L.dead.length ≤ Z ∧ ∀ x ∈ L.snaps, x.2.length ≤ Z) : SmA 0 L' ∧ fr.length ≤ Z := by
  rcases h with ⟨-, rfl, rfl, -⟩ | ⟨-, -, rfl, rfl, -⟩ | ⟨-, -, rfl, rfl, -⟩
  · exact ⟨SmA.zero _, Nat.zero_le _⟩
  · exact ⟨SmA.zero _, Nat.zero_le _⟩
  · obtain ⟨h1, h2, h3⟩ := destroy_len hz k.toNat
    refine ⟨⟨by omega, by omega, fun x hx => by have := h3 x hx; omega⟩, ?_⟩
    exact Nat.le_trans (List.length_filter_le _ _) (next_len hz _)
theorem DestR.right {L L' : LA} {k : Int} {fr : List PtV} {e : Int} (h : DestR L k L' fr e) (he : e = 0) : L'.Right := by
  rcases h with ⟨-, -, -, h⟩ | ⟨-, -, -, -, h⟩ | ⟨hR, hk, rfl, -, -⟩
  · omega
  · omega
  · exact right_destroy hR (by omega)
theorem abs_zs {l l' : LnV} (h : l'.abs = l.abs) {Z : Nat} (hz : l.dead.length ≤ Z ∧ ∀ x ∈ l.snaps, x.dead.length ≤ Z) : l'.dead.length ≤ Z ∧ ∀ x ∈ l'.snaps, x.dead.length ≤ Z := by
  have h1 : ∀ x ∈ l.abs.snaps, x.2.length ≤ Z := fun x hx => by
    obtain ⟨y, hy, rfl⟩ := List.mem_map.1 hx
    exact hz.2 y hy
  rw [← h] at h1
  exact ⟨by rw [abs_dead h]; exact hz.1, fun x hx => h1 (x.txg, x.dead) (List.mem_map.2 ⟨x, hx, rfl⟩)⟩
theorem abs_zsA {l : LnV} {Z : Nat} (hz : l.dead.length ≤ Z ∧ ∀ x ∈ l.snaps, x.dead.length ≤ Z) : l.abs.dead.length ≤ Z ∧ ∀ x ∈ l.abs.snaps, x.2.length ≤ Z := ⟨hz.1, fun x hx => by
  obtain ⟨y, hy, rfl⟩ := List.mem_map.1 hx
  exact hz.2 y hy⟩
end Go.Proofs.Ytgmkoieemmglpaa
