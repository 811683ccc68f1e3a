import Derived.Test.YtgmkoieemmglpaaDo
import Derived.Test.YtgmkoieemmglpaaDn
namespace Go.Proofs.Ytgmkoieemmglpaa
open Go.RowKit Go.HL

/-! a line that is destroyed stays in form -/
theorem LA.ahead_succ {L : LA} {i : Nat} {x : Int × List PtV} (h : L.snaps[i]? = some x) : L.ahead (i + 1) = x.1 := by
  rw [LA.ahead, if_neg (by omega), Nat.add_sub_cancel, h]
  rfl
theorem ahead_cong {L M : LA} (hb : L.base = M.base) {i j : Nat} (h : i = 0 ∧ j = 0 ∨ 0 < i ∧ 0 < j ∧ (L.snaps[i - 1]?).map (·.1) = (M.snaps[j - 1]?).map (·.1)) : L.ahead i = M.ahead j := by
  rcases h with ⟨rfl, rfl⟩ | ⟨h1, h2, h3⟩
  · exact hb
  · rw [LA.ahead, LA.ahead, if_neg (by omega), if_neg (by omega), h3]
theorem keep_old {L : LA} (hR : L.Right) {k : Nat} {x0 : Int × List PtV} (h0 : L.snaps[k]? = some x0) : ∀ p ∈ keepA L k, p.b ≤ L.ahead k := by
  intro p hp
  rw [keepA, h0] at hp
  rcases List.mem_append.1 hp with h1 | h1
  · exact (hR.snaps k x0 h0).2 p h1
  · have := (List.mem_filter.1 h1).2
    simp at this
    exact this
theorem right_destroy {L : LA} (hR : L.Right) {k : Nat} (hk : k < L.snaps.length) : (destroyA L k).Right := by
  obtain ⟨x0, h0⟩ : ∃ x0, L.snaps[k]? = some x0 := ⟨_, List.getElem?_eq_getElem hk⟩
  have hkeep := keep_old hR h0
  have hlt := (hR.snaps k x0 h0).1
  cases h1 : L.snaps[k + 1]? with
  | none =>
    have hl : L.snaps.length = k + 1 := by
      have := List.getElem?_eq_none_iff.1 h1
      omega
    have hd : destroyA L k = ⟨L.base, L.snaps.take k, keepA L k⟩ := by
      rw [destroyA, h1]
      simp only [List.drop_of_length_le (Nat.le_of_eq hl), List.append_nil]
    have hah : ∀ i, i ≤ k → (destroyA L k).ahead i = L.ahead i := fun i hi => by
      refine ahead_cong (by rw [hd]) ?_
      rcases Nat.eq_zero_or_pos i with h2 | h2
      · exact .inl ⟨h2, h2⟩
      · refine .inr ⟨h2, h2, ?_⟩
        rw [hd]
        show (((L.snaps.take k)[i - 1]?).map _) = _
        rw [List.getElem?_take_of_lt (by omega)]
    refine ⟨by rw [hd]; exact hR.base, fun p hp => ?_, fun i x hx => ?_⟩
    · have hlen : (destroyA L k).snaps.length = k := by rw [hd]; show (L.snaps.take k).length = k; rw [List.length_take]; omega
      rw [hlen, hah k (Nat.le_refl _)]
      rw [hd] at hp
      exact hkeep p hp
    · rw [hd] at hx
      have hx : (L.snaps.take k)[i]? = some x := hx
      have hi : i < k := by
        have := (List.getElem?_eq_some_iff.1 hx).1
        rw [List.length_take] at this
        omega
      rw [List.getElem?_take_of_lt hi] at hx
      rw [hah i (Nat.le_of_lt hi)]
      exact hR.snaps i x hx
  | some x1 =>
    have hk1 := (List.getElem?_eq_some_iff.1 h1).1
    have hd : destroyA L k = ⟨L.base, (L.snaps.set (k + 1) (x1.1, keepA L k)).take k ++ (L.snaps.set (k + 1) (x1.1, keepA L k)).drop (k + 1), L.dead⟩ := by rw [destroyA, h1]
    have hlo : ∀ i, i < k → (destroyA L k).snaps[i]? = L.snaps[i]? := fun i hi => by
      rw [hd]
      show (_ ++ _)[i]? = _
      rw [List.getElem?_append_left (by rw [List.length_take, List.length_set]; omega), List.getElem?_take_of_lt hi, List.getElem?_set_ne (by omega)]
    have hhi : ∀ i, k ≤ i → (destroyA L k).snaps[i]? = (L.snaps.set (k + 1) (x1.1, keepA L k))[i + 1]? := fun i hi => by
      rw [hd]
      show (_ ++ _)[i]? = _
      rw [List.getElem?_append_right (by rw [List.length_take, List.length_set]; omega), List.getElem?_drop, List.length_take, List.length_set]
      congr 1
      omega
    have hmid : (destroyA L k).snaps[k]? = some (x1.1, keepA L k) := by rw [hhi k (Nat.le_refl _), List.getElem?_set_self hk1]
    have hup : ∀ i, k < i → (destroyA L k).snaps[i]? = L.snaps[i + 1]? := fun i hi => by rw [hhi i (Nat.le_of_lt hi), List.getElem?_set_ne (by omega)]
    have ha1 : ∀ i, i ≤ k → (destroyA L k).ahead i = L.ahead i := fun i hi => by
      refine ahead_cong (by rw [hd]) ?_
      rcases Nat.eq_zero_or_pos i with h2 | h2
      · exact .inl ⟨h2, h2⟩
      · exact .inr ⟨h2, h2, by rw [hlo (i - 1) (by omega)]⟩
    have ha2 : ∀ i, k < i → (destroyA L k).ahead i = L.ahead (i + 1) := fun i hi => by
      refine ahead_cong (by rw [hd]) (.inr ⟨by omega, by omega, ?_⟩)
      rcases Nat.lt_or_ge k (i - 1) with h2 | h2
      · rw [hup (i - 1) h2]
        congr 2
        omega
      · have h3 : i - 1 = k := by omega
        have h4 : i + 1 - 1 = k + 1 := by omega
        rw [h3, h4, hmid, h1]
        rfl
    refine ⟨by rw [hd]; exact hR.base, fun p hp => ?_, fun i x hx => ?_⟩
    · have hlen : (destroyA L k).snaps.length = L.snaps.length - 1 := by
        rw [hd]
        show List.length (_ ++ _) = _
        rw [List.length_append, List.length_take, List.length_drop, List.length_set]
        omega
      rw [hlen, ha2 _ (by omega), show L.snaps.length - 1 + 1 = L.snaps.length from by omega]
      rw [hd] at hp
      exact hR.dead p hp
    · rcases Nat.lt_trichotomy i k with h2 | h2 | h2
      · rw [hlo i h2] at hx
        rw [ha1 i (Nat.le_of_lt h2)]
        exact hR.snaps i x hx
      · subst h2
        rw [hmid] at hx
        injection hx with hx
        subst hx
        rw [ha1 i (Nat.le_refl _)]
        refine ⟨?_, hkeep⟩
        have h3 := (hR.snaps (i + 1) x1 h1).1
        rw [LA.ahead_succ h0] at h3
        show _ < x1.1
        omega
      · rw [hup i h2] at hx
        rw [ha2 i h2]
        exact hR.snaps (i + 1) x hx
theorem next_len {L : LA} {Z : Nat} (hz : L.dead.length ≤ Z ∧ ∀ x ∈ L.snaps, x.2.length ≤ Z) (k : Nat) : (nextA L k).length ≤ Z := by
  rw [nextA]
  split
  · next x h => exact hz.2 _ (List.mem_of_getElem? h)
  · exact hz.1
theorem keep_len {L : LA} {Z : Nat} (hz : L.dead.length ≤ Z ∧ ∀ x ∈ L.snaps, x.2.length ≤ Z) (k : Nat) : (keepA L k).length ≤ Z + Z := by
  have h1 := next_len hz k
  have h2 := List.length_filter_le (fun p : PtV => !decide (L.ahead k < p.b)) (nextA L k)
  have h3 : (((L.snaps[k]?).map (·.2)).getD []).length ≤ Z := by
    cases h : L.snaps[k]? with
    | none => exact Nat.zero_le _
    | some x => exact hz.2 _ (List.mem_of_getElem? h)
  rw [keepA, List.length_append]
  omega
theorem destroy_len {L : LA} {Z : Nat} (hz : L.dead.length ≤ Z ∧ ∀ x ∈ L.snaps, x.2.length ≤ Z) (k : Nat) : (destroyA L k).snaps.length ≤ L.snaps.length ∧ (destroyA L k).dead.length ≤ Z + Z ∧ ∀ x ∈ (destroyA L k).snaps, x.2.length ≤ Z + Z := by
  have hkl := keep_len hz k
  rw [destroyA]
  split
  · next x h =>
    refine ⟨?_, by show L.dead.length ≤ _; omega, fun y hy => ?_⟩
    · show List.length (_ ++ _) ≤ _
      rw [List.length_append, List.length_take, List.length_drop, List.length_set]
      omega
    · have h2 : y ∈ L.snaps.set (k + 1) (x.1, keepA L k) := by
        rcases List.mem_append.1 hy with h | h
        · exact List.mem_of_mem_take h
        · exact List.mem_of_mem_drop h
      rcases List.mem_or_eq_of_mem_set h2 with h3 | h3
      · have := hz.2 y h3; omega
      · rw [h3]; exact hkl
  · refine ⟨?_, hkl, fun y hy => ?_⟩
    · show List.length (_ ++ _) ≤ _
      rw [List.length_append, List.length_take, List.length_drop]
      omega
    · have h2 : y ∈ L.snaps := by
        rcases List.mem_append.1 hy with h | h
        · exact List.mem_of_mem_take h
        · exact List.mem_of_mem_drop h
      have := hz.2 y h2; omega
theorem DestR.sm {L L' : LA} {k : Int} {fr : List PtV} {e : Int} {Z : Nat} (h : DestR L k L' fr e) (hl : L.snaps.length ≤ 4398046510976) (hZ : Z ≤ 1700000000000) (hz : L.dead.length ≤ Z ∧ ∀ x ∈ L.snaps, x.2.length ≤ Z) : SmA 0 L' ∧ fr.length ≤ Z := by
  rcases h with ⟨-, rfl, rfl, -⟩ | ⟨-, -, rfl, rfl, -⟩ | ⟨-, -, rfl, rfl, -⟩
  · exact ⟨SmA.zero _, Nat.zero_le _⟩
  · exact ⟨SmA.zero _, Nat.zero_le _⟩
  · obtain ⟨h1, h2, h3⟩ := destroy_len hz k.toNat
    refine ⟨⟨by omega, by omega, fun x hx => by have := h3 x hx; omega⟩, ?_⟩
    exact Nat.le_trans (List.length_filter_le _ _) (next_len hz _)
theorem DestR.right {L L' : LA} {k : Int} {fr : List PtV} {e : Int} (h : DestR L k L' fr e) (he : e = 0) : L'.Right := by
  rcases h with ⟨-, -, -, h⟩ | ⟨-, -, -, -, h⟩ | ⟨hR, hk, rfl, -, -⟩
  · omega
  · omega
  · exact right_destroy hR (by omega)
theorem abs_zs {l l' : LnV} (h : l'.abs = l.abs) {Z : Nat} (hz : l.dead.length ≤ Z ∧ ∀ x ∈ l.snaps, x.dead.length ≤ Z) : l'.dead.length ≤ Z ∧ ∀ x ∈ l'.snaps, x.dead.length ≤ Z := by
  have h1 : ∀ x ∈ l.abs.snaps, x.2.length ≤ Z := fun x hx => by
    obtain ⟨y, hy, rfl⟩ := List.mem_map.1 hx
    exact hz.2 y hy
  rw [← h] at h1
  exact ⟨by rw [abs_dead h]; exact hz.1, fun x hx => h1 (x.txg, x.dead) (List.mem_map.2 ⟨x, hx, rfl⟩)⟩
theorem abs_zsA {l : LnV} {Z : Nat} (hz : l.dead.length ≤ Z ∧ ∀ x ∈ l.snaps, x.dead.length ≤ Z) : l.abs.dead.length ≤ Z ∧ ∀ x ∈ l.abs.snaps, x.2.length ≤ Z := ⟨hz.1, fun x hx => by
  obtain ⟨y, hy, rfl⟩ := List.mem_map.1 hx
  exact hz.2 y hy⟩
set_option maxHeartbeats 4000000 in
theorem DeadGoes_calls {S : Nat → Prop} {w : World} {l : LnV} (h : LS S w l) (hs : Sm 0 l) (k : Int) (hk : -9223372036854775808 ≤ k ∧ k ≤ 9223372036854775807) (hz : l.dead.length ≤ 1700000000000 ∧ ∀ x ∈ l.snaps, x.dead.length ≤ 1700000000000) :
    Calls Try.prog 4 [lval l, vi k].toArray w (Ret fun v w' => v = .bool true ∧ Chg Nob w w') := by
  have hw := Chg.refl Nob w
  have hsn := hs.snaps
  have hsd := hs.dead
  have hsa := hs.sma
  have hs2 : Sm 20 l := hs.up (by decide)
  have hs1 : Sm 10 l := hs.up (by decide)
  have hza := abs_zsA hz
  have hsl : l.abs.snaps.length ≤ 4398046510976 := by rw [show l.abs.snaps.length = l.snaps.length from sabs_len _]; omega
  replace h := h.old
  refine Calls.of_WC Try.func4 rfl Try.ntmps4 (by simp) ?_
  refine WC.seq (WC.region (?_))
  refine WL.box rfl rfl ?_
  intro g_1 w_1 hge_1 hlt_1 hb_1 k_1
  have zs_k_1 := k_1.size
  replace h := h.pure k_1
  replace hw := hw.pure k_1
  refine WL.assign rfl rfl (WL.nil (WX.then_normal (WC.seq (WC.seq (WC.region (?_))))))
  refine WL.call eg_8 rfl rfl (known_calls _) ?_
  rintro v w1 ⟨rfl, k1⟩
  have zs_k1 := k1.size
  replace h := h.pure k1
  replace hw := hw.pure k1
  replace hb_1 := hb_1.pure k1
  refine WL.not rfl rfl (WL.nil (WX.then_normal (WC.cond_false rfl (WC.skip (WX.then_normal (WC.seq (WC.region (?_))))))))
  refine WL.loadsB Try.isAgg25 Try.sizeOf25 hb_1 rfl (by first | (simp; done) | (simp; omega) | rfl) rfl (WL.move rfl rfl (?_))
  have hb1 : Blk _ g_1 25 (lcells l) := hb_1
  refine WL.call eg_18 rfl rfl (DocDestroy_calls h hs1 k hk hz) ?_
  rintro v w4 ⟨⟨l2, fao2, fc2, fr2, e2, rfl, hR2, hL2, hF2⟩, k4⟩
  have zs_k4 := k4.size
  replace h := h.pure k4
  replace hw := hw.pure k4
  replace hb1 := hb1.pure k4
  replace hL2 := hL2.old
  replace hF2 := hF2.old
  refine WL.move rfl rfl (WL.extract rfl rfl rfl (WL.extract rfl rfl rfl (WL.extract rfl rfl rfl (?_))))
  refine WL.alloc Try.zeroValue25 rfl ?_
  intro g5 w5 hge5 hlt5 hb5 k5
  have zs_k5 := k5.size
  replace h := h.pure k5
  replace hw := hw.pure k5
  replace hb1 := hb1.pure k5
  replace hL2 := hL2.pure k5
  replace hF2 := hF2.pure k5
  refine WL.stores Try.sizeOf25 hb5 rfl rfl (by first | (simp; done) | (simp; omega) | rfl) (by first | exact Enc.one _ _ | (intro u hu; obtain ⟨x, _, rfl⟩ := List.mem_map.1 hu; rfl) | (simp [Value.oneCell']; done) | (simp [Value.oneCell', Value.cells]; done)) (by first | (simp; done) | (simp; omega) | (simp [Value.cells]; done) | (simp [Value.cells]; omega) | exact Nat.le_of_ble_eq_true rfl) rfl ?_
  intro w_2 hs_2 hn_2 k_2
  have zs_k_2 := k_2.size
  replace h := h.chg k_2 (by first | (intro x h1 h2; exact h2) | (intro x h0 h1 h2; exact hS x h1 h2) | (intro x h0 h1 h2; have h3 : _ = _ := h2; subst h3; exact hSR h1.1) | (intro x h1 h2; have h3 : _ = _ := h2; subst h3; assumption) | (intro x h1 h2; have h3 : _ = _ := h2; exfalso; omega) | (intro b h1 h2 h3; have h4 : _ = _ := h3; (try dsimp only at h2); exfalso; omega) | (intro h1; have h2 : _ = _ := h1; exfalso; omega) | (intro h1; have h2 : _ ≤ _ := h1; exfalso; omega) | (intros; exfalso; (try dsimp only at *); omega) | (intro b h1 h2 h3; exfalso; have h4 := h3.2; (try dsimp only at *); omega) | (intro h1; exfalso; have h4 := h1.2; (try dsimp only at *); omega) | (intro x h1 h2; exfalso; have h4 := h2.2; (try dsimp only at *); omega) | (intro x h1 h2; exact ⟨_, rfl, h2⟩) | (intro x h1 h2; have h4 := h2.1; have h5 := h2.2; exfalso; omega) | (intro x h1 h2; exact h2.1) | (intro x h1 h2; rcases h2.1 with h3 | h3; exact h3; exfalso; omega) | (intro x h1 h2; rcases h2 with h3 | h3; exact h3; exfalso; omega))
  replace hw := hw.chg k_2 (by first | (intro x h1 h2; exact h2) | (intro x h0 h1 h2; exact hS x h1 h2) | (intro x h0 h1 h2; have h3 : _ = _ := h2; subst h3; exact hSR h1.1) | (intro x h1 h2; have h3 : _ = _ := h2; subst h3; assumption) | (intro x h1 h2; have h3 : _ = _ := h2; exfalso; omega) | (intro b h1 h2 h3; have h4 : _ = _ := h3; (try dsimp only at h2); exfalso; omega) | (intro h1; have h2 : _ = _ := h1; exfalso; omega) | (intro h1; have h2 : _ ≤ _ := h1; exfalso; omega) | (intros; exfalso; (try dsimp only at *); omega) | (intro b h1 h2 h3; exfalso; have h4 := h3.2; (try dsimp only at *); omega) | (intro h1; exfalso; have h4 := h1.2; (try dsimp only at *); omega) | (intro x h1 h2; exfalso; have h4 := h2.2; (try dsimp only at *); omega) | (intro x h1 h2; exact ⟨_, rfl, h2⟩) | (intro x h1 h2; have h4 := h2.1; have h5 := h2.2; exfalso; omega) | (intro x h1 h2; exact h2.1) | (intro x h1 h2; rcases h2.1 with h3 | h3; exact h3; exfalso; omega) | (intro x h1 h2; rcases h2 with h3 | h3; exact h3; exfalso; omega))
  replace hb1 := hb1.chg k_2 (by first | (intro x h1 h2; exact h2) | (intro x h0 h1 h2; exact hS x h1 h2) | (intro x h0 h1 h2; have h3 : _ = _ := h2; subst h3; exact hSR h1.1) | (intro x h1 h2; have h3 : _ = _ := h2; subst h3; assumption) | (intro x h1 h2; have h3 : _ = _ := h2; exfalso; omega) | (intro b h1 h2 h3; have h4 : _ = _ := h3; (try dsimp only at h2); exfalso; omega) | (intro h1; have h2 : _ = _ := h1; exfalso; omega) | (intro h1; have h2 : _ ≤ _ := h1; exfalso; omega) | (intros; exfalso; (try dsimp only at *); omega) | (intro b h1 h2 h3; exfalso; have h4 := h3.2; (try dsimp only at *); omega) | (intro h1; exfalso; have h4 := h1.2; (try dsimp only at *); omega) | (intro x h1 h2; exfalso; have h4 := h2.2; (try dsimp only at *); omega) | (intro x h1 h2; exact ⟨_, rfl, h2⟩) | (intro x h1 h2; have h4 := h2.1; have h5 := h2.2; exfalso; omega) | (intro x h1 h2; exact h2.1) | (intro x h1 h2; rcases h2.1 with h3 | h3; exact h3; exfalso; omega) | (intro x h1 h2; rcases h2 with h3 | h3; exact h3; exfalso; omega))
  replace hL2 := hL2.chg k_2 (by first | (intro x h1 h2; exact h2) | (intro x h0 h1 h2; exact hS x h1 h2) | (intro x h0 h1 h2; have h3 : _ = _ := h2; subst h3; exact hSR h1.1) | (intro x h1 h2; have h3 : _ = _ := h2; subst h3; assumption) | (intro x h1 h2; have h3 : _ = _ := h2; exfalso; omega) | (intro b h1 h2 h3; have h4 : _ = _ := h3; (try dsimp only at h2); exfalso; omega) | (intro h1; have h2 : _ = _ := h1; exfalso; omega) | (intro h1; have h2 : _ ≤ _ := h1; exfalso; omega) | (intros; exfalso; (try dsimp only at *); omega) | (intro b h1 h2 h3; exfalso; have h4 := h3.2; (try dsimp only at *); omega) | (intro h1; exfalso; have h4 := h1.2; (try dsimp only at *); omega) | (intro x h1 h2; exfalso; have h4 := h2.2; (try dsimp only at *); omega) | (intro x h1 h2; exact ⟨_, rfl, h2⟩) | (intro x h1 h2; have h4 := h2.1; have h5 := h2.2; exfalso; omega) | (intro x h1 h2; exact h2.1) | (intro x h1 h2; rcases h2.1 with h3 | h3; exact h3; exfalso; omega) | (intro x h1 h2; rcases h2 with h3 | h3; exact h3; exfalso; omega))
  replace hF2 := hF2.chg k_2 (by first | (intro x h1 h2; exact h2) | (intro x h0 h1 h2; exact hS x h1 h2) | (intro x h0 h1 h2; have h3 : _ = _ := h2; subst h3; exact hSR h1.1) | (intro x h1 h2; have h3 : _ = _ := h2; subst h3; assumption) | (intro x h1 h2; have h3 : _ = _ := h2; exfalso; omega) | (intro b h1 h2 h3; have h4 : _ = _ := h3; (try dsimp only at h2); exfalso; omega) | (intro h1; have h2 : _ = _ := h1; exfalso; omega) | (intro h1; have h2 : _ ≤ _ := h1; exfalso; omega) | (intros; exfalso; (try dsimp only at *); omega) | (intro b h1 h2 h3; exfalso; have h4 := h3.2; (try dsimp only at *); omega) | (intro h1; exfalso; have h4 := h1.2; (try dsimp only at *); omega) | (intro x h1 h2; exfalso; have h4 := h2.2; (try dsimp only at *); omega) | (intro x h1 h2; exact ⟨_, rfl, h2⟩) | (intro x h1 h2; have h4 := h2.1; have h5 := h2.2; exfalso; omega) | (intro x h1 h2; exact h2.1) | (intro x h1 h2; rcases h2.1 with h3 | h3; exact h3; exfalso; omega) | (intro x h1 h2; rcases h2 with h3 | h3; exact h3; exfalso; omega))
  replace hb5 := hn_2
  refine WL.assign rfl rfl (WL.assign rfl rfl (WL.nil (WX.then_normal (WC.seq (WC.region (WL.loadsB Try.isAgg25 Try.sizeOf25 hb1 rfl (by first | (simp; done) | (simp; omega) | rfl) rfl (?_)))))))
  have hb5' : Blk _ g5 25 (lcells l2) := hb5
  refine WL.call eg_10 rfl rfl (of_calls h hs2) ?_
  rintro v w6 ⟨⟨l3, rfl, hO, ha⟩, k6⟩
  have zs_k6 := k6.size
  replace h := h.pure k6
  replace hw := hw.pure k6
  replace hb1 := hb1.pure k6
  replace hL2 := hL2.pure k6
  replace hF2 := hF2.pure k6
  replace hb5' := hb5'.pure k6
  have hLa := hO.ls.old
  refine WL.move rfl rfl (?_)
  refine WL.call eg_19 rfl rfl (Destroy_calls hLa ((ha ▸ hs2.sma : SmA 20 l3.abs).up (by decide)).sm k hk (abs_zs ha hz)) ?_
  rintro v w7 ⟨⟨l4, fao4, fc4, fr4, e4, rfl, hR4, hL4, hF4⟩, k7⟩
  have zs_k7 := k7.size
  replace h := h.pure k7
  replace hw := hw.pure k7
  replace hb1 := hb1.pure k7
  replace hL2 := hL2.pure k7
  replace hF2 := hF2.pure k7
  replace hb5' := hb5'.pure k7
  replace hL4 := hL4.old
  replace hF4 := hF4.old
  rw [ha] at hR4
  obtain ⟨ha4, rfl, rfl⟩ := hR4.uniq hR2
  obtain ⟨hsm, hfl⟩ := hR4.sm hsl (Nat.le_refl _) hza
  refine WL.move rfl rfl (WL.extract rfl rfl rfl (WL.extract rfl rfl rfl (WL.extract rfl rfl rfl (?_))))
  refine WL.alloc Try.zeroValue33 rfl ?_
  intro g8 w8 hge8 hlt8 hb8 k8
  have zs_k8 := k8.size
  replace h := h.pure k8
  replace hw := hw.pure k8
  replace hb1 := hb1.pure k8
  replace hL2 := hL2.pure k8
  replace hF2 := hF2.pure k8
  replace hb5' := hb5'.pure k8
  replace hL4 := hL4.pure k8
  replace hF4 := hF4.pure k8
  refine WL.stores Try.sizeOf33 hb8 rfl rfl (by first | (simp; done) | (simp; omega) | rfl) (by first | exact Enc.one _ _ | (intro u hu; obtain ⟨x, _, rfl⟩ := List.mem_map.1 hu; rfl) | (simp [Value.oneCell']; done) | (simp [Value.oneCell', Value.cells]; done)) (by first | (simp; done) | (simp; omega) | (simp [Value.cells]; done) | (simp [Value.cells]; omega) | exact Nat.le_of_ble_eq_true rfl) rfl ?_
  intro w_3 hs_3 hn_3 k_3
  have zs_k_3 := k_3.size
  replace h := h.chg k_3 (by first | (intro x h1 h2; exact h2) | (intro x h0 h1 h2; exact hS x h1 h2) | (intro x h0 h1 h2; have h3 : _ = _ := h2; subst h3; exact hSR h1.1) | (intro x h1 h2; have h3 : _ = _ := h2; subst h3; assumption) | (intro x h1 h2; have h3 : _ = _ := h2; exfalso; omega) | (intro b h1 h2 h3; have h4 : _ = _ := h3; (try dsimp only at h2); exfalso; omega) | (intro h1; have h2 : _ = _ := h1; exfalso; omega) | (intro h1; have h2 : _ ≤ _ := h1; exfalso; omega) | (intros; exfalso; (try dsimp only at *); omega) | (intro b h1 h2 h3; exfalso; have h4 := h3.2; (try dsimp only at *); omega) | (intro h1; exfalso; have h4 := h1.2; (try dsimp only at *); omega) | (intro x h1 h2; exfalso; have h4 := h2.2; (try dsimp only at *); omega) | (intro x h1 h2; exact ⟨_, rfl, h2⟩) | (intro x h1 h2; have h4 := h2.1; have h5 := h2.2; exfalso; omega) | (intro x h1 h2; exact h2.1) | (intro x h1 h2; rcases h2.1 with h3 | h3; exact h3; exfalso; omega) | (intro x h1 h2; rcases h2 with h3 | h3; exact h3; exfalso; omega))
  replace hw := hw.chg k_3 (by first | (intro x h1 h2; exact h2) | (intro x h0 h1 h2; exact hS x h1 h2) | (intro x h0 h1 h2; have h3 : _ = _ := h2; subst h3; exact hSR h1.1) | (intro x h1 h2; have h3 : _ = _ := h2; subst h3; assumption) | (intro x h1 h2; have h3 : _ = _ := h2; exfalso; omega) | (intro b h1 h2 h3; have h4 : _ = _ := h3; (try dsimp only at h2); exfalso; omega) | (intro h1; have h2 : _ = _ := h1; exfalso; omega) | (intro h1; have h2 : _ ≤ _ := h1; exfalso; omega) | (intros; exfalso; (try dsimp only at *); omega) | (intro b h1 h2 h3; exfalso; have h4 := h3.2; (try dsimp only at *); omega) | (intro h1; exfalso; have h4 := h1.2; (try dsimp only at *); omega) | (intro x h1 h2; exfalso; have h4 := h2.2; (try dsimp only at *); omega) | (intro x h1 h2; exact ⟨_, rfl, h2⟩) | (intro x h1 h2; have h4 := h2.1; have h5 := h2.2; exfalso; omega) | (intro x h1 h2; exact h2.1) | (intro x h1 h2; rcases h2.1 with h3 | h3; exact h3; exfalso; omega) | (intro x h1 h2; rcases h2 with h3 | h3; exact h3; exfalso; omega))
  replace hb1 := hb1.chg k_3 (by first | (intro x h1 h2; exact h2) | (intro x h0 h1 h2; exact hS x h1 h2) | (intro x h0 h1 h2; have h3 : _ = _ := h2; subst h3; exact hSR h1.1) | (intro x h1 h2; have h3 : _ = _ := h2; subst h3; assumption) | (intro x h1 h2; have h3 : _ = _ := h2; exfalso; omega) | (intro b h1 h2 h3; have h4 : _ = _ := h3; (try dsimp only at h2); exfalso; omega) | (intro h1; have h2 : _ = _ := h1; exfalso; omega) | (intro h1; have h2 : _ ≤ _ := h1; exfalso; omega) | (intros; exfalso; (try dsimp only at *); omega) | (intro b h1 h2 h3; exfalso; have h4 := h3.2; (try dsimp only at *); omega) | (intro h1; exfalso; have h4 := h1.2; (try dsimp only at *); omega) | (intro x h1 h2; exfalso; have h4 := h2.2; (try dsimp only at *); omega) | (intro x h1 h2; exact ⟨_, rfl, h2⟩) | (intro x h1 h2; have h4 := h2.1; have h5 := h2.2; exfalso; omega) | (intro x h1 h2; exact h2.1) | (intro x h1 h2; rcases h2.1 with h3 | h3; exact h3; exfalso; omega) | (intro x h1 h2; rcases h2 with h3 | h3; exact h3; exfalso; omega))
  replace hL2 := hL2.chg k_3 (by first | (intro x h1 h2; exact h2) | (intro x h0 h1 h2; exact hS x h1 h2) | (intro x h0 h1 h2; have h3 : _ = _ := h2; subst h3; exact hSR h1.1) | (intro x h1 h2; have h3 : _ = _ := h2; subst h3; assumption) | (intro x h1 h2; have h3 : _ = _ := h2; exfalso; omega) | (intro b h1 h2 h3; have h4 : _ = _ := h3; (try dsimp only at h2); exfalso; omega) | (intro h1; have h2 : _ = _ := h1; exfalso; omega) | (intro h1; have h2 : _ ≤ _ := h1; exfalso; omega) | (intros; exfalso; (try dsimp only at *); omega) | (intro b h1 h2 h3; exfalso; have h4 := h3.2; (try dsimp only at *); omega) | (intro h1; exfalso; have h4 := h1.2; (try dsimp only at *); omega) | (intro x h1 h2; exfalso; have h4 := h2.2; (try dsimp only at *); omega) | (intro x h1 h2; exact ⟨_, rfl, h2⟩) | (intro x h1 h2; have h4 := h2.1; have h5 := h2.2; exfalso; omega) | (intro x h1 h2; exact h2.1) | (intro x h1 h2; rcases h2.1 with h3 | h3; exact h3; exfalso; omega) | (intro x h1 h2; rcases h2 with h3 | h3; exact h3; exfalso; omega))
  replace hF2 := hF2.chg k_3 (by first | (intro x h1 h2; exact h2) | (intro x h0 h1 h2; exact hS x h1 h2) | (intro x h0 h1 h2; have h3 : _ = _ := h2; subst h3; exact hSR h1.1) | (intro x h1 h2; have h3 : _ = _ := h2; subst h3; assumption) | (intro x h1 h2; have h3 : _ = _ := h2; exfalso; omega) | (intro b h1 h2 h3; have h4 : _ = _ := h3; (try dsimp only at h2); exfalso; omega) | (intro h1; have h2 : _ = _ := h1; exfalso; omega) | (intro h1; have h2 : _ ≤ _ := h1; exfalso; omega) | (intros; exfalso; (try dsimp only at *); omega) | (intro b h1 h2 h3; exfalso; have h4 := h3.2; (try dsimp only at *); omega) | (intro h1; exfalso; have h4 := h1.2; (try dsimp only at *); omega) | (intro x h1 h2; exfalso; have h4 := h2.2; (try dsimp only at *); omega) | (intro x h1 h2; exact ⟨_, rfl, h2⟩) | (intro x h1 h2; have h4 := h2.1; have h5 := h2.2; exfalso; omega) | (intro x h1 h2; exact h2.1) | (intro x h1 h2; rcases h2.1 with h3 | h3; exact h3; exfalso; omega) | (intro x h1 h2; rcases h2 with h3 | h3; exact h3; exfalso; omega))
  replace hb5' := hb5'.chg k_3 (by first | (intro x h1 h2; exact h2) | (intro x h0 h1 h2; exact hS x h1 h2) | (intro x h0 h1 h2; have h3 : _ = _ := h2; subst h3; exact hSR h1.1) | (intro x h1 h2; have h3 : _ = _ := h2; subst h3; assumption) | (intro x h1 h2; have h3 : _ = _ := h2; exfalso; omega) | (intro b h1 h2 h3; have h4 : _ = _ := h3; (try dsimp only at h2); exfalso; omega) | (intro h1; have h2 : _ = _ := h1; exfalso; omega) | (intro h1; have h2 : _ ≤ _ := h1; exfalso; omega) | (intros; exfalso; (try dsimp only at *); omega) | (intro b h1 h2 h3; exfalso; have h4 := h3.2; (try dsimp only at *); omega) | (intro h1; exfalso; have h4 := h1.2; (try dsimp only at *); omega) | (intro x h1 h2; exfalso; have h4 := h2.2; (try dsimp only at *); omega) | (intro x h1 h2; exact ⟨_, rfl, h2⟩) | (intro x h1 h2; have h4 := h2.1; have h5 := h2.2; exfalso; omega) | (intro x h1 h2; exact h2.1) | (intro x h1 h2; rcases h2.1 with h3 | h3; exact h3; exfalso; omega) | (intro x h1 h2; rcases h2 with h3 | h3; exact h3; exfalso; omega))
  replace hL4 := hL4.chg k_3 (by first | (intro x h1 h2; exact h2) | (intro x h0 h1 h2; exact hS x h1 h2) | (intro x h0 h1 h2; have h3 : _ = _ := h2; subst h3; exact hSR h1.1) | (intro x h1 h2; have h3 : _ = _ := h2; subst h3; assumption) | (intro x h1 h2; have h3 : _ = _ := h2; exfalso; omega) | (intro b h1 h2 h3; have h4 : _ = _ := h3; (try dsimp only at h2); exfalso; omega) | (intro h1; have h2 : _ = _ := h1; exfalso; omega) | (intro h1; have h2 : _ ≤ _ := h1; exfalso; omega) | (intros; exfalso; (try dsimp only at *); omega) | (intro b h1 h2 h3; exfalso; have h4 := h3.2; (try dsimp only at *); omega) | (intro h1; exfalso; have h4 := h1.2; (try dsimp only at *); omega) | (intro x h1 h2; exfalso; have h4 := h2.2; (try dsimp only at *); omega) | (intro x h1 h2; exact ⟨_, rfl, h2⟩) | (intro x h1 h2; have h4 := h2.1; have h5 := h2.2; exfalso; omega) | (intro x h1 h2; exact h2.1) | (intro x h1 h2; rcases h2.1 with h3 | h3; exact h3; exfalso; omega) | (intro x h1 h2; rcases h2 with h3 | h3; exact h3; exfalso; omega))
  replace hF4 := hF4.chg k_3 (by first | (intro x h1 h2; exact h2) | (intro x h0 h1 h2; exact hS x h1 h2) | (intro x h0 h1 h2; have h3 : _ = _ := h2; subst h3; exact hSR h1.1) | (intro x h1 h2; have h3 : _ = _ := h2; subst h3; assumption) | (intro x h1 h2; have h3 : _ = _ := h2; exfalso; omega) | (intro b h1 h2 h3; have h4 : _ = _ := h3; (try dsimp only at h2); exfalso; omega) | (intro h1; have h2 : _ = _ := h1; exfalso; omega) | (intro h1; have h2 : _ ≤ _ := h1; exfalso; omega) | (intros; exfalso; (try dsimp only at *); omega) | (intro b h1 h2 h3; exfalso; have h4 := h3.2; (try dsimp only at *); omega) | (intro h1; exfalso; have h4 := h1.2; (try dsimp only at *); omega) | (intro x h1 h2; exfalso; have h4 := h2.2; (try dsimp only at *); omega) | (intro x h1 h2; exact ⟨_, rfl, h2⟩) | (intro x h1 h2; have h4 := h2.1; have h5 := h2.2; exfalso; omega) | (intro x h1 h2; exact h2.1) | (intro x h1 h2; rcases h2.1 with h3 | h3; exact h3; exfalso; omega) | (intro x h1 h2; rcases h2 with h3 | h3; exact h3; exfalso; omega))
  replace hb8 := hn_3
  refine WL.assign rfl rfl (WL.assign rfl rfl (WL.nil (WX.then_normal (WC.seq (?_)))))
  have hb8' : Blk _ g8 33 (lcells l4) := hb8
  refine WC.drawP (Nob) [0, 1] [(2, []), (3, [4, 5, 6]), (7, [8, 9, 10, 11, 12, 13, 14, 15, 16, 17, 18]), (19, [20, 21, 22, 23])] mixed rfl rfl (fun wd_4 kd_4 zd_4 => ?_)
  have zs_kd_4 := kd_4.size
  replace h := h.pure kd_4
  replace hw := hw.pure kd_4
  replace hb1 := hb1.pure kd_4
  replace hL2 := hL2.pure kd_4
  replace hF2 := hF2.pure kd_4
  replace hb5' := hb5'.pure kd_4
  replace hL4 := hL4.pure kd_4
  replace hF4 := hF4.pure kd_4
  replace hb8' := hb8'.pure kd_4
  apply DPQ.step (E' := [(5, _)])
  case ho => rfl
  case hs => exact ⟨rfl, trivial⟩
  case hk => rfl
  case h1 =>
    intro wq_5 kq_5
    have zs_kq_5 := kq_5.size
    replace h := h.pure kq_5
    replace hw := hw.pure kq_5
    replace hb1 := hb1.pure kq_5
    replace hL2 := hL2.pure kq_5
    replace hF2 := hF2.pure kq_5
    replace hb5' := hb5'.pure kq_5
    replace hL4 := hL4.pure kq_5
    replace hF4 := hF4.pure kq_5
    replace hb8' := hb8'.pure kq_5
    refine WL.loadsB Try.isAgg25 Try.sizeOf25 hb5' rfl (by first | (simp; done) | (simp; omega) | rfl) rfl (?_)
    refine WL.nil ?_
    exact WX.one ⟨rfl, by first | exact Chg.refl _ _ | assumption⟩
  apply DPQ.step (E' := [(8, _)])
  case ho => rfl
  case hs => exact ⟨rfl, trivial⟩
  case hk => rfl
  case h1 =>
    intro wq_6 kq_6
    have zs_kq_6 := kq_6.size
    replace h := h.pure kq_6
    replace hw := hw.pure kq_6
    replace hb1 := hb1.pure kq_6
    replace hL2 := hL2.pure kq_6
    replace hF2 := hF2.pure kq_6
    replace hb5' := hb5'.pure kq_6
    replace hL4 := hL4.pure kq_6
    replace hF4 := hF4.pure kq_6
    replace hb8' := hb8'.pure kq_6
    refine WL.loadsB Try.isAgg33 Try.sizeOf33 hb8' rfl (by first | (simp; done) | (simp; omega) | rfl) rfl (?_)
    refine WL.nil ?_
    exact WX.one ⟨rfl, by first | exact Chg.refl _ _ | assumption⟩
  refine DPQ.done ?_
  refine DPR.step [(29, _)] rfl ⟨rfl, trivial⟩ rfl (fun wq_7 kq_7 => ?_)
  have zs_kq_7 := kq_7.size
  replace h := h.pure kq_7
  replace hw := hw.pure kq_7
  replace hb1 := hb1.pure kq_7
  replace hL2 := hL2.pure kq_7
  replace hF2 := hF2.pure kq_7
  replace hb5' := hb5'.pure kq_7
  replace hL4 := hL4.pure kq_7
  replace hF4 := hF4.pure kq_7
  replace hb8' := hb8'.pure kq_7
  have hd_7 := Chg.refl (Nob) wq_7
  refine WL.call eg_15 rfl rfl (back_calls hL4 (hsm.up (by decide)).sm) ?_
  rintro v w9 ⟨⟨l5, rfl, hL5, ha5⟩, k9⟩
  have zs_k9 := k9.size
  replace h := h.pure k9
  replace hw := hw.pure k9
  replace hb1 := hb1.pure k9
  replace hL2 := hL2.pure k9
  replace hF2 := hF2.pure k9
  replace hb5' := hb5'.pure k9
  replace hL4 := hL4.pure k9
  replace hF4 := hF4.pure k9
  replace hb8' := hb8'.pure k9
  replace hd_7 := hd_7.pure k9
  refine WL.nil ?_
  refine WX.one ⟨hd_7, ?_⟩
  refine DPQ.done ?_
  refine DPR.step [(28, _), (30, _)] rfl ⟨rfl, rfl, trivial⟩ rfl (fun wq_8 kq_8 => ?_)
  have zs_kq_8 := kq_8.size
  replace h := h.pure kq_8
  replace hw := hw.pure kq_8
  replace hb1 := hb1.pure kq_8
  replace hL2 := hL2.pure kq_8
  replace hF2 := hF2.pure kq_8
  replace hb5' := hb5'.pure kq_8
  replace hL4 := hL4.pure kq_8
  replace hF4 := hF4.pure kq_8
  replace hb8' := hb8'.pure kq_8
  replace hL5 := hL5.pure kq_8
  have hd_8 := Chg.refl (Nob) wq_8
  refine WL.call eg_14 rfl rfl (sameline_calls hL2 hL5 (ha4 ▸ hsm.up (by decide) : SmA 60 l2.abs).sm) ?_
  rintro v w10 ⟨⟨b, rfl, hb⟩, k10⟩
  have zs_k10 := k10.size
  replace h := h.pure k10
  replace hw := hw.pure k10
  replace hb1 := hb1.pure k10
  replace hL2 := hL2.pure k10
  replace hF2 := hF2.pure k10
  replace hb5' := hb5'.pure k10
  replace hL4 := hL4.pure k10
  replace hF4 := hF4.pure k10
  replace hb8' := hb8'.pure k10
  replace hL5 := hL5.pure k10
  replace hd_8 := hd_8.pure k10
  obtain rfl := hb.2 (ha4.symm.trans ha5.symm)
  refine WL.nil ?_
  refine WX.one ⟨hd_8, ?_⟩
  apply DPQ.step (E' := [(31, _)])
  case ho => rfl
  case hs => exact ⟨rfl, trivial⟩
  case hk => rfl
  case h1 =>
    intro wq_9 kq_9
    refine WL.move rfl rfl (?_)
    refine WL.nil ?_
    exact WX.one ⟨rfl, by first | exact Chg.refl _ _ | assumption⟩
  apply DPQ.step (E' := [(6, _), (32, _)])
  case ho => rfl
  case hs => exact ⟨rfl, rfl, trivial⟩
  case hk => rfl
  case h1 =>
    intro wq_10 kq_10
    refine WL.want rfl rfl rfl (WL.move rfl rfl (?_))
    refine WL.nil ?_
    exact WX.one ⟨rfl, by first | exact Chg.refl _ _ | assumption⟩
  apply DPQ.step (E' := [(9, _), (32, _)])
  case ho => rfl
  case hs => exact ⟨rfl, rfl, trivial⟩
  case hk => rfl
  case h1 =>
    intro wq_11 kq_11
    refine WL.want rfl rfl rfl (WL.move rfl rfl (?_))
    refine WL.nil ?_
    exact WX.one ⟨rfl, by first | exact Chg.refl _ _ | assumption⟩
  refine DPQ.done ?_
  refine DPR.step [(33, _), (34, _), (32, _)] rfl ⟨rfl, rfl, rfl, trivial⟩ rfl (fun wq_12 kq_12 => ?_)
  have zs_kq_12 := kq_12.size
  replace h := h.pure kq_12
  replace hw := hw.pure kq_12
  replace hb1 := hb1.pure kq_12
  replace hL2 := hL2.pure kq_12
  replace hF2 := hF2.pure kq_12
  replace hb5' := hb5'.pure kq_12
  replace hL4 := hL4.pure kq_12
  replace hF4 := hF4.pure kq_12
  replace hb8' := hb8'.pure kq_12
  replace hL5 := hL5.pure kq_12
  have hd_12 := Chg.refl (Nob) wq_12
  refine WL.want rfl rfl rfl (?_)
  refine WL.call eg_20 rfl rfl (same_calls hF2 hF4 (by omega)) ?_
  rintro v w11 ⟨rfl, k11⟩
  rw [show decide (fr4 = fr4) = true from decide_eq_true rfl]
  have zs_k11 := k11.size
  replace h := h.pure k11
  replace hw := hw.pure k11
  replace hb1 := hb1.pure k11
  replace hL2 := hL2.pure k11
  replace hF2 := hF2.pure k11
  replace hb5' := hb5'.pure k11
  replace hL4 := hL4.pure k11
  replace hF4 := hF4.pure k11
  replace hb8' := hb8'.pure k11
  replace hL5 := hL5.pure k11
  replace hd_12 := hd_12.pure k11
  refine WL.nil ?_
  refine WX.one ⟨hd_12, ?_⟩
  apply DPQ.step (E' := [(32, _), (35, _)])
  case ho => rfl
  case hs => exact ⟨rfl, rfl, trivial⟩
  case hk => rfl
  case h1 =>
    intro wq_13 kq_13
    refine WL.pickT rfl rfl rfl (?_)
    refine WL.nil ?_
    exact WX.one ⟨rfl, by first | exact Chg.refl _ _ | assumption⟩
  apply DPQ.step (E' := [(36, _)])
  case ho => rfl
  case hs => exact ⟨rfl, trivial⟩
  case hk => rfl
  case h1 =>
    intro wq_14 kq_14
    refine WL.move rfl rfl (?_)
    refine WL.nil ?_
    exact WX.one ⟨rfl, by first | exact Chg.refl _ _ | assumption⟩
  apply DPQ.step (E' := [(7, _), (37, _)])
  case ho => rfl
  case hs => exact ⟨rfl, rfl, trivial⟩
  case hk => rfl
  case h1 =>
    intro wq_15 kq_15
    refine WL.want rfl rfl rfl (WL.move rfl rfl (?_))
    refine WL.nil ?_
    exact WX.one ⟨rfl, by first | exact Chg.refl _ _ | assumption⟩
  apply DPQ.step (E' := [(10, _), (37, _)])
  case ho => rfl
  case hs => exact ⟨rfl, rfl, trivial⟩
  case hk => rfl
  case h1 =>
    intro wq_16 kq_16
    refine WL.want rfl rfl rfl (WL.move rfl rfl (?_))
    refine WL.nil ?_
    exact WX.one ⟨rfl, by first | exact Chg.refl _ _ | assumption⟩
  apply DPQ.step (E' := [(38, _), (39, _), (37, _)])
  case ho => rfl
  case hs => exact ⟨rfl, rfl, rfl, trivial⟩
  case hk => rfl
  case h1 =>
    intro wq_17 kq_17
    refine WL.want rfl rfl rfl (?_)
    refine WL.eqlT rfl rfl rfl (by first | rfl | omega | decide) ?_
    refine WL.nil ?_
    exact WX.one ⟨rfl, by first | exact Chg.refl _ _ | assumption⟩
  apply DPQ.step (E' := [(37, _), (40, _)])
  case ho => rfl
  case hs => exact ⟨rfl, rfl, trivial⟩
  case hk => rfl
  case h1 =>
    intro wq_18 kq_18
    refine WL.pickT rfl rfl rfl (?_)
    refine WL.nil ?_
    exact WX.one ⟨rfl, by first | exact Chg.refl _ _ | assumption⟩
  apply DPQ.step (E' := [(41, _)])
  case ho => rfl
  case hs => exact ⟨rfl, trivial⟩
  case hk => rfl
  case h1 =>
    intro wq_19 kq_19
    refine WL.move rfl rfl (?_)
    refine WL.nil ?_
    exact WX.one ⟨rfl, by first | exact Chg.refl _ _ | assumption⟩
  apply DPQ.step (E' := [(7, _), (42, _)])
  case ho => rfl
  case hs => exact ⟨rfl, rfl, trivial⟩
  case hk => rfl
  case h1 =>
    intro wq_20 kq_20
    refine WL.want rfl rfl rfl (WL.move rfl rfl (?_))
    refine WL.nil ?_
    exact WX.one ⟨rfl, by first | exact Chg.refl _ _ | assumption⟩
  apply DPQ.split (E' := [(43, _), (42, _)])
  case ho => rfl
  case hs => exact ⟨rfl, rfl, trivial⟩
  case hk => rfl
  case h1 =>
    intro wq_21 kq_21
    refine WL.want rfl rfl rfl (?_)
    refine WL.neq rfl rfl rfl ?_
    refine WL.nil ?_
    exact WX.one ⟨rfl, by first | exact Chg.refl _ _ | assumption⟩
  case ht =>
    intro h44
    replace h44 := of_decide_eq_true h44
    apply DPQ.step (E' := [(44, _), (42, _)])
    case ho => rfl
    case hs => exact ⟨rfl, rfl, trivial⟩
    case hk => rfl
    case h1 =>
      intro wq_22 kq_22
      refine WL.want rfl rfl rfl (WL.move rfl rfl (?_))
      refine WL.nil ?_
      exact WX.one ⟨rfl, by first | exact Chg.refl _ _ | assumption⟩
    apply DPQ.step (E' := [(8, _), (45, _)])
    case ho => rfl
    case hs => exact ⟨rfl, rfl, trivial⟩
    case hk => rfl
    case h1 =>
      intro wq_23 kq_23
      have zs_kq_23 := kq_23.size
      replace h := h.pure kq_23
      replace hw := hw.pure kq_23
      replace hb1 := hb1.pure kq_23
      replace hL2 := hL2.pure kq_23
      replace hF2 := hF2.pure kq_23
      replace hb5' := hb5'.pure kq_23
      replace hL4 := hL4.pure kq_23
      replace hF4 := hF4.pure kq_23
      replace hb8' := hb8'.pure kq_23
      replace hL5 := hL5.pure kq_23
      refine WL.pass rfl rfl rfl rfl (WL.nil (?_))
      exact WX.one ⟨rfl, by first | exact Chg.refl _ _ | assumption⟩
    refine DPQ.done ?_
    refine DPR.step [(46, _), (45, _)] rfl ⟨rfl, rfl, trivial⟩ rfl (fun wq_24 kq_24 => ?_)
    have zs_kq_24 := kq_24.size
    replace h := h.pure kq_24
    replace hw := hw.pure kq_24
    replace hb1 := hb1.pure kq_24
    replace hL2 := hL2.pure kq_24
    replace hF2 := hF2.pure kq_24
    replace hb5' := hb5'.pure kq_24
    replace hL4 := hL4.pure kq_24
    replace hF4 := hF4.pure kq_24
    replace hb8' := hb8'.pure kq_24
    replace hL5 := hL5.pure kq_24
    have hd_24 := Chg.refl (Nob) wq_24
    refine WL.pass rfl rfl rfl rfl (WL.nil (?_))
    refine WX.one ⟨hd_24, ?_⟩
    apply DPQ.step (E' := [(47, _), (45, _)])
    case ho => rfl
    case hs => exact ⟨rfl, rfl, trivial⟩
    case hk => rfl
    case h1 =>
      intro wq_25 kq_25
      refine WL.pass rfl rfl rfl rfl (WL.nil (?_))
      exact WX.one ⟨rfl, by first | exact Chg.refl _ _ | assumption⟩
    apply DPQ.step (E' := [(45, _), (48, _), (42, _)])
    case ho => rfl
    case hs => exact ⟨rfl, rfl, rfl, trivial⟩
    case hk => rfl
    case h1 =>
      intro wq_26 kq_26
      refine WL.want rfl rfl rfl (WL.pickT rfl rfl rfl (?_))
      refine WL.nil ?_
      exact WX.one ⟨rfl, by first | exact Chg.refl _ _ | assumption⟩
    apply DPQ.step (E' := [(42, _), (49, _)])
    case ho => rfl
    case hs => exact ⟨rfl, rfl, trivial⟩
    case hk => rfl
    case h1 =>
      intro wq_27 kq_27
      refine WL.pickT rfl rfl rfl (?_)
      refine WL.nil ?_
      exact WX.one ⟨rfl, by first | exact Chg.refl _ _ | assumption⟩
    apply DPQ.step (E' := [(50, _)])
    case ho => rfl
    case hs => exact ⟨rfl, trivial⟩
    case hk => rfl
    case h1 =>
      intro wq_28 kq_28
      refine WL.assign rfl rfl (?_)
      refine WL.nil ?_
      exact WX.one ⟨rfl, by first | exact Chg.refl _ _ | assumption⟩
    refine DPQ.done ?_
    refine DPR.done (fun we_29 ke_29 => ?_)
    have zs_ke_29 := ke_29.size
    replace h := h.pure ke_29
    replace hw := hw.pure ke_29
    replace hb1 := hb1.pure ke_29
    replace hL2 := hL2.pure ke_29
    replace hF2 := hF2.pure ke_29
    replace hb5' := hb5'.pure ke_29
    replace hL4 := hL4.pure ke_29
    replace hF4 := hF4.pure ke_29
    replace hb8' := hb8'.pure ke_29
    replace hL5 := hL5.pure ke_29
    refine WX.then_normal (WC.ret (?_))
    refine WX.ret1 (.inl rfl) Try.results4 rfl ?_
    exact ⟨_, rfl, rfl, hw⟩
  case hf =>
    intro h44
    replace h44 := of_decide_eq_false h44
    apply DPQ.step (E' := [(44, _), (42, _)])
    case ho => rfl
    case hs => exact ⟨rfl, rfl, trivial⟩
    case hk => rfl
    case h1 =>
      intro wq_22 kq_22
      refine WL.want rfl rfl rfl (WL.move rfl rfl (?_))
      refine WL.nil ?_
      exact WX.one ⟨rfl, by first | exact Chg.refl _ _ | assumption⟩
    apply DPQ.step (E' := [(8, _), (45, _)])
    case ho => rfl
    case hs => exact ⟨rfl, rfl, trivial⟩
    case hk => rfl
    case h1 =>
      intro wq_23 kq_23
      have zs_kq_23 := kq_23.size
      replace h := h.pure kq_23
      replace hw := hw.pure kq_23
      replace hb1 := hb1.pure kq_23
      replace hL2 := hL2.pure kq_23
      replace hF2 := hF2.pure kq_23
      replace hb5' := hb5'.pure kq_23
      replace hL4 := hL4.pure kq_23
      replace hF4 := hF4.pure kq_23
      replace hb8' := hb8'.pure kq_23
      replace hL5 := hL5.pure kq_23
      refine WL.want rfl rfl rfl (WL.loadsB Try.isAgg33 Try.sizeOf33 hb8' rfl (by first | (simp; done) | (simp; omega) | rfl) rfl (?_))
      refine WL.nil ?_
      exact WX.one ⟨rfl, by first | exact Chg.refl _ _ | assumption⟩
    refine DPQ.done ?_
    refine DPR.step [(46, _), (45, _)] rfl ⟨rfl, rfl, trivial⟩ rfl (fun wq_24 kq_24 => ?_)
    have zs_kq_24 := kq_24.size
    replace h := h.pure kq_24
    replace hw := hw.pure kq_24
    replace hb1 := hb1.pure kq_24
    replace hL2 := hL2.pure kq_24
    replace hF2 := hF2.pure kq_24
    replace hb5' := hb5'.pure kq_24
    replace hL4 := hL4.pure kq_24
    replace hF4 := hF4.pure kq_24
    replace hb8' := hb8'.pure kq_24
    replace hL5 := hL5.pure kq_24
    have hd_24 := Chg.refl (Nob) wq_24
    refine WL.want rfl rfl rfl (?_)
    refine WL.call eg_9 rfl rfl (Check_calls hL4 (hsm.up (by decide)).sm) ?_
    rintro v w12 ⟨⟨e6, rfl, he6⟩, k12⟩
    have zs_k12 := k12.size
    replace h := h.pure k12
    replace hw := hw.pure k12
    replace hb1 := hb1.pure k12
    replace hL2 := hL2.pure k12
    replace hF2 := hF2.pure k12
    replace hb5' := hb5'.pure k12
    replace hL4 := hL4.pure k12
    replace hF4 := hF4.pure k12
    replace hb8' := hb8'.pure k12
    replace hL5 := hL5.pure k12
    replace hd_24 := hd_24.pure k12
    obtain ⟨rfl, -⟩ : e6 = 0 ∧ True := by
      rcases he6 with ⟨h1, _⟩ | ⟨_, h1⟩
      ·
        exact ⟨h1, trivial⟩
      ·
        exact absurd (hR4.right (by omega)) h1
    refine WL.nil ?_
    refine WX.one ⟨hd_24, ?_⟩
    apply DPQ.step (E' := [(47, _), (45, _)])
    case ho => rfl
    case hs => exact ⟨rfl, rfl, trivial⟩
    case hk => rfl
    case h1 =>
      intro wq_25 kq_25
      refine WL.want rfl rfl rfl (?_)
      refine WL.eqlT rfl rfl rfl (by first | rfl | omega | decide) ?_
      refine WL.nil ?_
      exact WX.one ⟨rfl, by first | exact Chg.refl _ _ | assumption⟩
    apply DPQ.step (E' := [(45, _), (48, _), (42, _)])
    case ho => rfl
    case hs => exact ⟨rfl, rfl, rfl, trivial⟩
    case hk => rfl
    case h1 =>
      intro wq_26 kq_26
      refine WL.want rfl rfl rfl (WL.pickF rfl rfl rfl (?_))
      refine WL.nil ?_
      exact WX.one ⟨rfl, by first | exact Chg.refl _ _ | assumption⟩
    apply DPQ.step (E' := [(42, _), (49, _)])
    case ho => rfl
    case hs => exact ⟨rfl, rfl, trivial⟩
    case hk => rfl
    case h1 =>
      intro wq_27 kq_27
      refine WL.pickT rfl rfl rfl (?_)
      refine WL.nil ?_
      exact WX.one ⟨rfl, by first | exact Chg.refl _ _ | assumption⟩
    apply DPQ.step (E' := [(50, _)])
    case ho => rfl
    case hs => exact ⟨rfl, trivial⟩
    case hk => rfl
    case h1 =>
      intro wq_28 kq_28
      refine WL.assign rfl rfl (?_)
      refine WL.nil ?_
      exact WX.one ⟨rfl, by first | exact Chg.refl _ _ | assumption⟩
    refine DPQ.done ?_
    refine DPR.done (fun we_29 ke_29 => ?_)
    have zs_ke_29 := ke_29.size
    replace h := h.pure ke_29
    replace hw := hw.pure ke_29
    replace hb1 := hb1.pure ke_29
    replace hL2 := hL2.pure ke_29
    replace hF2 := hF2.pure ke_29
    replace hb5' := hb5'.pure ke_29
    replace hL4 := hL4.pure ke_29
    replace hF4 := hF4.pure ke_29
    replace hb8' := hb8'.pure ke_29
    replace hL5 := hL5.pure ke_29
    refine WX.then_normal (WC.ret (?_))
    refine WX.ret1 (.inl rfl) Try.results4 rfl ?_
    exact ⟨_, rfl, rfl, hw⟩
end Go.Proofs.Ytgmkoieemmglpaa
