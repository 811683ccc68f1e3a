import Derived.Test.YtfkaioldfmapjaaPk
namespace Go.Proofs.Ytfkaioldfmapjaa
open Go.RowKit Go.HL

/-! what is encoded is decoded, and the other way round -/
theorem ctd_cnt : ∀ (bs : List UInt8) (k : Nat) {c : Nat} {r : List UInt8}, ctd k bs = some (c, r) → bs = cnt c ++ r ∧ (0 < k → 0 < c)
  | [], k, c, r, h => by simp [ctd] at h
  | x :: bs, k, c, r, h => by
    have hx := x.toNat_lt
    unfold ctd at h
    split at h
    · cases h
    · rename_i hn
      split at h
      · rename_i hl
        injection h with h
        injection h with h1 h2
        subst h1; subst h2
        rw [cnt_small hl]
        refine ⟨by simp, by omega⟩
      · rename_i hl
        obtain ⟨⟨c', r'⟩, h1, h2⟩ := Option.map_eq_some_iff.1 h
        injection h2 with h3 h4
        subst h4
        obtain ⟨h5, h6⟩ := ctd_cnt bs (k + 1) h1
        have h7 := h6 (by omega)
        rw [cnt_big (by omega), show c / 128 = c' from by omega, show c % 128 + 128 = x.toNat from by omega]
        refine ⟨?_, by omega⟩
        rw [h5]
        simp
theorem cnt_ctd (c : Nat) : ∀ (k : Nat) (r : List UInt8), k ≤ 9 → c < 2 ^ (64 - 7 * k) → (0 < k → 0 < c) → ctd k (cnt c ++ r) = some (c, r) := by
  induction c using Nat.strongRecOn with
  | _ c ih =>
    intro k r hk hc h0
    by_cases hb : 128 ≤ c
    · have hk8 : k ≤ 8 := by
        have h : k = 9 ∨ k ≤ 8 := by omega
        rcases h with rfl | h
        · simp at hc; omega
        · exact h
      have hlt : c % 128 + 128 < 256 := by omega
      rw [cnt_big hb]
      simp only [List.cons_append, ctd]
      have e : (UInt8.ofNat (c % 128 + 128)).toNat = c % 128 + 128 := by simp; omega
      rw [e, if_neg (by omega), if_neg (by omega), ih (c / 128) (by omega) (k + 1) r (by omega) ?_ (by omega)]
      · simp only [Option.map_some, Option.some.injEq, Prod.mk.injEq, and_true]
        omega
      · rw [Nat.div_lt_iff_lt_mul (by decide)]
        have e2 : 2 ^ (64 - 7 * k) = 2 ^ (64 - 7 * (k + 1)) * 128 := by
          rw [show 64 - 7 * k = (64 - 7 * (k + 1)) + 7 from by omega, Nat.pow_add]
        rw [← e2]; exact hc
    · rw [cnt_small (by omega)]
      have e : (UInt8.ofNat c).toNat = c := by simp; omega
      have h9 : k = 9 → c ≤ 1 := by rintro rfl; simp at hc; omega
      simp only [List.cons_append, List.nil_append, ctd, e]
      rw [if_neg (by omega), if_pos (by omega)]
theorem zig_unz {c : Nat} : zig (unz c) = c := by
  unfold zig unz
  split <;> split <;> omega
theorem unz_zig (n : Int) : unz (zig n) = n := by
  unfold zig unz
  split <;> split <;> omega
theorem unz_range {c : Nat} (h : c < 18446744073709551616) : -9223372036854775808 ≤ unz c ∧ unz c ≤ 9223372036854775807 := by
  unfold unz
  split <;> omega
theorem zig_lt {n : Int} (h : -9223372036854775808 ≤ n ∧ n ≤ 9223372036854775807) : zig n < 18446744073709551616 := by
  unfold zig
  split <;> omega
def Good (i : Item) : Prop := longI i = false ∧ okI i = true ∧ RIt i
theorem encAll_cons (i : Item) (l : List Item) : encAll (i :: l) = enc1 i ++ encAll l := by simp [encAll]
theorem dec_spec (m : Nat) : ∀ (b : List UInt8), b.length ≤ m → ∀ (n : Nat) (l : List Item), n ≤ 2000 → dec n b = some l → n + l.length ≤ 2000 ∧ (∀ i ∈ l, Good i) ∧ encAll l = b := by
  induction m with
  | zero =>
    intro b hb n l hn h
    have : b = [] := List.eq_nil_of_length_eq_zero (by omega)
    subst this
    rw [dec_nil] at h
    injection h with h
    subst h
    exact ⟨by simpa using hn, by simp, rfl⟩
  | succ m ih =>
    intro b hb n l hn h
    cases b with
    | nil =>
      rw [dec_nil] at h
      injection h with h
      subst h
      exact ⟨by simpa using hn, by simp, rfl⟩
    | cons k r =>
      cases hc : ctd 0 r with
      | none => rw [dec_none hc] at h; cases h
      | some p =>
        obtain ⟨c, r'⟩ := p
        obtain ⟨h1, _⟩ := ctd_cnt r 0 hc
        obtain ⟨_, h2, h3⟩ := ctd_bound r 0 (by omega) hc
        simp at hb
        rw [dec_some hc] at h
        split at h
        · cases h
        · rename_i hn2
          split at h
          · rename_i hk
            obtain ⟨l', h4, rfl⟩ := Option.map_eq_some_iff.1 h
            obtain ⟨h5, h6, h7⟩ := ih r' (by omega) (n + 1) l' (by omega) h4
            have hg : Good ⟨1, unz c, ⟨#[]⟩⟩ := ⟨by simp [longI], by simp [okI], unz_range (by simpa using h2)⟩
            refine ⟨by simp; omega, ?_, ?_⟩
            · intro i hi
              rcases List.mem_cons.1 hi with rfl | hi
              · exact hg
              · exact h6 i hi
            · rw [encAll_cons, h7, ← renc1_eq hg.2.1 hg.2.2, renc1, if_pos rfl, zig_unz, h1]
              have : k = 1 := UInt8.toNat_inj.1 hk
              rw [this]
              rfl
          · rename_i hk
            split at h
            · rename_i hk2
              obtain ⟨l', h4, rfl⟩ := Option.map_eq_some_iff.1 h
              obtain ⟨h5, h6, h7⟩ := ih (r'.drop c) (by simp; omega) (n + 1) l' (by omega) h4
              have hsz : (ByteArray.mk (r'.take c).toArray).size = c := by
                show (r'.take c).toArray.size = c
                simp; omega
              have hg : Good ⟨2, 0, ⟨(r'.take c).toArray⟩⟩ := ⟨by simp only [longI, hsz, decide_eq_false_iff_not]; omega, by simp [okI], ⟨show (-9223372036854775808 : Int) ≤ 0 by decide, show (0 : Int) ≤ 9223372036854775807 by decide⟩⟩
              refine ⟨by simp; omega, ?_, ?_⟩
              · intro i hi
                rcases List.mem_cons.1 hi with rfl | hi
                · exact hg
                · exact h6 i hi
              · rw [encAll_cons, h7, ← renc1_eq hg.2.1 hg.2.2, renc1, if_neg (show ¬ ((2 : Int) = 1) by decide)]
                have e0 : k = 2 := UInt8.toNat_inj.1 hk2.1
                have e1 : (ByteArray.mk (r'.take c).toArray).data.toList = r'.take c := rfl
                show 2 :: (cnt (ByteArray.mk (r'.take c).toArray).size ++ (ByteArray.mk (r'.take c).toArray).data.toList) ++ r'.drop c = k :: r
                rw [hsz, e1, e0, h1]
                simp
            · cases h
theorem enc_dec : ∀ (l : List Item) (n : Nat), n + l.length ≤ 2000 → (∀ i ∈ l, Good i) → dec n (encAll l) = some l
  | [], n, _, _ => dec_nil n
  | i :: l, n, hn, hg => by
    obtain ⟨h1, h2, h3⟩ := hg i (by simp)
    have ih := enc_dec l (n + 1) (by simp at hn; omega) (fun j hj => hg j (by simp [hj]))
    simp at hn
    rw [encAll_cons, ← renc1_eq h2 h3, renc1]
    simp only [okI, decide_eq_true_eq] at h2
    split
    · rename_i hk
      have hs : i.s = ⟨#[]⟩ := by
        rcases h2 with h2 | h2
        · exact h2.2
        · omega
      rw [List.cons_append, dec_some (cnt_ctd (zig i.n) 0 (encAll l) (by omega) (zig_lt h3) (by omega)), if_neg (by omega), if_pos (show UInt8.toNat 1 = 1 from rfl), ih, unz_zig]
      obtain ⟨k, m, s⟩ := i
      simp only at hk hs
      subst hk; subst hs
      rfl
    · rename_i hk
      have hk2 : i.kind = 2 ∧ i.n = 0 := by omega
      have hsz : i.s.data.toList.length = i.s.size := by simp
      have h4 : i.s.size ≤ 4000 := by simp only [longI, decide_eq_false_iff_not] at h1; omega
      rw [List.cons_append, List.append_assoc, dec_some (cnt_ctd i.s.size 0 (i.s.data.toList ++ encAll l) (by omega) (by simp; omega) (by omega)), if_neg (by omega), if_neg (by decide), if_pos ⟨rfl, h4, by simp⟩]
      rw [List.drop_append_of_le_length (by omega), List.drop_eq_nil_of_le (by omega), List.nil_append, ih, List.take_append_of_le_length (by omega), List.take_of_length_le (by omega)]
      obtain ⟨k, m, s⟩ := i
      simp only at hk2
      obtain ⟨e1, e2⟩ := hk2
      subst e1; subst e2
      simp
theorem decL_len (b : List UInt8) : (decL b).length ≤ 2000 := by
  unfold decL
  cases h : dec 0 b with
  | none => simp
  | some l => have := (dec_spec b.length b (Nat.le_refl _) 0 l (by omega) h).1; simpa using this
end Go.Proofs.Ytfkaioldfmapjaa
