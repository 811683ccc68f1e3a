import Derived.Test.YtgmkoieemmglpaaDq
namespace Go.Proofs.Ytgmkoieemmglpaa
open Go.RowKit Go.HL

/-! plain: which blocks are free, over a history of versions -/
def birth (bi : List Int) (n : Int) : Int := (bi[n.toNat]?).getD 0
structure INV (m : Nat) (V : Nat → List Int) (T : Nat → Int) (D : Nat → List PtV) (bi : List Int) : Prop where
  tm : ∀ i, i < m → T i < T (i + 1)
  vs : ∀ k, k ≤ m + 1 → (V k).Nodup ∧ ∀ n ∈ V k, 0 ≤ n ∧ n < (bi.length : Int)
  vb : ∀ k, k ≤ m → ∀ n ∈ V k, birth bi n ≤ T k
  mono : ∀ k, k ≤ m → ∀ n ∈ V (k + 1), birth bi n ≤ T k → n ∈ V k
  dd : ∀ k, k ≤ m → ((D k).map (·.a)).Nodup ∧ (∀ n, n ∈ (D k).map (·.a) ↔ n ∈ V k ∧ n ∉ V (k + 1)) ∧ ∀ p ∈ D k, p.b = birth bi p.a
section
variable {m : Nat} {V V' : Nat → List Int} {T T' : Nat → Int} {D D' : Nat → List PtV} {bi : List Int}
theorem INV.cong (h : INV m V T D bi) (hV : ∀ k, k ≤ m + 1 → V' k = V k) (hT : ∀ k, k ≤ m → T' k = T k) (hD : ∀ k, k ≤ m → D' k = D k) : INV m V' T' D' bi := by
  refine ⟨fun i hi => ?_, fun k hk => ?_, fun k hk => ?_, fun k hk => ?_, fun k hk => ?_⟩
  · rw [hT i (by omega), hT (i + 1) (by omega)]; exact h.tm i hi
  · rw [hV k hk]; exact h.vs k hk
  · rw [hV k (by omega), hT k hk]; exact h.vb k hk
  · rw [hV k (by omega), hV (k + 1) (by omega), hT k hk]; exact h.mono k hk
  · rw [hV k (by omega), hV (k + 1) (by omega), hD k hk]; exact h.dd k hk
theorem INV.tle (h : INV m V T D bi) {i j : Nat} (hij : i ≤ j) (hj : j ≤ m) : T i ≤ T j := by
  induction j with
  | zero => rw [show i = 0 from by omega]; exact Int.le_refl _
  | succ j ih =>
    by_cases e : i = j + 1
    · rw [e]; exact Int.le_refl _
    · have h1 := ih (by omega) (by omega)
      have h2 := h.tm j (by omega)
      omega
theorem INV.down (h : INV m V T D bi) {i j : Nat} (hij : i ≤ j) (hj : j ≤ m + 1) {n : Int} (hn : n ∈ V j) (hb : i < j → birth bi n ≤ T i) : n ∈ V i := by
  induction j with
  | zero => rw [show i = 0 from by omega]; exact hn
  | succ j ih =>
    by_cases e : i = j + 1
    · rw [e]; exact hn
    · have h1 := hb (by omega)
      exact ih (by omega) (by omega) (h.mono j (by omega) n hn (Int.le_trans h1 (h.tle (by omega) (by omega)))) (fun _ => h1)
def Need (m : Nat) (V : Nat → List Int) (n : Int) : Prop := ∃ k, k ≤ m + 1 ∧ n ∈ V k
/-- the number of a block that is in some version is below the count -/
theorem INV.lt (h : INV m V T D bi) {n : Int} (hn : Need m V n) : 0 ≤ n ∧ n < (bi.length : Int) := by
  obtain ⟨k, hk, h1⟩ := hn
  exact (h.vs k hk).2 n h1
theorem birth_old {bi : List Int} {n : Int} (h : 0 ≤ n ∧ n < (bi.length : Int)) (t : Int) : birth (bi ++ [t]) n = birth bi n := by
  rw [birth, birth, List.getElem?_append_left (by omega)]
theorem birth_new (bi : List Int) (t : Int) : birth (bi ++ [t]) (bi.length : Int) = t := by
  rw [birth, Int.toNat_natCast]
  simp
def upd {α : Type} (f : Nat → α) (j : Nat) (x : α) : Nat → α := fun i => if i = j then x else f i
theorem upd_same {α : Type} (f : Nat → α) (j : Nat) (x : α) : upd f j x j = x := if_pos rfl
theorem upd_ne {α : Type} (f : Nat → α) {i j : Nat} (x : α) (h : i ≠ j) : upd f j x i = f i := if_neg h
theorem INV.born (h : INV m V T D bi) {t : Int} (ht : T m < t) : INV m (upd V (m + 1) (V (m + 1) ++ [(bi.length : Int)])) T D (bi ++ [t]) := by
  have hv : ∀ k, k ≤ m + 1 → ∀ n ∈ V k, birth (bi ++ [t]) n = birth bi n := fun k hk n hn => birth_old ((h.vs k hk).2 n hn) t
  have hno : ∀ k, k ≤ m + 1 → (bi.length : Int) ∉ V k := fun k hk hn => by have := (h.vs k hk).2 _ hn; omega
  refine ⟨h.tm, fun k hk => ?_, fun k hk n hn => ?_, fun k hk n hn hb => ?_, fun k hk => ?_⟩
  · by_cases e : k = m + 1
    · subst e
      rw [upd_same]
      refine ⟨?_, fun n hn => ?_⟩
      · rw [List.nodup_append]
        refine ⟨(h.vs _ hk).1, by simp, fun a ha b hb e => ?_⟩
        rw [List.mem_singleton] at hb
        exact hno _ hk (by rw [← hb, ← e]; exact ha)
      · rw [List.length_append]
        simp only [List.length_cons, List.length_nil]
        rcases List.mem_append.1 hn with h1 | h1
        · have := (h.vs _ hk).2 n h1; omega
        · rw [List.mem_singleton] at h1; omega
    · rw [upd_ne _ _ e]
      refine ⟨(h.vs k hk).1, fun n hn => ?_⟩
      have := (h.vs k hk).2 n hn
      rw [List.length_append]
      simp only [List.length_cons, List.length_nil]
      omega
  · rw [upd_ne _ _ (by omega)] at hn
    rw [hv k (by omega) n hn]
    exact h.vb k hk n hn
  · rw [upd_ne _ _ (by omega)]
    by_cases e : k + 1 = m + 1
    · rw [e, upd_same] at hn
      rcases List.mem_append.1 hn with h1 | h1
      · rw [hv _ (by omega) n h1] at hb
        rw [← e] at h1
        exact h.mono k hk n h1 hb
      · rw [List.mem_singleton] at h1
        rw [h1, birth_new, show k = m from by omega] at hb
        omega
    · rw [upd_ne _ _ e] at hn
      rw [hv _ (by omega) n hn] at hb
      exact h.mono k hk n hn hb
  · obtain ⟨h1, h2, h3⟩ := h.dd k hk
    refine ⟨h1, fun n => ?_, fun p hp => ?_⟩
    · rw [h2 n, upd_ne _ _ (show k ≠ m + 1 by omega)]
      by_cases e : k + 1 = m + 1
      · rw [e, upd_same]
        refine ⟨fun h4 => ⟨h4.1, fun h5 => ?_⟩, fun h4 => ⟨h4.1, fun h5 => h4.2 (List.mem_append_left _ h5)⟩⟩
        rcases List.mem_append.1 h5 with h6 | h6
        · exact h4.2 h6
        · rw [List.mem_singleton] at h6
          exact hno k (by omega) (h6 ▸ h4.1)
      · rw [upd_ne _ _ e]
    · rw [h3 p hp]
      have h4 : p.a ∈ V k := ((h2 p.a).1 (List.mem_map.2 ⟨p, hp, rfl⟩)).1
      rw [hv k (by omega) _ h4]
theorem need_born (h : INV m V T D bi) (n : Int) : Need m (upd V (m + 1) (V (m + 1) ++ [(bi.length : Int)])) n ↔ Need m V n ∨ n = (bi.length : Int) := by
  refine ⟨fun ⟨k, hk, hn⟩ => ?_, fun h1 => ?_⟩
  · by_cases e : k = m + 1
    · subst e
      rw [upd_same] at hn
      rcases List.mem_append.1 hn with h1 | h1
      · exact .inl ⟨_, hk, h1⟩
      · exact .inr (List.mem_singleton.1 h1)
    · rw [upd_ne _ _ e] at hn
      exact .inl ⟨k, hk, hn⟩
  · rcases h1 with ⟨k, hk, hn⟩ | rfl
    · by_cases e : k = m + 1
      · subst e
        exact ⟨_, Nat.le_refl _, by rw [upd_same]; exact List.mem_append_left _ hn⟩
      · exact ⟨k, hk, by rw [upd_ne _ _ e]; exact hn⟩
    · exact ⟨m + 1, Nat.le_refl _, by rw [upd_same]; simp⟩
/-- the head gives up a block -/
theorem cut_mem {l : List Int} {i : Nat} {x : Int} (hx : l[i]? = some x) (hd : l.Nodup) (n : Int) : n ∈ l.take i ++ l.drop (i + 1) ↔ n ∈ l ∧ n ≠ x := by
  obtain ⟨hi, e⟩ := List.getElem?_eq_some_iff.1 hx
  have hl : l = l.take i ++ x :: l.drop (i + 1) := by
    have := List.drop_eq_getElem_cons hi
    rw [e] at this
    rw [← this, List.take_append_drop]
  have hd2 : (l.take i ++ x :: l.drop (i + 1)).Nodup := hl ▸ hd
  rw [List.nodup_append] at hd2
  obtain ⟨_, h2, h3⟩ := hd2
  rw [List.nodup_cons] at h2
  constructor
  · intro hn
    rcases List.mem_append.1 hn with h | h
    · exact ⟨List.mem_of_mem_take h, fun e => h3 n h x (by simp) e⟩
    · exact ⟨List.mem_of_mem_drop h, fun e => h2.1 (e ▸ h)⟩
  · rintro ⟨hn, hne⟩
    rw [hl] at hn
    rcases List.mem_append.1 hn with h | h
    · exact List.mem_append_left _ h
    · rcases List.mem_cons.1 h with h | h
      · exact absurd h hne
      · exact List.mem_append_right _ h
theorem cut_nodup {l : List Int} {i : Nat} (hd : l.Nodup) : (l.take i ++ l.drop (i + 1)).Nodup := by
  refine List.Sublist.nodup ?_ hd
  conv => rhs; rw [← List.take_append_drop i l]
  exact (List.Sublist.refl _).append (List.drop_sublist_drop_left l (Nat.le_succ i))
theorem INV.kill (h : INV m V T D bi) {i : Nat} {x : Int} (hx : (V (m + 1))[i]? = some x) (D' : List PtV)
    (hD : (birth bi x ≤ T m ∧ D' = D m ++ [⟨x, 0, birth bi x, ByteArray.empty⟩]) ∨ (T m < birth bi x ∧ D' = D m)) :
    INV m (upd V (m + 1) ((V (m + 1)).take i ++ (V (m + 1)).drop (i + 1))) T (upd D m D') bi := by
  have hnd := (h.vs (m + 1) (Nat.le_refl _)).1
  have hcm := cut_mem hx hnd
  have hxm : x ∈ V (m + 1) := List.mem_of_getElem? hx
  refine ⟨h.tm, fun k hk => ?_, fun k hk n hn => ?_, fun k hk n hn hb => ?_, fun k hk => ?_⟩
  · by_cases e : k = m + 1
    · subst e
      rw [upd_same]
      exact ⟨cut_nodup hnd, fun n hn => (h.vs _ hk).2 n ((hcm n).1 hn).1⟩
    · rw [upd_ne _ _ e]
      exact h.vs k hk
  · rw [upd_ne _ _ (by omega)] at hn
    exact h.vb k hk n hn
  · rw [upd_ne _ _ (by omega)]
    by_cases e : k + 1 = m + 1
    · rw [e, upd_same] at hn
      exact h.mono k hk n (by rw [e]; exact ((hcm n).1 hn).1) hb
    · rw [upd_ne _ _ e] at hn
      exact h.mono k hk n hn hb
  · by_cases e : k = m
    · subst e
      obtain ⟨h1, h2, h3⟩ := h.dd k hk
      rw [upd_same, upd_same, upd_ne _ _ (show k ≠ k + 1 by omega)]
      rcases hD with ⟨hb, rfl⟩ | ⟨hb, rfl⟩
      · have hxk : x ∈ V k := h.mono k hk x hxm hb
        have hxD : x ∉ (D k).map (·.a) := fun h4 => ((h2 x).1 h4).2 hxm
        refine ⟨?_, fun n => ?_, fun p hp => ?_⟩
        · rw [List.map_append, List.nodup_append]
          refine ⟨h1, by simp, fun a ha b hb e => ?_⟩
          simp only [List.map_cons, List.map_nil, List.mem_singleton] at hb
          exact hxD (by rw [← hb, ← e]; exact ha)
        · rw [List.map_append, List.mem_append, h2 n, hcm n]
          simp only [List.map_cons, List.map_nil, List.mem_singleton]
          constructor
          · rintro (⟨h4, h5⟩ | rfl)
            · exact ⟨h4, fun h6 => h5 h6.1⟩
            · exact ⟨hxk, fun h6 => h6.2 rfl⟩
          · rintro ⟨h4, h5⟩
            by_cases e : n = x
            · exact .inr e
            · exact .inl ⟨h4, fun h6 => h5 ⟨h6, e⟩⟩
        · rcases List.mem_append.1 hp with h4 | h4
          · exact h3 p h4
          · rw [List.mem_singleton.1 h4]
      · have hxk : x ∉ V k := fun h4 => by have := h.vb k hk x h4; omega
        refine ⟨h1, fun n => ?_, h3⟩
        rw [h2 n, hcm n]
        constructor
        · rintro ⟨h4, h5⟩
          exact ⟨h4, fun h6 => h5 h6.1⟩
        · rintro ⟨h4, h5⟩
          exact ⟨h4, fun h6 => h5 ⟨h6, fun e => hxk (e ▸ h4)⟩⟩
    · rw [upd_ne _ _ e, upd_ne _ _ (show k ≠ m + 1 by omega), upd_ne _ _ (show k + 1 ≠ m + 1 by omega)]
      exact h.dd k hk
theorem need_kill (h : INV m V T D bi) {i : Nat} {x : Int} (hx : (V (m + 1))[i]? = some x) (n : Int) :
    Need m (upd V (m + 1) ((V (m + 1)).take i ++ (V (m + 1)).drop (i + 1))) n ↔ Need m V n ∧ ¬ (n = x ∧ T m < birth bi x) := by
  have hnd := (h.vs (m + 1) (Nat.le_refl _)).1
  have hcm := cut_mem hx hnd
  have hxm : x ∈ V (m + 1) := List.mem_of_getElem? hx
  constructor
  · rintro ⟨k, hk, hn⟩
    by_cases e : k = m + 1
    · subst e
      rw [upd_same] at hn
      obtain ⟨h1, h2⟩ := (hcm n).1 hn
      exact ⟨⟨_, hk, h1⟩, fun h3 => h2 h3.1⟩
    · rw [upd_ne _ _ e] at hn
      refine ⟨⟨k, hk, hn⟩, fun h3 => ?_⟩
      have h4 := h.vb k (by omega) n hn
      have h5 := h.tle (show k ≤ m by omega) (Nat.le_refl _)
      rw [h3.1] at h4
      omega
  · rintro ⟨⟨k, hk, hn⟩, h1⟩
    by_cases e : k = m + 1
    · subst e
      by_cases e2 : n = x
      · have hb : birth bi n ≤ T m := by
          rw [e2]
          exact Int.not_lt.1 (fun h2 => h1 ⟨e2, h2⟩)
        exact ⟨m, by omega, by rw [upd_ne _ _ (by omega)]; exact h.mono m (Nat.le_refl _) n hn hb⟩
      · exact ⟨m + 1, hk, by rw [upd_same]; exact (hcm n).2 ⟨hn, e2⟩⟩
    · exact ⟨k, hk, by rw [upd_ne _ _ e]; exact hn⟩
/-- a snapshot -/
theorem INV.snap (h : INV m V T D bi) {t : Int} (ht : T m < t) (hb : ∀ b ∈ bi, b ≤ t) :
    INV (m + 1) (upd V (m + 2) (V (m + 1))) (upd T (m + 1) t) (upd D (m + 1) []) bi := by
  have hbt : ∀ n ∈ V (m + 1), birth bi n ≤ t := fun n hn => by
    have h1 := (h.vs (m + 1) (Nat.le_refl _)).2 n hn
    rw [birth, List.getElem?_eq_getElem (by omega)]
    exact hb _ (List.getElem_mem _)
  refine ⟨fun i hi => ?_, fun k hk => ?_, fun k hk n hn => ?_, fun k hk n hn hb => ?_, fun k hk => ?_⟩
  · rw [upd_ne _ _ (show i ≠ m + 1 by omega)]
    by_cases e : i = m
    · subst e; rw [upd_same]; exact ht
    · rw [upd_ne _ _ (show i + 1 ≠ m + 1 by omega)]; exact h.tm i (by omega)
  · by_cases e : k = m + 2
    · subst e; rw [upd_same]; exact h.vs (m + 1) (Nat.le_refl _)
    · rw [upd_ne _ _ e]; exact h.vs k (by omega)
  · rw [upd_ne _ _ (show k ≠ m + 2 by omega)] at hn
    by_cases e : k = m + 1
    · subst e; rw [upd_same]; exact hbt n hn
    · rw [upd_ne _ _ e]; exact h.vb k (by omega) n hn
  · rw [upd_ne _ _ (show k ≠ m + 2 by omega)]
    by_cases e : k = m + 1
    · subst e; rw [upd_same] at hn; exact hn
    · rw [upd_ne _ _ (show k + 1 ≠ m + 2 by omega)] at hn
      rw [upd_ne _ _ e] at hb
      exact h.mono k (by omega) n hn hb
  · rw [upd_ne _ _ (show k ≠ m + 2 by omega)]
    by_cases e : k = m + 1
    · subst e
      rw [upd_same, upd_same]
      exact ⟨by simp, fun n => by simp, fun p hp => by cases hp⟩
    · rw [upd_ne _ _ e, upd_ne _ _ (show k + 1 ≠ m + 2 by omega)]
      exact h.dd k (by omega)
theorem need_snap (n : Int) : Need (m + 1) (upd V (m + 2) (V (m + 1))) n ↔ Need m V n := by
  constructor
  · rintro ⟨k, hk, hn⟩
    by_cases e : k = m + 2
    · subst e; rw [upd_same] at hn; exact ⟨m + 1, Nat.le_refl _, hn⟩
    · rw [upd_ne _ _ e] at hn; exact ⟨k, by omega, hn⟩
  · rintro ⟨k, hk, hn⟩
    exact ⟨k, by omega, by rw [upd_ne _ _ (show k ≠ m + 2 by omega)]; exact hn⟩
/-- a snapshot is destroyed -/
def skip (j i : Nat) : Nat := if i < j then i else i + 1
theorem skip_lt {j i : Nat} (h : i < j) : skip j i = i := if_pos h
theorem skip_ge {j i : Nat} (h : j ≤ i) : skip j i = i + 1 := if_neg (by omega)
theorem INV.destroy (h : INV m V T D bi) {k : Nat} (hk : k < m) :
    INV (m - 1) (fun i => V (skip (k + 1) i)) (fun i => T (skip (k + 1) i)) (fun i => if i = k then D k ++ (D (k + 1)).filter (fun p => !decide (T k < p.b)) else D (skip (k + 1) i)) bi := by
  have hD1 := h.dd k (by omega)
  have hD2 := h.dd (k + 1) (by omega)
  have hfil : ∀ n, n ∈ ((D (k + 1)).filter (fun p => !decide (T k < p.b))).map (·.a) ↔ (n ∈ V (k + 1) ∧ n ∉ V (k + 2)) ∧ birth bi n ≤ T k := fun n => by
    constructor
    · intro hn
      obtain ⟨p, hp, rfl⟩ := List.mem_map.1 hn
      obtain ⟨h1, h2⟩ := List.mem_filter.1 hp
      have h3 := hD2.2.2 p h1
      have h4 : ¬ (T k < p.b) := by simpa using h2
      exact ⟨(hD2.2.1 p.a).1 (List.mem_map.2 ⟨p, h1, rfl⟩), by omega⟩
    · rintro ⟨h1, h2⟩
      obtain ⟨p, hp, rfl⟩ := List.mem_map.1 ((hD2.2.1 n).2 h1)
      have h3 := hD2.2.2 p hp
      have h4 : ¬ (T k < p.b) := by omega
      exact List.mem_map.2 ⟨p, List.mem_filter.2 ⟨hp, by simpa using h4⟩, rfl⟩
  refine ⟨fun i hi => ?_, fun i hi => ?_, fun i hi n hn => ?_, fun i hi n hn hb => ?_, fun i hi => ?_⟩
  · show T (skip (k + 1) i) < T (skip (k + 1) (i + 1))
    rcases Nat.lt_or_ge i k with h1 | h1
    · rw [skip_lt (by omega), skip_lt (by omega)]; exact h.tm i (by omega)
    · rcases Nat.lt_or_ge k i with h2 | h2
      · rw [skip_ge (by omega), skip_ge (by omega)]; exact h.tm _ (by omega)
      · rw [skip_lt (by omega), skip_ge (by omega), show i = k from by omega]
        have h3 := h.tm k (by omega)
        have h4 := h.tm (k + 1)
        by_cases e : k + 1 < m
        · have := h4 e; omega
        · omega
  · show (V (skip (k + 1) i)).Nodup ∧ _
    refine h.vs _ ?_
    unfold skip; split <;> omega
  · have hn : n ∈ V (skip (k + 1) i) := hn
    show birth bi n ≤ T (skip (k + 1) i)
    refine h.vb _ ?_ n hn
    unfold skip; split <;> omega
  · have hn : n ∈ V (skip (k + 1) (i + 1)) := hn
    have hb : birth bi n ≤ T (skip (k + 1) i) := hb
    show n ∈ V (skip (k + 1) i)
    refine h.down (j := skip (k + 1) (i + 1)) ?_ ?_ hn (fun _ => hb)
    · unfold skip; split <;> split <;> omega
    · unfold skip; split <;> omega
  · show ((if i = k then _ else D (skip (k + 1) i)).map _).Nodup ∧ (∀ n, n ∈ (if i = k then _ else D (skip (k + 1) i)).map _ ↔ n ∈ V (skip (k + 1) i) ∧ n ∉ V (skip (k + 1) (i + 1))) ∧ ∀ p ∈ (if i = k then _ else D (skip (k + 1) i)), _
    by_cases e : i = k
    · subst e
      rw [if_pos rfl, skip_lt (show i < i + 1 by omega), skip_ge (Nat.le_refl _)]
      have key : ∀ n, n ∈ V i → n ∉ V (i + 1) → n ∉ V (i + 2) := fun n h1 h2 h3 => by
        have h4 := h.vb i (by omega) n h1
        have h5 := h.tm i (by omega)
        exact h2 (h.mono (i + 1) (by omega) n h3 (by omega))
      refine ⟨?_, fun n => ?_, fun p hp => ?_⟩
      · rw [List.map_append, List.nodup_append]
        refine ⟨hD1.1, (hD2.1.sublist ((List.filter_sublist).map _)), fun a ha b hb e => ?_⟩
        subst e
        exact ((hD1.2.1 a).1 ha).2 ((hfil a).1 hb).1.1
      · rw [List.map_append, List.mem_append, hD1.2.1 n, hfil n]
        constructor
        · rintro (⟨h1, h2⟩ | ⟨⟨h1, h2⟩, h3⟩)
          · exact ⟨h1, key n h1 h2⟩
          · exact ⟨h.mono i (by omega) n h1 h3, h2⟩
        · rintro ⟨h1, h2⟩
          by_cases h3 : n ∈ V (i + 1)
          · exact .inr ⟨⟨h3, h2⟩, h.vb i (by omega) n h1⟩
          · exact .inl ⟨h1, h3⟩
      · rcases List.mem_append.1 hp with h1 | h1
        · exact hD1.2.2 p h1
        · exact hD2.2.2 p (List.mem_filter.1 h1).1
    · rw [if_neg e]
      rcases Nat.lt_or_ge i k with h1 | h1
      · rw [skip_lt (by omega), skip_lt (by omega)]; exact h.dd i (by omega)
      · rw [skip_ge (by omega), skip_ge (by omega)]; exact h.dd _ (by omega)
theorem need_destroy (h : INV m V T D bi) {k : Nat} (hk : k < m) (n : Int) :
    Need (m - 1) (fun i => V (skip (k + 1) i)) n ↔ Need m V n ∧ n ∉ ((D (k + 1)).filter (fun p => decide (T k < p.b))).map (·.a) := by
  have hD2 := h.dd (k + 1) (by omega)
  have hfil : ∀ n, n ∈ ((D (k + 1)).filter (fun p => decide (T k < p.b))).map (·.a) ↔ (n ∈ V (k + 1) ∧ n ∉ V (k + 2)) ∧ T k < birth bi n := fun n => by
    constructor
    · intro hn
      obtain ⟨p, hp, rfl⟩ := List.mem_map.1 hn
      obtain ⟨h1, h2⟩ := List.mem_filter.1 hp
      have h3 := hD2.2.2 p h1
      have h4 : T k < p.b := by simpa using h2
      exact ⟨(hD2.2.1 p.a).1 (List.mem_map.2 ⟨p, h1, rfl⟩), by omega⟩
    · rintro ⟨h1, h2⟩
      obtain ⟨p, hp, rfl⟩ := List.mem_map.1 ((hD2.2.1 n).2 h1)
      have h3 := hD2.2.2 p hp
      have h4 : T k < p.b := by omega
      exact List.mem_map.2 ⟨p, List.mem_filter.2 ⟨hp, by simpa using h4⟩, rfl⟩
  rw [hfil n]
  constructor
  · rintro ⟨i, hi, hn⟩
    have hn : n ∈ V (skip (k + 1) i) := hn
    refine ⟨⟨skip (k + 1) i, by unfold skip; split <;> omega, hn⟩, ?_⟩
    rintro ⟨⟨h1, h2⟩, h3⟩
    rcases Nat.lt_or_ge i (k + 1) with h4 | h4
    · rw [skip_lt h4] at hn
      have h5 := h.vb i (by omega) n hn
      have h6 := h.tle (show i ≤ k by omega) (by omega)
      omega
    · rw [skip_ge h4] at hn
      have h5 := h.vb (k + 1) (by omega) n h1
      exact h2 (h.down (i := k + 2) (j := i + 1) (by omega) (by omega) hn (fun h6 => Int.le_trans h5 (h.tle (by omega) (by omega))))
  · rintro ⟨⟨i, hi, hn⟩, h1⟩
    rcases Nat.lt_or_ge i (k + 1) with h4 | h4
    · exact ⟨i, by omega, by show n ∈ V (skip (k + 1) i); rw [skip_lt h4]; exact hn⟩
    · rcases Nat.lt_or_ge (k + 1) i with h5 | h5
      · exact ⟨i - 1, by omega, by show n ∈ V (skip (k + 1) (i - 1)); rw [skip_ge (by omega), show i - 1 + 1 = i from by omega]; exact hn⟩
      · have e : i = k + 1 := by omega
        subst e
        by_cases h6 : n ∈ V (k + 2)
        · exact ⟨k + 1, by omega, by show n ∈ V (skip (k + 1) (k + 1)); rw [skip_ge (Nat.le_refl _)]; exact h6⟩
        · have h7 : birth bi n ≤ T k := Int.not_lt.1 (fun h8 => h1 ⟨⟨hn, h6⟩, h8⟩)
          exact ⟨k, by omega, by show n ∈ V (skip (k + 1) k); rw [skip_lt (by omega)]; exact h.mono k (by omega) n hn h7⟩
end
end Go.Proofs.Ytgmkoieemmglpaa
