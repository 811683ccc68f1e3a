import Derived.Test.YtgmkoieemmglpaaDx
import Derived.Test.YtgmkoieemmglpaaHl
import Derived.Test.YtgmkoieemmglpaaHn
namespace Go.Proofs.Ytgmkoieemmglpaa
open Go.RowKit Go.HL

/-! the history's versions, and where they lie -/
structure RwI where
  ao : Option Addr
  cap : Nat
  xs : List Int
def erowI : Enc RwI := ⟨1, fun r => [.slice r.ao r.xs.length r.cap], fun _ => rfl, by simp [Value.oneCell'], by decide⟩
def vsI (sn : List RwI) : List (List Int) := sn.map (·.xs)
def ver (og : List Int) (sn : List (List Int)) (hd : List Int) (k : Nat) : List Int := ((og :: (sn ++ [hd]))[k]?).getD []
def dl (L : LA) (k : Nat) : List PtV := ((L.snaps.map (·.2) ++ [L.dead])[k]?).getD []
structure HI (L : LA) (og : List Int) (sn : List (List Int)) (hd bi : List Int) (t : Int) : Prop where
  right : L.Right
  len : L.snaps.length = sn.length
  last : L.ahead L.snaps.length ≤ t
  old : ∀ b ∈ bi, b ≤ t
  inv : INV sn.length (ver og sn hd) L.ahead (dl L) bi
def HF (og : List Int) (sn : List (List Int)) (hd : List Int) (fl : List Bool) : Prop := ∀ (i : Nat) (b : Bool), fl[i]? = some b → (b = true ↔ ¬ Need sn.length (ver og sn hd) (i : Int))
theorem need_iff (og : List Int) (sn : List (List Int)) (hd : List Int) (n : Int) : Need sn.length (ver og sn hd) n ↔ n ∈ hd ∨ n ∈ og ∨ ∃ V ∈ sn, n ∈ V := by
  constructor
  · rintro ⟨k, hk, hn⟩
    have hkl : k < (og :: (sn ++ [hd])).length := by simp; omega
    rw [ver, List.getElem?_eq_getElem hkl] at hn
    have hm : (og :: (sn ++ [hd]))[k] ∈ og :: (sn ++ [hd]) := List.getElem_mem _
    simp only [Option.getD_some] at hn
    generalize (og :: (sn ++ [hd]))[k] = V at hn hm
    rcases List.mem_cons.1 hm with h | h
    · exact .inr (.inl (h ▸ hn))
    · rcases List.mem_append.1 h with h | h
      · exact .inr (.inr ⟨V, h, hn⟩)
      · exact .inl (List.mem_singleton.1 h ▸ hn)
  · intro h
    have key : ∀ V, V ∈ og :: (sn ++ [hd]) → n ∈ V → Need sn.length (ver og sn hd) n := fun V hV hn => by
      obtain ⟨k, hk, rfl⟩ := List.getElem_of_mem hV
      have hk2 : k < sn.length + 2 := by simpa using hk
      exact ⟨k, by omega, by rw [ver, List.getElem?_eq_getElem hk]; exact hn⟩
    rcases h with h | h | ⟨V, hV, h⟩
    · exact key hd (by simp) h
    · exact key og (by simp) h
    · exact key V (by simp [hV]) h
theorem ver_hd (og : List Int) (sn : List (List Int)) (hd : List Int) : ver og sn hd (sn.length + 1) = hd := by
  rw [ver, List.getElem?_cons_succ, List.getElem?_append_right (Nat.le_refl _), Nat.sub_self]
  rfl
theorem ver_upd (og : List Int) (sn : List (List Int)) (hd hd2 : List Int) {k : Nat} (hk : k ≤ sn.length + 1) : ver og sn hd2 k = upd (ver og sn hd) (sn.length + 1) hd2 k := by
  by_cases e : k = sn.length + 1
  · subst e; rw [ver_hd, upd_same]
  · rw [upd_ne _ _ e, ver, ver]
    cases k with
    | zero => rfl
    | succ k =>
      rw [List.getElem?_cons_succ, List.getElem?_cons_succ, List.getElem?_append_left (by omega), List.getElem?_append_left (by omega)]
theorem need_cong {m : Nat} {V V' : Nat → List Int} (h : ∀ k, k ≤ m + 1 → V' k = V k) (n : Int) : Need m V' n ↔ Need m V n := by
  constructor
  · rintro ⟨k, hk, hn⟩; exact ⟨k, hk, by rw [← h k hk]; exact hn⟩
  · rintro ⟨k, hk, hn⟩; exact ⟨k, hk, by rw [h k hk]; exact hn⟩
section
variable {L : LA} {og hd bi : List Int} {sn : List (List Int)} {t : Int} {fl : List Bool}
theorem HI.up (h : HI L og sn hd bi t) : HI L og sn hd bi (t + 1) := ⟨h.right, h.len, by have := h.last; omega, fun b hb => by have := h.old b hb; omega, h.inv⟩
theorem HI.lt (h : HI L og sn hd bi t) {n : Int} (hn : n ∈ hd) : 0 ≤ n ∧ n < (bi.length : Int) := h.inv.lt ((need_iff og sn hd n).2 (.inl hn))
/-- a block is born -/
theorem HI.born (h : HI L og sn hd bi t) (ht : L.ahead L.snaps.length < t) : HI L og sn (hd ++ [(bi.length : Int)]) (bi ++ [t]) t := by
  refine ⟨h.right, h.len, h.last, fun b hb => ?_, ?_⟩
  · rcases List.mem_append.1 hb with h1 | h1
    · exact h.old b h1
    · rw [List.mem_singleton.1 h1]; exact Int.le_refl _
  · have h1 := h.inv.born (t := t) (by rw [← h.len]; exact ht)
    rw [ver_hd] at h1
    exact h1.cong (fun k hk => ver_upd og sn hd _ hk) (fun _ _ => rfl) (fun _ _ => rfl)
theorem HF.born (h : HI L og sn hd bi t) (hf : HF og sn hd fl) (hl : fl.length = bi.length) : HF og sn (hd ++ [(bi.length : Int)]) (fl ++ [false]) := by
  intro i b hb
  have h1 := need_born h.inv (i : Int)
  rw [ver_hd] at h1
  rw [need_cong (fun k hk => ver_upd og sn hd _ hk), h1]
  rcases Nat.lt_or_ge i fl.length with h2 | h2
  · rw [List.getElem?_append_left h2] at hb
    rw [hf i b hb]
    constructor
    · rintro h3 (h4 | h4)
      · exact h3 h4
      · omega
    · exact fun h3 h4 => h3 (.inl h4)
  · have h3 := (List.getElem?_eq_some_iff.1 hb).1
    simp at h3
    have h4 : i = fl.length := by omega
    subst h4
    simp at hb
    subst hb
    constructor
    · intro h5; cases h5
    · intro h5
      exact absurd (.inr (by rw [hl])) h5
/-- the head gives a block up -/
theorem HI.kill (h : HI L og sn hd bi t) {i : Nat} {x : Int} (hx : hd[i]? = some x) (L' : LA) (b : Bool)
    (hK : (birth bi x ≤ L.ahead L.snaps.length ∧ L' = { L with dead := L.dead ++ [⟨x, 0, birth bi x, ByteArray.empty⟩] } ∧ b = false) ∨ (L.ahead L.snaps.length < birth bi x ∧ L' = L ∧ b = true)) :
    HI L' og sn (hd.take i ++ hd.drop (i + 1)) bi t ∧ (∀ n, Need sn.length (ver og sn (hd.take i ++ hd.drop (i + 1))) n ↔ Need sn.length (ver og sn hd) n ∧ ¬ (n = x ∧ b = true)) := by
  have hx' : (ver og sn hd (sn.length + 1))[i]? = some x := by rw [ver_hd]; exact hx
  have hn := fun n => need_kill h.inv hx' n
  simp only [ver_hd] at hn
  have hdl : dl L sn.length = L.dead := by
    rw [dl, List.getElem?_append_right (by rw [List.length_map, h.len]; exact Nat.le_refl _), List.length_map, h.len, Nat.sub_self]
    rfl
  rcases hK with ⟨h1, rfl, rfl⟩ | ⟨h1, rfl, rfl⟩
  · have hah : ∀ k, ({ L with dead := L.dead ++ [⟨x, 0, birth bi x, ByteArray.empty⟩] } : LA).ahead k = L.ahead k := fun k => rfl
    refine ⟨⟨kill_right h.right h1, h.len, h.last, h.old, ?_⟩, fun n => ?_⟩
    · have h2 := h.inv.kill hx' (dl L sn.length ++ [⟨x, 0, birth bi x, ByteArray.empty⟩]) (.inl ⟨by rw [← h.len]; exact h1, rfl⟩)
      rw [ver_hd] at h2
      refine h2.cong (fun k hk => ver_upd og sn hd _ hk) (fun _ _ => rfl) (fun k hk => ?_)
      by_cases e : k = sn.length
      · subst e
        rw [upd_same, hdl, dl, List.getElem?_append_right (by rw [List.length_map, h.len]; exact Nat.le_refl _), List.length_map, h.len, Nat.sub_self]
        rfl
      · rw [upd_ne _ _ e, dl, dl, List.getElem?_append_left (by rw [List.length_map, h.len]; omega), List.getElem?_append_left (by rw [List.length_map, h.len]; omega)]
    · rw [need_cong (fun k hk => ver_upd og sn hd _ hk), hn n]
      simp only [Bool.false_eq_true, and_false, not_false_iff, and_true]
      constructor
      · exact fun h3 => h3.1
      · exact fun h3 => ⟨h3, fun h4 => by rw [← h.len] at h4; omega⟩
  · refine ⟨⟨h.right, h.len, h.last, h.old, ?_⟩, fun n => ?_⟩
    · have h2 := h.inv.kill hx' (dl L' sn.length) (.inr ⟨by rw [← h.len]; exact h1, rfl⟩)
      rw [ver_hd] at h2
      refine h2.cong (fun k hk => ver_upd og sn hd _ hk) (fun _ _ => rfl) (fun k hk => ?_)
      by_cases e : k = sn.length
      · subst e; rw [upd_same]
      · rw [upd_ne _ _ e]
    · rw [need_cong (fun k hk => ver_upd og sn hd _ hk), hn n, ← h.len]
      simp only [and_true]
      constructor
      · rintro ⟨h3, h4⟩; exact ⟨h3, fun h5 => h4 ⟨h5, h1⟩⟩
      · rintro ⟨h3, h4⟩; exact ⟨h3, fun h5 => h4 h5.1⟩
/-- a snapshot -/
theorem ver_snap (og : List Int) (sn : List (List Int)) (hd : List Int) {k : Nat} (hk : k ≤ sn.length + 2) : ver og (sn ++ [hd]) hd k = upd (ver og sn hd) (sn.length + 2) (ver og sn hd (sn.length + 1)) k := by
  by_cases e : k = sn.length + 2
  · subst e
    rw [upd_same, ver_hd]
    have := ver_hd og (sn ++ [hd]) hd
    rwa [List.length_append] at this
  · rw [upd_ne _ _ e, ver, ver]
    cases k with
    | zero => rfl
    | succ k =>
      rw [List.getElem?_cons_succ, List.getElem?_cons_succ, List.getElem?_append_left (by rw [List.length_append]; simp only [List.length_cons, List.length_nil]; omega)]
theorem HI.snap (h : HI L og sn hd bi t) (ht : L.ahead L.snaps.length < t) : HI { L with snaps := L.snaps ++ [(t, L.dead)], dead := [] } og (sn ++ [hd]) hd bi t := by
  refine ⟨snap_right h.right ht, by simp [h.len], ?_, h.old, ?_⟩
  · show LA.ahead _ (L.snaps ++ [(t, L.dead)]).length ≤ t
    rw [List.length_append]
    rw [show L.snaps.length + [(t, L.dead)].length = L.snaps.length + 1 from rfl, snap_ahead]
    exact Int.le_refl _
  · have h2 := h.inv.snap (t := t) (by rw [← h.len]; exact ht) h.old
    rw [List.length_append]
    refine h2.cong (fun k hk => ver_snap og sn hd hk) (fun k hk => ?_) (fun k hk => ?_)
    · by_cases e : k = sn.length + 1
      · subst e
        rw [upd_same, ← h.len]
        exact snap_ahead L t
      · rw [upd_ne _ _ e]
        refine ahead_cong (L := { L with snaps := L.snaps ++ [(t, L.dead)], dead := [] }) (M := L) rfl ?_
        rcases Nat.eq_zero_or_pos k with h3 | h3
        · exact .inl ⟨h3, h3⟩
        · refine .inr ⟨h3, h3, ?_⟩
          show ((L.snaps ++ [(t, L.dead)])[k - 1]?).map _ = _
          rw [List.getElem?_append_left (by have := h.len; omega)]
    · show (((L.snaps ++ [(t, L.dead)]).map (·.2) ++ [([] : List PtV)])[k]?).getD [] = _
      by_cases e : k = sn.length + 1
      · subst e
        rw [upd_same, List.getElem?_append_right (by simp [h.len])]
        simp [h.len]
      · rw [upd_ne _ _ e, List.getElem?_append_left (by simp [h.len]; omega), dl]
        simp
theorem need_snap2 (og : List Int) (sn : List (List Int)) (hd : List Int) (n : Int) : Need (sn ++ [hd]).length (ver og (sn ++ [hd]) hd) n ↔ Need sn.length (ver og sn hd) n := by
  rw [List.length_append]
  have := need_snap (m := sn.length) (V := ver og sn hd) n
  rw [← this]
  exact need_cong (m := sn.length + 1) (fun k hk => ver_snap og sn hd hk) n
/-- a snapshot is destroyed -/
theorem skip_at {α : Type} (l : List α) {k i : Nat} (hk : k < l.length) : (l.take k ++ l.drop (k + 1))[i]? = l[skip k i]? := by
  rcases Nat.lt_or_ge i k with h | h
  · rw [skip_lt h, List.getElem?_append_left (by simp; omega), List.getElem?_take_of_lt h]
  · rw [skip_ge h, List.getElem?_append_right (by simp; omega), List.getElem?_drop, List.length_take]
    congr 1
    omega
theorem ver_cut (og : List Int) (sn : List (List Int)) (hd : List Int) {k : Nat} (hk : k < sn.length) (i : Nat) : ver og (sn.take k ++ sn.drop (k + 1)) hd i = ver og sn hd (skip (k + 1) i) := by
  have h1 := skip_at (og :: (sn ++ [hd])) (k := k + 1) (i := i) (by simp; omega)
  rw [ver, ver, ← h1]
  congr 1
  congr 1
  rw [List.take_succ_cons, List.drop_succ_cons, List.take_append_of_le_length (by omega), List.drop_append_of_le_length (by omega)]
  simp
theorem ahead_at {L : LA} {i : Nat} (hi : i < L.snaps.length) : L.ahead (i + 1) = (L.snaps[i]'hi).1 := by
  rw [LA.ahead, if_neg (by omega), Nat.add_sub_cancel, List.getElem?_eq_getElem hi]
  rfl
theorem destroy_shape {L : LA} {k : Nat} (hk : k < L.snaps.length) : (destroyA L k).snaps.map (·.1) = (L.snaps.take k ++ L.snaps.drop (k + 1)).map (·.1) ∧ (destroyA L k).base = L.base ∧
    (destroyA L k).snaps.map (·.2) ++ [(destroyA L k).dead] = ((L.snaps.map (·.2) ++ [L.dead]).set (k + 1) (keepA L k)).take k ++ ((L.snaps.map (·.2) ++ [L.dead]).set (k + 1) (keepA L k)).drop (k + 1) := by
  rw [destroyA]
  split
  · rename_i x1 h1
    have hkl := (List.getElem?_eq_some_iff.1 h1).1
    refine ⟨?_, rfl, ?_⟩
    · show List.map _ (List.take _ _ ++ List.drop _ _) = _
      rw [List.map_append, List.map_append, List.map_take, List.map_take, List.map_drop, List.map_drop, List.map_set]
      have e : (L.snaps.map (·.1)).set (k + 1) x1.1 = L.snaps.map (·.1) := by
        apply List.ext_getElem?
        intro j
        rw [List.getElem?_set]
        by_cases e : k + 1 = j
        · subst e
          rw [if_pos rfl, List.length_map, if_pos hkl, List.getElem?_map, h1]
          rfl
        · rw [if_neg e]
      rw [e]
    · show List.map _ (List.take _ _ ++ List.drop _ _) ++ [L.dead] = _
      rw [List.map_append, List.map_take, List.map_drop, List.map_set]
      rw [List.set_append_left _ _ (by simp; omega), List.take_append_of_le_length (by simp; omega), List.drop_append_of_le_length (by simp; omega), List.append_assoc]
  · rename_i h1
    have hkl : L.snaps.length ≤ k + 1 := List.getElem?_eq_none_iff.1 h1
    refine ⟨rfl, rfl, ?_⟩
    have e1 : L.snaps.drop (k + 1) = [] := List.drop_of_length_le hkl
    show List.map _ (List.take _ _ ++ List.drop _ _) ++ [keepA L k] = _
    rw [e1, List.append_nil, List.set_append_right _ _ (by simp; omega), List.take_append_of_le_length (by simp; omega), List.drop_append, List.drop_of_length_le (by simp; omega), List.map_take]
    simp only [List.length_map, List.nil_append]
    rw [show k + 1 - L.snaps.length = 0 from by omega]
    rfl
theorem HI.destroy (h : HI L og sn hd bi t) {k : Nat} (hk : k < sn.length) : HI (destroyA L k) og (sn.take k ++ sn.drop (k + 1)) hd bi t ∧
    (∀ n, Need (sn.take k ++ sn.drop (k + 1)).length (ver og (sn.take k ++ sn.drop (k + 1)) hd) n ↔ Need sn.length (ver og sn hd) n ∧ n ∉ (freeA L k).map (·.a)) ∧ ((freeA L k).map (·.a)).Nodup ∧ ∀ p ∈ freeA L k, Need sn.length (ver og sn hd) p.a := by
  have hkL : k < L.snaps.length := by rw [h.len]; exact hk
  obtain ⟨hs1, hs2, hs3⟩ := destroy_shape hkL
  have hml : (sn.take k ++ sn.drop (k + 1)).length = sn.length - 1 := by simp; omega
  have hnext : nextA L k = dl L (k + 1) := by
    rw [nextA, dl]
    split
    · rename_i x1 h1
      have hkl := (List.getElem?_eq_some_iff.1 h1).1
      rw [List.getElem?_append_left (by simpa using hkl), List.getElem?_map, h1]
      rfl
    · rename_i h1
      have hkl : L.snaps.length ≤ k + 1 := List.getElem?_eq_none_iff.1 h1
      rw [List.getElem?_append_right (by simpa using hkl), List.length_map, show k + 1 - L.snaps.length = 0 from by omega]
      rfl
  have hD0 : ((L.snaps[k]?).map (·.2)).getD [] = dl L k := by
    rw [dl, List.getElem?_append_left (by simpa using hkL), List.getElem?_map]
  have hah : ∀ i, i ≤ L.snaps.length - 1 → (destroyA L k).ahead i = L.ahead (skip (k + 1) i) := fun i hi => by
    rcases Nat.eq_zero_or_pos i with h0 | h0
    · subst h0
      rw [skip_lt (by omega), LA.ahead, LA.ahead, if_pos rfl, if_pos rfl, hs2]
    · obtain ⟨j, rfl⟩ : ∃ j, i = j + 1 := ⟨i - 1, by omega⟩
      have e1 : ((destroyA L k).snaps.map (·.1))[j]? = (L.snaps.map (·.1))[skip k j]? := by
        rw [hs1, List.map_append, List.map_take, List.map_drop]
        exact skip_at _ (by simpa using hkL)
      have e2 : skip (k + 1) (j + 1) = skip k j + 1 := by unfold skip; split <;> split <;> omega
      rw [e2, LA.ahead, LA.ahead, if_neg (by omega), if_neg (by omega), Nat.add_sub_cancel, Nat.add_sub_cancel]
      rw [List.getElem?_map, List.getElem?_map] at e1
      rw [e1]
  have hdl : ∀ i, dl (destroyA L k) i = if i = k then keepA L k else dl L (skip (k + 1) i) := fun i => by
    have hkd : k + 1 < (L.snaps.map (·.2) ++ [L.dead]).length := by simp; omega
    rw [dl, hs3]
    have e1 := skip_at ((L.snaps.map (·.2) ++ [L.dead]).set (k + 1) (keepA L k)) (k := k) (i := i) (by rw [List.length_set]; omega)
    rw [e1, List.getElem?_set]
    by_cases e : i = k
    · subst e
      rw [if_pos rfl, skip_ge (Nat.le_refl _), if_pos rfl, if_pos hkd]
      rfl
    · rw [if_neg e, dl]
      rcases Nat.lt_or_ge i k with h1 | h1
      · rw [skip_lt h1, skip_lt (by omega), if_neg (by omega)]
      · rw [skip_ge h1, skip_ge (by omega), if_neg (by omega)]
  have hfr : freeA L k = (dl L (k + 1)).filter (fun p => decide (L.ahead k < p.b)) := by rw [freeA, hnext]
  have hkp : keepA L k = dl L k ++ (dl L (k + 1)).filter (fun p => !decide (L.ahead k < p.b)) := by rw [keepA, hnext, hD0]
  refine ⟨⟨right_destroy h.right hkL, by rw [destroy_sl hkL, hml, h.len], ?_, h.old, ?_⟩, fun n => ?_, ?_, fun p hp => ?_⟩
  · rw [destroy_sl hkL, hah _ (Nat.le_refl _)]
    have hlen := h.len
    have h1 := h.inv.tle (i := skip (k + 1) (L.snaps.length - 1)) (j := sn.length) (by unfold skip; split <;> omega) (Nat.le_refl _)
    have h2 := h.last
    rw [h.len] at h2
    omega
  · rw [hml]
    refine (h.inv.destroy hk).cong (fun i hi => ver_cut og sn hd hk i) (fun i hi => hah i (by rw [h.len]; exact hi)) (fun i hi => ?_)
    rw [hdl i, hkp]
  · rw [hml, hfr]
    rw [← need_destroy h.inv hk n]
    exact need_cong (fun i hi => ver_cut og sn hd hk i) n
  · rw [hfr]
    exact (h.inv.dd (k + 1) (by omega)).1.sublist ((List.filter_sublist).map _)
  · rw [hfr] at hp
    have h1 := (List.mem_filter.1 hp).1
    have h2 := ((h.inv.dd (k + 1) (by omega)).2.1 p.a).1 (List.mem_map.2 ⟨p, h1, rfl⟩)
    exact ⟨k + 1, by omega, h2.1⟩
end
end Go.Proofs.Ytgmkoieemmglpaa
