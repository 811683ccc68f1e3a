import Derived.Test.YtdjlfbadcijjaaaRu
import Derived.Test.YtdjlfbadcijjaaaRk
namespace Go.Proofs.Ytdjlfbadcijjaaa
open Go.RowKit Go.HL

theorem loseS_up {s : RA} (h : Up s) (d : Int) (b : Bool) : Up (loseS s d b) := ⟨h.off, h.armed⟩
theorem replaceS_up {s : RA} (h : Up s) (d : Int) : Up (replaceS s d) := ⟨h.off, h.armed⟩
theorem replaceS_last {s : RA} (h : s.ok) (d : Int) (q : Pl) : lastS (replaceS s d) q = if q.1 = d ∧ 0 ≤ q.2 ∧ q.2 < s.sn then zeros else lastS s q := by
  unfold lastS
  rw [show (replaceS s d).last = delN s.last d s.sn from rfl, delN_get h.nd]
  split <;> rfl
theorem replaceS_gone {s : RA} (h : s.ok) {d : Int} (hd : isS s d) {x : Int} (hx : 0 ≤ x) : goneS (replaceS s d) x = if x = d then false else goneS s x := loseS_gone h hd false hx
/-- what is wanted of a sector -/
def wantV (B : Int → List UInt8) (v : Int) : List UInt8 := if 0 < v then B (v - 1) else zeros
/-- the last write to each of forty sectors: one more of it, or nought -/
structure Lasts (B : Int → List UInt8) (L : List Int) (s : RA) : Prop where
  dn : s.dn = 5
  sn : s.sn = 8
  up : Up s
  gone : ∀ d, goneS s d = false
  len : L.length = 40
  held : ∀ d a : Nat, d < 5 → a < 8 → heldS s ((d : Int), (a : Int)) = wantV B (L.getD (d * 8 + a) 0)
  val : ∀ j, 0 ≤ L.getD j 0 ∧ L.getD j 0 ≤ 100000
theorem Lasts.write {B : Int → List UInt8} {L : List Int} {s : RA} (h : Lasts B L s) {d a : Nat} (hd : d < 5) (ha : a < 8) {f : Int} (hf : 0 ≤ f ∧ f < 100000) : Lasts B (L.set (d * 8 + a) (1 + f)) (addS s ((d : Int), (a : Int)) (B f)) := by
  have hlen := h.len
  refine ⟨h.dn, h.sn, addS_up h.up _ _, h.gone, by rw [List.length_set, hlen], fun d2 a2 h2 h3 => ?_, fun j => ?_⟩
  · rw [addS_held, List.getD_eq_getElem?_getD, List.getElem?_set]
    by_cases e : d * 8 + a = d2 * 8 + a2
    · have e1 : d = d2 := by omega
      have e2 : a = a2 := by omega
      subst e1; subst e2
      rw [if_pos rfl, if_pos rfl, if_pos (by omega)]
      show B f = wantV B (1 + f)
      rw [wantV, if_pos (by omega), show 1 + f - 1 = f from by omega]
    · rw [if_neg (fun e2 => e (by injection e2 with e3 e4; have e3' : (d2 : Int) = d := e3; have e4' : (a2 : Int) = a := e4; omega)), if_neg e, h.held d2 a2 h2 h3, List.getD_eq_getElem?_getD]
  · rw [List.getD_eq_getElem?_getD, List.getElem?_set]
    split
    · split
      · show 0 ≤ 1 + f ∧ 1 + f ≤ 100000
        omega
      · show 0 ≤ (0 : Int) ∧ (0 : Int) ≤ 100000
        omega
    · rw [← List.getD_eq_getElem?_getD]
      exact h.val j
/-- behind the crash and the new drive -/
theorem lasts_end {B : Int → List UInt8} {L : List Int} {s : RA} (h : Lasts B L s) (hok : s.ok) {ps : List Int} {l : Int} (hl : 0 ≤ l ∧ l < 5) {s5 : RA} (e5 : s5 = replaceS (crashS (loseS (addS (allS s) (2, 0) (B 5)) l true) ps) l) (hok4 : (crashS (loseS (addS (allS s) (2, 0) (B 5)) l true) ps).ok) (hok1 : (addS (allS s) (2, 0) (B 5)).ok) :
    s5.dn = 5 ∧ s5.sn = 8 ∧ Up s5 ∧ (∀ d : Nat, goneS s5 d = false) ∧ ∀ d a : Nat, d < 5 → a < 8 → heldS s5 ((d : Int), (a : Int)) = if (d : Int) = 2 ∧ (a : Int) = 0 ∧ (d : Int) ≠ l ∧ keep ps 0 = true then B 5 else if 0 < L.getD (d * 8 + a) 0 ∧ (d : Int) ≠ l then B (L.getD (d * 8 + a) 0 - 1) else zeros := by
  have hi1 : isS (addS (allS s) (2, 0) (B 5)) l := by
    unfold isS
    rw [show (addS (allS s) (2, 0) (B 5)).dn = s.dn from rfl, h.dn]
    exact ⟨hl.1, by show l < (5 : Int); omega⟩
  have hi4 : isS (crashS (loseS (addS (allS s) (2, 0) (B 5)) l true) ps) l := hi1
  refine ⟨by rw [e5]; exact h.dn, by rw [e5]; exact h.sn, by rw [e5]; exact replaceS_up (crash_up _ _) _, fun d => ?_, fun d a hd ha => ?_⟩
  · rw [e5, replaceS_gone hok4 hi4 (by omega)]
    split
    · rfl
    · rename_i hne
      show goneS (loseS (addS (allS s) (2, 0) (B 5)) l true) d = false
      rw [loseS_gone hok1 hi1 true (by omega), if_neg hne]
      exact h.gone d
  · have hw5 : s5.waits = [] := by rw [e5]; rfl
    rw [heldS_none hw5, e5, replaceS_last hok4]
    have hsn : ((crashS (loseS (addS (allS s) (2, 0) (B 5)) l true) ps).sn : Int) = 8 := by
      rw [show (crashS (loseS (addS (allS s) (2, 0) (B 5)) l true) ps).sn = s.sn from rfl, h.sn]
      rfl
    rw [hsn]
    by_cases hdl : (d : Int) = l
    · rw [if_pos ⟨hdl, by show 0 ≤ (a : Int); omega, by show (a : Int) < 8; omega⟩, if_neg (fun c => c.2.2.1 hdl), if_neg (fun c => c.2 hdl)]
    · rw [if_neg (fun c => hdl c.1)]
      have hlast : lastS (crashS (loseS (addS (allS s) (2, 0) (B 5)) l true) ps) ((d : Int), (a : Int)) = if (d : Int) = 2 ∧ (a : Int) = 0 ∧ (d : Int) ≠ l ∧ keep ps 0 = true then B 5 else heldS s ((d : Int), (a : Int)) := by
        have hws : (loseS (addS (allS s) (2, 0) (B 5)) l true).waits = if (2 : Int) = l then [] else [((2, 0), B 5)] := by
          show stay l ([] ++ [((2, 0), B 5)]) = _
          unfold stay
          by_cases e : (2 : Int) = l <;> simp [e]
        rw [← allS_last]
        by_cases e2 : (2 : Int) = l
        · rw [if_pos e2] at hws
          rw [if_neg (fun c => hdl (by omega))]
          show (mget (puts (keep ps) (loseS (addS (allS s) (2, 0) (B 5)) l true).waits _ (loseS (addS (allS s) (2, 0) (B 5)) l true).waits.length) _).getD zeros = _
          rw [hws]
          rfl
        · rw [if_neg e2] at hws
          show (mget (puts (keep ps) (loseS (addS (allS s) (2, 0) (B 5)) l true).waits _ (loseS (addS (allS s) (2, 0) (B 5)) l true).waits.length) _).getD zeros = _
          rw [hws, show ([((2, 0), B 5)] : List (Pl × List UInt8)).length = 0 + 1 from rfl, mget_puts (x := ((2, 0), B 5)) rfl]
          by_cases hc : keep ps 0 = true ∧ ((d : Int), (a : Int)) = ((2 : Int), (0 : Int))
          · obtain ⟨hc1, hc2⟩ := hc
            injection hc2 with hc3 hc4
            rw [if_pos ⟨hc1, by rw [hc3, hc4]⟩, if_pos ⟨hc3, hc4, hdl, hc1⟩]
            rfl
          · rw [if_neg hc, if_neg (fun c => hc ⟨c.2.2.2, by rw [c.1, c.2.1]⟩)]
            rfl
      rw [hlast, h.held d a hd ha, wantV]
      split
      · rfl
      · by_cases hv : 0 < L.getD (d * 8 + a) 0
        · rw [if_pos hv, if_pos ⟨hv, hdl⟩]
        · rw [if_neg hv, if_neg (fun c => hv c.1)]
end Go.Proofs.Ytdjlfbadcijjaaa
