import Derived.Test.YtjeldcjchipdgaaDoorQLabelCrashes10
namespace Go.Proofs.YtjeldcjchipdgaaDoor
open Go.RowKit Go.HL
set_option maxRecDepth 100000

/-! a drive that is lost, one that is replaced -/
theorem loseS_gone {s : RA} (h : s.ok) {d : Int} (hd : isS s d) (b : Bool) {x : Int} (hx : 0 ≤ x) : goneS (loseS s d b) x = if x = d then b else goneS s x := by
  have h1 := hd.1
  have h2 := hd.2
  have hl : d.toNat < s.gone.length := by rw [h.gl]; omega
  rw [goneS, show (loseS s d b).gone = s.gone.set d.toNat b from rfl, List.getD_eq_getElem?_getD, List.getElem?_set, goneS, List.getD_eq_getElem?_getD]
  by_cases e : x = d
  · subst e
    simp [hl]
  · have : ¬ d.toNat = x.toNat := by omega
    simp [e, this]
theorem LoseU {A : Nat → Prop} {w : World} {R : Nat} {s : RA} (h : RK A w R s) {d : Int} (hd : isS s d) :
    Calls Tryd.prog 22 [ptr R, vi d].toArray w (Ret fun v w' => v = vi 0 ∧ RK A w' R (loseS s d true) ∧ Chg A w w') := by
  refine (Lose_calls h d).mono ?_
  rintro e w' ⟨v, rfl, rfl, hR, k⟩
  rw [if_pos hd] at hR
  exact ⟨_, rfl, by rw [if_pos hd], hR, k⟩
/-! behind Arm -/
structure Arms (n i : Nat) (s : RA) : Prop where
  dn : s.dn = 3
  sn : s.sn = 4
  g0 : goneS s 0 = false
  g1 : goneS s 1 = true
  g2 : goneS s 2 = false
  armed : s.armed = true
  off : offS s = decide (n ≤ i)
  left : i < n → s.left = (n : Int) - i ∧ s.off = false
  len : s.waits.length ≤ i
theorem Arms.step {n i : Nat} {s t : RA} (h : Arms n i s) (e1 : t.dn = s.dn) (e2 : t.sn = s.sn) (e3 : t.gone = s.gone) (e4 : t.armed = (spendS s).armed) (e5 : t.off = (spendS s).off) (e6 : t.left = (spendS s).left) (hl : t.waits.length ≤ i + 1) : Arms n (i + 1) t := by
  have hg : ∀ d, goneS t d = goneS s d := fun d => by rw [goneS, goneS, e3]
  have h1 := h.armed
  have h2 := h.off
  have h3 : (spendS s).armed = true := by unfold spendS; split <;> exact h1
  by_cases hi : i < n
  · obtain ⟨h4, h5⟩ := h.left hi
    have h6 : offS s = false := by rw [h2]; simp; omega
    have h7 : spendS s = { s with left := s.left - 1 } := by
      unfold spendS
      rw [h6, h1]
      rfl
    rw [h7] at e4 e5 e6
    have e5' : t.off = false := e5.trans h5
    have e6' : t.left = (n : Int) - i - 1 := e6.trans (by show s.left - 1 = _; rw [h4])
    refine ⟨e1.trans h.dn, e2.trans h.sn, (hg 0).trans h.g0, (hg 1).trans h.g1, (hg 2).trans h.g2, e4.trans h1, ?_, fun h8 => ⟨?_, e5'⟩, hl⟩
    · unfold offS
      rw [e5', e4.trans h1, e6']
      simp
      omega
    · rw [e6']
      omega
  · have h6 : offS s = true := by rw [h2]; simp; omega
    have h7 : spendS s = { s with off := true } := by
      unfold spendS
      rw [h6]
      rfl
    rw [h7] at e4 e5
    refine ⟨e1.trans h.dn, e2.trans h.sn, (hg 0).trans h.g0, (hg 1).trans h.g1, (hg 2).trans h.g2, e4.trans h1, ?_, fun h8 => by omega, hl⟩
    unfold offS
    rw [show t.off = true from e5]
    simp
    omega
theorem Arms.flush {n i : Nat} {s : RA} (h : Arms n i s) : Arms n (i + 1) (flushS s) := by
  have hl := h.len
  unfold flushS
  split
  · exact h.step (spendS_dn s) (spendS_sn s) (spendS_gone s) rfl rfl rfl (by rw [spendS_waits]; omega)
  · exact h.step (spendS_dn s) (spendS_sn s) (spendS_gone s) rfl rfl rfl (Nat.zero_le _)
theorem Arms.write {n i : Nat} {s : RA} (h : Arms n i s) {d a : Int} {b : List UInt8} (hi : inS s d a) (hg : goneS s d = false) (hb : b.length = 128) : Arms n (i + 1) (writeS s d a b) ∧ writeE s d a b.length = (if offS s = true then 16 else 0) := by
  have hl := h.len
  have he : writeE s d a b.length = (if offS s = true then 16 else 0) := by
    rw [hb]
    simp [writeE, hi, hg]
  refine ⟨?_, he⟩
  unfold writeS
  rw [he]
  by_cases ho : offS s = true
  · rw [if_pos ho, if_neg (by decide), if_pos rfl]
    exact h.step (spendS_dn s) (spendS_sn s) (spendS_gone s) rfl rfl rfl (by rw [spendS_waits]; omega)
  · rw [if_neg ho, if_pos rfl]
    exact h.step (spendS_dn s) (spendS_sn s) (spendS_gone s) rfl rfl rfl (by
      show (s.waits ++ [_]).length ≤ _
      rw [List.length_append]
      simpa using hl)
end Go.Proofs.YtjeldcjchipdgaaDoor
namespace Go.Proofs.YtjeldcjchipdgaaDoor
open Go.RowKit Go.HL
set_option maxRecDepth 100000

theorem loseS_up {s : RA} (h : Up s) (d : Int) (b : Bool) : Up (loseS s d b) := ⟨h.off, h.armed⟩
/-- what is wanted of a sector -/
def wantV (B : Int → List UInt8) (v : Int) : List UInt8 := if 0 < v then B (v - 1) else zeros
/-- the last write to each of forty sectors: one more of it, or nought -/
structure Lasts (B : Int → List UInt8) (L : List Int) (s : RA) : Prop where
  dn : s.dn = 5
  sn : s.sn = 8
  up : Up s
  gone : ∀ d, goneS s d = false
  len : L.length = 40
  held : ∀ d a : Nat, d < 5 → a < 8 → heldS s ((d : Int), (a : Int)) = wantV B (L.getD (d * 8 + a) 0)
  val : ∀ j, 0 ≤ L.getD j 0 ∧ L.getD j 0 ≤ 100000
theorem Lasts.write {B : Int → List UInt8} {L : List Int} {s : RA} (h : Lasts B L s) {d a : Nat} (hd : d < 5) (ha : a < 8) {f : Int} (hf : 0 ≤ f ∧ f < 100000) : Lasts B (L.set (d * 8 + a) (1 + f)) (addS s ((d : Int), (a : Int)) (B f)) := by
  have hlen := h.len
  refine ⟨h.dn, h.sn, addS_up h.up _ _, h.gone, by rw [List.length_set, hlen], fun d2 a2 h2 h3 => ?_, fun j => ?_⟩
  · rw [addS_held, List.getD_eq_getElem?_getD, List.getElem?_set]
    by_cases e : d * 8 + a = d2 * 8 + a2
    · have e1 : d = d2 := by omega
      have e2 : a = a2 := by omega
      subst e1; subst e2
      rw [if_pos rfl, if_pos rfl, if_pos (by omega)]
      show B f = wantV B (1 + f)
      rw [wantV, if_pos (by omega), show 1 + f - 1 = f from by omega]
    · rw [if_neg (fun e2 => e (by injection e2 with e3 e4; have e3' : (d2 : Int) = d := e3; have e4' : (a2 : Int) = a := e4; omega)), if_neg e, h.held d2 a2 h2 h3, List.getD_eq_getElem?_getD]
  · rw [List.getD_eq_getElem?_getD, List.getElem?_set]
    split
    · split
      · show 0 ≤ 1 + f ∧ 1 + f ≤ 100000
        omega
      · show 0 ≤ (0 : Int) ∧ (0 : Int) ≤ 100000
        omega
    · rw [← List.getD_eq_getElem?_getD]
      exact h.val j
end Go.Proofs.YtjeldcjchipdgaaDoor
namespace Go.Proofs.YtjeldcjchipdgaaDoor
open Go.RowKit Go.HL
set_option maxRecDepth 100000

/-! drives that are lost -/
theorem newV_stay {V : Type} (d : Int) (q : Pl) (hq : q.1 ≠ d) : ∀ (n : Nat) (ws : List (Pl × V)), ws.length = n → newV (stay d ws) q = newV ws q
  | 0, ws, h => by
    have : ws = [] := List.eq_nil_of_length_eq_zero h
    subst this
    rfl
  | n + 1, ws, h => by
    obtain ⟨ws', x, rfl⟩ : ∃ ws' x, ws = ws' ++ [x] := by
      refine ⟨ws.dropLast, ws.getLast (by intro e; subst e; cases h), (List.dropLast_concat_getLast _).symm⟩
    have ih := newV_stay d q hq n ws' (by simpa using h)
    have e1 : stay d (ws' ++ [x]) = if x.1.1 = d then stay d ws' else stay d ws' ++ [x] := by
      unfold stay
      rw [List.filter_append]
      by_cases hx : x.1.1 = d <;> simp [hx]
    rw [e1, newV_snoc (b := x.2)]
    split
    · rename_i hx
      rw [ih, if_neg (fun e => hq (by rw [e, hx]))]
    · rw [newV_snoc (b := x.2), ih]
theorem lose_held (s : RA) {d : Int} {b : Bool} {q : Pl} (hq : q.1 ≠ d) : heldS (loseS s d b) q = heldS s q := by
  rw [heldS_eq, heldS_eq, show (loseS s d b).waits = stay d s.waits from rfl, newV_stay d q hq _ _ rfl]
  rfl
theorem lose_slot (s : RA) {d : Int} {b : Bool} {x : Int} (hx : x ≠ d) (a : Nat) : slotU (loseS s d b) x a = slotU s x a := by
  rw [slotU, slotU, lose_held s (q := (x, (a : Int))) hx]
end Go.Proofs.YtjeldcjchipdgaaDoor
namespace Go.Proofs.YtjeldcjchipdgaaDoor
open Go.RowKit Go.HL
set_option maxRecDepth 100000

/-! the ring of slots -/
def ringU (f : Int) : Nat → Nat → UbV
  | 0, _ => ⟨-1, zeroP⟩
  | i + 1, a => if (f + i) % 8 = (a : Int) then ubV (f + i) (f + i) else ringU f i a
theorem ringU_le (f : Int) (hf : 1 ≤ f) (i a : Nat) : (ringU f i a).t < f + i ∧ ((ringU f i a).t = -1 ∨ f ≤ (ringU f i a).t) := by
  induction i with
  | zero => exact ⟨by show (-1 : Int) < f + (0 : Nat); omega, .inl rfl⟩
  | succ i ih =>
    rw [ringU]
    split
    · exact ⟨by show f + (i : Int) < f + ((i + 1 : Nat) : Int); omega, .inr (by show f ≤ f + (i : Int); omega)⟩
    · exact ⟨by omega, ih.2⟩
structure RingI (f : Int) (i : Nat) (s : RA) : Prop where
  dn : s.dn = 3
  sn : s.sn = 9
  up : Up s
  gone : ∀ d, goneS s d = false
  slot : ∀ d a : Nat, d < 3 → slotU s (d : Nat) a = ringU f i a
  len : s.waits.length ≤ 3 * i
theorem RingI.next {f : Int} {i : Nat} {s : RA} (h : RingI f i s) (hf : 1 ≤ f ∧ f + i ≤ 1000000) : RingI f (i + 1) (lwS s (ubV (f + i) (f + i))) ∧ lwN s (ubV (f + i) (f + i)) = 3 ∧ lwE s (ubV (f + i) (f + i)) = 0 := by
  have hE : encE (ubV (f + i) (f + i)) = 0 := ubV_enc (by omega)
  have hW : WfU (ubV (f + i) (f + i)) := ubV_wf (by omega)
  have h8 : 8 < s.sn := by rw [h.sn]; omega
  obtain ⟨f1, f2, f3, f4, f5, f6⟩ := lwS_facts h.up h8 hE
  obtain ⟨-, e2, e3⟩ := lw_up h.up h8 hE
  rw [cntD_all h.gone, h.dn] at e2 e3
  refine ⟨⟨f2.trans h.dn, f3.trans h.sn, f1, fun d => (f4 d).trans (h.gone d), fun d a hd => ?_, ?_⟩, e2, e3⟩
  · rw [lwS_slot h.up h8 hE hW d (by rw [h.dn]; exact hd), h.slot d a hd, ringU]
    by_cases hc : (f + i) % 8 = (a : Int)
    · rw [if_pos ⟨hc.symm, h.gone _⟩, if_pos hc]
    · rw [if_neg (fun x => hc x.1.symm), if_neg hc]
  · have := h.len
    have := h.dn
    omega
theorem RingI.newest {f : Int} {i : Nat} {s : RA} (h : RingI f (i + 1) s) (hf : 1 ≤ f) : nwU s = ubV (f + i) (f + i) ∧ nwE s = 0 := by
  refine newest_is h.up (by rw [h.sn]; omega) (by show 0 < f + (i : Int); omega) ⟨0, by rw [h.dn]; omega, h.gone _, ((f + i) % 8).toNat, by omega, ?_⟩ (fun d hd _ a _ => ?_)
  · rw [h.slot 0 _ (by omega), ringU, if_pos (by omega)]
  · rw [h.slot d a (by rw [← h.dn]; exact hd), ringU]
    split
    · exact ⟨Int.le_refl _, fun _ => rfl⟩
    · have := (ringU_le f hf i a).1
      exact ⟨by show (ringU f i a).t ≤ f + (i : Int); omega, fun h9 => by have h10 : (ringU f i a).t = f + (i : Int) := h9; omega⟩
theorem RingI.slots {f : Int} {i : Nat} {s : RA} (h : RingI f i s) {d : Nat} (hd : d < 3) : slE s (d : Nat) = 0 ∧ (slL s (d : Nat)).length = 8 ∧ ∀ a, a < 8 → (slL s (d : Nat))[a]? = some (ringU f i a).t := by
  have e1 : errD s (d : Nat) = 0 := errD_up h.up _ (h.gone _)
  have e2 : slE s (d : Nat) = 0 := by rw [slE, if_pos ⟨by rw [h.sn]; omega, by omega, by rw [h.dn]; omega⟩, e1]
  have e3 : slL s (d : Nat) = (outK s (d : Nat) 8).map (·.t) := by rw [slL, if_pos e2, wholeL, if_pos e1]
  refine ⟨e2, by rw [e3, List.length_map, outK_len], fun a ha => ?_⟩
  rw [e3, List.getElem?_map, outK, List.getElem?_map, List.getElem?_range ha]
  simp only [Option.map_some, ha, if_true]
  rw [h.slot d a hd]
end Go.Proofs.YtjeldcjchipdgaaDoor
namespace Go.Proofs.YtjeldcjchipdgaaDoor
open Go.RowKit Go.HL
set_option maxRecDepth 100000

/-! transactions, each flushed but the last, then a crash -/
theorem puts_or (B : List UInt8) (a : Int) {kp : Nat → Bool} {ws l : List (Pl × List UInt8)} (h : ∀ x ∈ ws, x.1.2 = a ∧ x.2 = B) (q : Pl) : ∀ i, i ≤ ws.length → mget (puts kp ws l i) q = mget l q ∨ (mget (puts kp ws l i) q = some B ∧ q.2 = a) := by
  intro i
  induction i with
  | zero => intro _; exact .inl rfl
  | succ i ih =>
    intro hi
    obtain ⟨x, hx⟩ : ∃ x, ws[i]? = some x := ⟨_, List.getElem?_eq_getElem (by omega)⟩
    rw [mget_puts hx]
    obtain ⟨h1, h2⟩ := h x (List.mem_of_getElem? hx)
    split
    · rename_i hc
      right
      exact ⟨by rw [h2], by rw [hc.2]; exact h1⟩
    · exact ih (by omega)
theorem crash_or {s : RA} {B : List UInt8} {a : Int} (h : ∀ x ∈ s.waits, x.1.2 = a ∧ x.2 = B) (ps : List Int) (q : Pl) : heldS (crashS s ps) q = lastS s q ∨ (heldS (crashS s ps) q = B ∧ q.2 = a) := by
  rw [crash_held]
  rcases puts_or B a (kp := keep ps) (l := s.last) h q s.waits.length (Nat.le_refl _) with h1 | ⟨h1, h2⟩
  · left
    show (mget (puts (keep ps) s.waits s.last s.waits.length) q).getD zeros = _
    rw [h1]
    rfl
  · right
    refine ⟨?_, h2⟩
    show (mget (puts (keep ps) s.waits s.last s.waits.length) q).getD zeros = _
    rw [h1]
    rfl
theorem addAll_waits {s : RA} (h : s.waits = []) (a : Int) (B : List UInt8) (k : Nat) : ∀ x ∈ (addAll s a B k).waits, x.1.2 = a ∧ x.2 = B := by
  induction k with
  | zero =>
    intro x hx
    rw [show addAll s a B 0 = s from rfl, h] at hx
    cases hx
  | succ k ih =>
    intro x hx
    rw [addAll] at hx
    split at hx
    · exact ih x hx
    · rcases List.mem_append.1 (show x ∈ (addAll s a B k).waits ++ [((((k : Nat) : Int), a), B)] from hx) with h1 | h1
      · exact ih x h1
      · rw [List.mem_singleton.1 h1]
        exact ⟨rfl, rfl⟩
/-- behind i transactions, each flushed -/
structure CrI (i : Nat) (s : RA) : Prop where
  dn : s.dn = 6
  sn : s.sn = 10
  up : Up s
  gone : ∀ d, goneS s d = false
  slot : ∀ d a : Nat, d < 6 → slotU s (d : Nat) a = ringU 1 i a
  wait : s.waits = []
theorem CrI.write {i : Nat} {s : RA} (h : CrI i s) (hi : i ≤ 1000) : lwN s (ubV (1 + i) (1 + i)) = 6 ∧ lwE s (ubV (1 + i) (1 + i)) = 0 := by
  have hE : encE (ubV (1 + i) (1 + i)) = 0 := ubV_enc (by omega)
  obtain ⟨-, e2, e3⟩ := lw_up h.up (by rw [h.sn]; omega) hE
  rw [cntD_all h.gone, h.dn] at e2 e3
  exact ⟨e2, e3⟩
theorem CrI.next {i : Nat} {s : RA} (h : CrI i s) (hi : i ≤ 1000) : Up (lwS s (ubV (1 + i) (1 + i))) ∧ CrI (i + 1) (allS (lwS s (ubV (1 + i) (1 + i)))) := by
  have hE : encE (ubV (1 + i) (1 + i)) = 0 := ubV_enc (by omega)
  have hW : WfU (ubV (1 + i) (1 + i)) := ubV_wf (by omega)
  have h8 : 8 < s.sn := by rw [h.sn]; omega
  obtain ⟨f1, f2, f3, f4, f5, f6⟩ := lwS_facts h.up h8 hE
  refine ⟨f1, f2.trans h.dn, f3.trans h.sn, allS_up f1, fun d => (f4 d).trans (h.gone d), fun d a hd => ?_, rfl⟩
  rw [slotU, allS_held]
  rw [show (if decEr (heldS (lwS s (ubV (1 + i) (1 + i))) ((d : Int), (a : Int))) = 0 ∧ (decV (heldS (lwS s (ubV (1 + i) (1 + i))) ((d : Int), (a : Int)))).t % 8 = a then decV (heldS (lwS s (ubV (1 + i) (1 + i))) ((d : Int), (a : Int))) else ⟨-1, zeroP⟩) = slotU (lwS s (ubV (1 + i) (1 + i))) (d : Nat) a from rfl]
  rw [lwS_slot h.up h8 hE hW d (by rw [h.dn]; exact hd), h.slot d a hd, ringU]
  by_cases hc : (1 + i : Int) % 8 = (a : Int)
  · rw [if_pos ⟨hc.symm, h.gone _⟩, if_pos hc]
  · rw [if_neg (fun x => hc x.1.symm), if_neg hc]
/-- behind the crash and the loss of some drives -/
structure CrE (c : Nat) (i : Nat) (s : RA) : Prop where
  dn : s.dn = 6
  sn : s.sn = 10
  up : Up s
  left : 6 ≤ cntD s 6 + i
  slot : ∀ d a : Nat, d < 6 → goneS s (d : Nat) = false → slotU s (d : Nat) a = ringU 1 (c + 1) a ∨ (slotU s (d : Nat) a = ringU 1 (c + 2) a)
  wait : s.waits = []
theorem CrI.crash {c : Nat} {s : RA} (h : CrI (c + 1) s) (hc : c ≤ 900) (ps : List Int) : CrE c 0 (crashS (lwS s (ubV (1 + (c + 1 : Nat)) (1 + (c + 1 : Nat)))) ps) := by
  obtain ⟨t, et⟩ : ∃ t : Int, t = 1 + ((c + 1 : Nat) : Int) := ⟨_, rfl⟩
  rw [← et]
  have hE : encE (ubV t t) = 0 := ubV_enc (by omega)
  have hW : WfU (ubV t t) := ubV_wf (by omega)
  have h8 : 8 < s.sn := by rw [h.sn]; omega
  obtain ⟨f1, f2, f3, f4, f5, f6⟩ := lwS_facts h.up h8 hE
  obtain ⟨e1, -, -⟩ := lw_up h.up h8 hE
  have hg : ∀ d, goneS (crashS (lwS s (ubV t t)) ps) d = false := fun d => (f4 d).trans (h.gone d)
  refine ⟨f2.trans h.dn, f3.trans h.sn, crash_up _ _, by rw [cntD_all hg]; omega, fun d a hd _ => ?_, rfl⟩
  have hws : ∀ x ∈ (lwS s (ubV t t)).waits, x.1.2 = (ubV t t).t % 8 ∧ x.2 = encB (ubV t t) := by rw [e1]; exact addAll_waits h.wait _ _ _
  have hlast : lastS (lwS s (ubV t t)) ((d : Int), (a : Int)) = heldS s ((d : Int), (a : Int)) := by
    rw [heldS_none h.wait, lastS, lastS, f5]
  rcases crash_or hws ps ((d : Int), (a : Int)) with h1 | ⟨h1, h2⟩
  · left
    rw [slotU, h1, hlast]
    exact h.slot d a hd
  · right
    have ha : (ubV t t).t % 8 = (a : Int) := h2.symm
    rw [slot_enc h1 hE hW ha, ringU, if_pos (by show (1 + ((c + 1 : Nat) : Int)) % 8 = a; rw [← et]; exact ha), ← et]
theorem cntD_lose {s : RA} (hok : s.ok) {d : Int} (hd : isS s d) : ∀ k : Nat, cntD s k ≤ cntD (loseS s d true) k + (if d < (k : Int) then 1 else 0)
  | 0 => by simp [cntD]
  | k + 1 => by
    have ih := cntD_lose hok hd k
    have h0 := hd.1
    rw [cntD, cntD, loseS_gone hok hd true (by omega)]
    by_cases hk : ((k : Nat) : Int) = d
    · have e1 : ¬ d < (k : Int) := by omega
      have e2 : d < ((k + 1 : Nat) : Int) := by omega
      rw [if_neg e1] at ih
      rw [if_pos hk, if_pos rfl, if_pos e2]
      split <;> omega
    · rw [if_neg hk]
      by_cases h3 : d < (k : Int)
      · have e2 : d < ((k + 1 : Nat) : Int) := by omega
        rw [if_pos h3] at ih
        rw [if_pos e2]
        split <;> omega
      · have e2 : ¬ d < ((k + 1 : Nat) : Int) := by omega
        rw [if_neg h3] at ih
        rw [if_neg e2]
        split <;> omega
theorem CrE.lose {c i : Nat} {s : RA} (h : CrE c i s) (hok : s.ok) {d : Int} (hd : 0 ≤ d ∧ d < 6) : CrE c (i + 1) (loseS s d true) := by
  have his : isS s d := ⟨hd.1, by rw [h.dn]; omega⟩
  have h1 := cntD_lose hok his 6
  have h2 := h.left
  refine ⟨h.dn, h.sn, loseS_up h.up _ _, by split at h1 <;> omega, fun x a hx hg => ?_, ?_⟩
  · rw [loseS_gone hok his true (by omega)] at hg
    split at hg
    · cases hg
    · rename_i hne
      rw [lose_slot s hne]
      exact h.slot x a hx hg
  · show stay d s.waits = []
    rw [h.wait]
    rfl
theorem cntD_some {s : RA} : ∀ k, 0 < cntD s k → ∃ d, d < k ∧ goneS s (d : Nat) = false
  | 0, h => by simp [cntD] at h
  | k + 1, h => by
    rw [cntD] at h
    cases hg : goneS s (k : Nat) with
    | false => exact ⟨k, by omega, hg⟩
    | true =>
      rw [if_pos hg] at h
      obtain ⟨d, h1, h2⟩ := cntD_some k h
      exact ⟨d, by omega, h2⟩
theorem ringU_top (c a : Nat) : ringU 1 (c + 1) a = (if (1 + c : Int) % 8 = a then ubV (1 + c) (1 + c) else ringU 1 c a) := rfl
theorem CrE.newest {c i : Nat} {s : RA} (h : CrE c i s) (hi : i ≤ 5) : nwE s = 0 ∧ (nwU s = ubV (c + 2) (c + 2) ∨ nwU s = ubV (c + 1) (c + 1)) := by
  have h8 : 8 < s.sn := by rw [h.sn]; omega
  obtain ⟨d0, hd0, hg0⟩ := cntD_some (s := s) 6 (by have := h.left; omega)
  have hle : ∀ a : Nat, (ringU 1 (c + 1) a).t < 1 + ((c + 1 : Nat) : Int) := fun a => (ringU_le 1 (by omega) (c + 1) a).1
  by_cases hx : ∃ d, d < 6 ∧ goneS s (d : Nat) = false ∧ ∃ a, a < 8 ∧ slotU s (d : Nat) a = ubV (c + 2) (c + 2)
  · obtain ⟨n1, n2⟩ := newest_is h.up h8 (u := ubV (c + 2) (c + 2)) (by show (0 : Int) < c + 2; omega) (by rw [h.dn]; exact hx) (fun d hd hg a ha => by
      rw [h.dn] at hd
      have h3 := hle a
      have hx2 : slotU s (d : Nat) a = ubV (c + 2) (c + 2) ∨ slotU s (d : Nat) a = ringU 1 (c + 1) a := by
        rcases h.slot d a hd hg with h1 | h1
        · exact .inr h1
        · rw [ringU_top] at h1
          split at h1
          · left
            rw [h1, show (1 + ((c + 1 : Nat) : Int)) = c + 2 from by omega]
          · exact .inr h1
      rcases hx2 with h1 | h1
      · rw [h1]
        exact ⟨Int.le_refl _, fun _ => rfl⟩
      · rw [h1]
        exact ⟨by show _ ≤ (c : Int) + 2; omega, fun h9 => by have h10 : (ringU 1 (c + 1) a).t = (c : Int) + 2 := h9; omega⟩)
    exact ⟨n2, .inl n1⟩
  · have hold : ∀ d a : Nat, d < 6 → goneS s (d : Nat) = false → a < 8 → slotU s (d : Nat) a = ringU 1 (c + 1) a := by
      intro d a hd hg ha
      rcases h.slot d a hd hg with h1 | h1
      · exact h1
      · rw [ringU_top] at h1
        split at h1
        · exact absurd ⟨d, hd, hg, a, ha, by rw [h1, show (1 + ((c + 1 : Nat) : Int)) = c + 2 from by omega]⟩ hx
        · exact h1
    obtain ⟨n1, n2⟩ := newest_is h.up h8 (u := ubV (c + 1) (c + 1)) (by show (0 : Int) < c + 1; omega) ⟨d0, by rw [h.dn]; exact hd0, hg0, ((1 + c : Int) % 8).toNat, by omega, by
        rw [hold d0 _ hd0 hg0 (by omega), ringU_top, if_pos (by omega), show (1 + (c : Int)) = c + 1 from by omega]⟩ (fun d hd hg a ha => by
      rw [h.dn] at hd
      rw [hold d a hd hg ha, ringU_top]
      have h3 := (ringU_le 1 (by omega) c a).1
      split
      · rw [show (1 + (c : Int)) = c + 1 from by omega]
        exact ⟨Int.le_refl _, fun _ => rfl⟩
      · exact ⟨by show _ ≤ (c : Int) + 1; omega, fun h9 => by have h10 : (ringU 1 c a).t = (c : Int) + 1 := h9; omega⟩)
    exact ⟨n2, .inr n1⟩
end Go.Proofs.YtjeldcjchipdgaaDoor
namespace Go.Proofs.YtjeldcjchipdgaaDoor
open Go.RowKit Go.HL
set_option maxRecDepth 100000

set_option maxHeartbeats 4000000 in
theorem labelCrashes_calls {w : World} {a1 a2 : Option Addr} {c1 c2 : Nat} {l1 l2 : List Int} (x0 : Int) (hp : RSl (· < w.heap.size) w ei a1 c1 l1) (hf : RSl (· < w.heap.size) w ei a2 c2 l2) (hl1 : l1.length * 8 ≤ 140737488351232) :
    Calls Tryd.prog 5 [vi x0, .slice a1 l1.length c1, .slice a2 l2.length c2].toArray w (Ret fun v w' => v = .bool true ∧ Chg Nob w w') := by
  have hw := Chg.refl Nob w
  obtain ⟨s0, sd, sn, u0, sg, sh, -, sw, hNew⟩ := new_all 6 10 (by decide) (by decide)
  obtain ⟨c0, hc0⟩ : ∃ c, c = (B64 x0 % 20).toNat := ⟨_, rfl⟩
  have hc5 : c0 < 20 := by rw [hc0, UInt64.toNat_mod]; exact Nat.mod_lt _ (by decide)
  have hI0 : CrI 0 s0 := ⟨sd, sn, u0, sg, fun d a _ => fresh_slot sh _ _, sw⟩
  refine Calls.of_WC Tryd.func5 rfl Tryd.ntmps5 (by simp) ?_
  refine WC.seq (WC.region (WL.assign rfl rfl (WL.nil (WX.then_normal (WC.seq (WC.seq (WC.region (?_))))))))
  refine WL.call eg_9 rfl rfl (known8_calls _) ?_
  rintro v w1 ⟨rfl, k1⟩
  have zs_k1 := k1.size
  replace hw := hw.pure k1
  replace hp := hp.pure k1
  replace hf := hf.pure k1
  refine WL.not rfl rfl (WL.nil (WX.then_normal (WC.cond_false rfl (WC.skip (WX.then_normal (WC.seq (WC.region (?_))))))))
  refine WL.call eg_15 rfl rfl (hNew _) ?_
  rintro v w2 ⟨⟨R, rfl, hR⟩, k2⟩
  replace hR := hR.mono (A' := (w.heap.size ≤ ·)) (fun x hx => by have := hw.size; omega)
  have zs_k2 := k2.size
  replace hw := hw.pure k2
  replace hp := hp.pure k2
  replace hf := hf.pure k2
  refine WL.move rfl rfl (WL.extract rfl rfl rfl (WL.extract rfl rfl rfl (WL.assign rfl rfl (WL.assign rfl rfl (WL.nil (WX.then_normal (WC.seq (?_))))))))
  refine WC.seq (WC.region (WL.move rfl rfl (?_)))
  refine WL.neqF rfl rfl rfl (by first | rfl | omega | decide) ?_
  refine WL.nil (WX.then_normal (WC.cond_false rfl (WC.skip (WX.then_normal (WC.seq (WC.region (WL.move rfl rfl (?_))))))))
  refine WL.c_i64_u64 Tryd.underlying3 Tryd.underlying44 rfl rfl (WL.num rfl rfl (n_rem64 _ _ _ 20 (by decide)) rfl (?_))
  refine WL.c_u64_i64s (n := c0) Tryd.underlying44 Tryd.underlying3 rfl ⟨hc0.symm, by omega⟩ rfl ?_
  refine WL.add64 rfl rfl (by constructor <;> omega) rfl ?_
  refine WL.assign rfl rfl (WL.nil (WX.then_normal (WC.seq (WC.seq (WC.region (WL.assign rfl rfl (WL.nil (?_))))))))
  refine WX.then_normal (WC.block (?_))
  refine WC.loop (σ := Nat) (fun i => [(0, vi (2 + (c0 : Int))), (1, .slice a1 l1.length c1), (2, .slice a2 l2.length c2), (7, ptr R), (9, vi (1 + (i : Int)))])
    (fun i w' => i ≤ c0 + 2 ∧ Chg Nob w w' ∧ RSl (· < w.heap.size) w' ei a1 c1 l1 ∧ RSl (· < w.heap.size) w' ei a2 c2 l2 ∧ ∃ s : RA, (if i = c0 + 2 then CrE c0 0 (crashS s l1) ∧ s.waits.length ≤ 6 else CrI i s) ∧ RK (w.heap.size ≤ ·) w' R s) (fun i => c0 + 2 - i) 0 ⟨rfl, rfl, rfl, rfl, rfl, trivial⟩
    ⟨Nat.zero_le _, hw, hp, hf, _, by rw [if_neg (by omega)]; exact hI0, hR⟩ ?_
  clear hw hR hI0 hp hf
  rintro i w5 ⟨hi, hw, hp, hf, s, hI, hR⟩
  have zw := hw.size
  refine WC.seq (WC.seq (WC.region (WL.move rfl rfl (WL.move rfl rfl (?_)))))
  refine WL.leq? rfl rfl rfl (fun h29 => ?_) (fun h29 => ?_)
  ·
    refine WL.nil (WX.then_normal (WC.cond_true rfl (WC.skip (WX.then_normal (WC.seq (WC.block (WC.seq (?_))))))))
    refine WC.region (WL.move rfl rfl (WL.move rfl rfl (WL.move rfl rfl (?_))))
    rw [if_neg (by omega)] at hI
    refine WL.call eg_17 rfl rfl (lptr_calls (1 + i) (by omega) _) ?_
    rintro v w3 ⟨rfl, k3⟩
    have zs_k3 := k3.size
    replace hw := hw.pure k3
    replace hR := hR.pure k3
    replace hp := hp.pure k3
    replace hf := hf.pure k3
    refine WL.bld rfl (bld_25_0_1 _ _ _ _ _) rfl (?_)
    obtain ⟨r2, r3⟩ := hI.write (by omega)
    have hwt := hI.wait
    refine WL.call eg_16 rfl rfl (lWrite_calls hR (ubV (1 + i) (1 + i)) (ubV_wf (by omega)) (by rw [hwt]; exact Nat.zero_le _)) ?_
    rintro v w4 ⟨rfl, hR4, k4⟩
    rw [r2, r3]
    replace hR4 := hR4.mono (A' := (w.heap.size ≤ ·)) (fun x hx => by have := hw.size; omega)
    have zs_k4 := k4.size
    replace hw := hw.chg k4 (by first | (intro x h1 h2; exact h2) | (intro x h0 h1 h2; exact hS x h1 h2) | (intro x h0 h1 h2; have h3 : _ = _ := h2; subst h3; exact hSR h1.1) | (intro x h1 h2; have h3 : _ = _ := h2; subst h3; assumption) | (intro x h1 h2; have h3 : _ = _ := h2; exfalso; omega) | (intro b h1 h2 h3; have h4 : _ = _ := h3; (try dsimp only at h2); exfalso; omega) | (intro h1; have h2 : _ = _ := h1; exfalso; omega) | (intro h1; have h2 : _ ≤ _ := h1; exfalso; omega) | (intros; exfalso; (try dsimp only at *); omega) | (intro b h1 h2 h3; exfalso; have h4 := h3.2; (try dsimp only at *); omega) | (intro h1; exfalso; have h4 := h1.2; (try dsimp only at *); omega) | (intro x h1 h2; exfalso; have h4 := h2.2; (try dsimp only at *); omega) | (intro x h1 h2; exact ⟨_, rfl, h2⟩) | (intro x h1 h2; have h4 := h2.1; have h5 := h2.2; exfalso; omega) | (intro x h1 h2; exact h2.1) | (intro x h1 h2; rcases h2.1 with h3 | h3; exact h3; exfalso; omega) | (intro x h1 h2; rcases h2 with h3 | h3; exact h3; exfalso; omega))
    replace hp := hp.chg k4 (by first | (intro x h1 h2; exact h2) | (intro x h0 h1 h2; exact hS x h1 h2) | (intro x h0 h1 h2; have h3 : _ = _ := h2; subst h3; exact hSR h1.1) | (intro x h1 h2; have h3 : _ = _ := h2; subst h3; assumption) | (intro x h1 h2; have h3 : _ = _ := h2; exfalso; omega) | (intro b h1 h2 h3; have h4 : _ = _ := h3; (try dsimp only at h2); exfalso; omega) | (intro h1; have h2 : _ = _ := h1; exfalso; omega) | (intro h1; have h2 : _ ≤ _ := h1; exfalso; omega) | (intros; exfalso; (try dsimp only at *); omega) | (intro b h1 h2 h3; exfalso; have h4 := h3.2; (try dsimp only at *); omega) | (intro h1; exfalso; have h4 := h1.2; (try dsimp only at *); omega) | (intro x h1 h2; exfalso; have h4 := h2.2; (try dsimp only at *); omega) | (intro x h1 h2; exact ⟨_, rfl, h2⟩) | (intro x h1 h2; have h4 := h2.1; have h5 := h2.2; exfalso; omega) | (intro x h1 h2; exact h2.1) | (intro x h1 h2; rcases h2.1 with h3 | h3; exact h3; exfalso; omega) | (intro x h1 h2; rcases h2 with h3 | h3; exact h3; exfalso; omega))
    replace hf := hf.chg k4 (by first | (intro x h1 h2; exact h2) | (intro x h0 h1 h2; exact hS x h1 h2) | (intro x h0 h1 h2; have h3 : _ = _ := h2; subst h3; exact hSR h1.1) | (intro x h1 h2; have h3 : _ = _ := h2; subst h3; assumption) | (intro x h1 h2; have h3 : _ = _ := h2; exfalso; omega) | (intro b h1 h2 h3; have h4 : _ = _ := h3; (try dsimp only at h2); exfalso; omega) | (intro h1; have h2 : _ = _ := h1; exfalso; omega) | (intro h1; have h2 : _ ≤ _ := h1; exfalso; omega) | (intros; exfalso; (try dsimp only at *); omega) | (intro b h1 h2 h3; exfalso; have h4 := h3.2; (try dsimp only at *); omega) | (intro h1; exfalso; have h4 := h1.2; (try dsimp only at *); omega) | (intro x h1 h2; exfalso; have h4 := h2.2; (try dsimp only at *); omega) | (intro x h1 h2; exact ⟨_, rfl, h2⟩) | (intro x h1 h2; have h4 := h2.1; have h5 := h2.2; exfalso; omega) | (intro x h1 h2; exact h2.1) | (intro x h1 h2; rcases h2.1 with h3 | h3; exact h3; exfalso; omega) | (intro x h1 h2; rcases h2 with h3 | h3; exact h3; exfalso; omega))
    refine WL.move rfl rfl (WL.extract rfl rfl rfl (WL.extract rfl rfl rfl (WL.assign rfl rfl (WL.assign rfl rfl (WL.nil (WX.then_normal (WC.seq (?_))))))))
    refine WC.region (WL.move rfl rfl (?_))
    refine WL.neqF rfl rfl rfl (rfl) ?_
    refine WL.move rfl rfl (WL.want rfl rfl rfl (WL.move rfl rfl (WL.want rfl rfl rfl (?_))))
    refine WL.neqF rfl rfl rfl (rfl) ?_
    refine WL.pickF rfl rfl rfl (WL.move rfl rfl (WL.want rfl rfl rfl (WL.move rfl rfl (WL.want rfl rfl rfl (WL.move rfl rfl (WL.want rfl rfl rfl (?_)))))))
    refine WL.lss? rfl rfl rfl (fun h50 => ?_) (fun h50 => ?_)
    ·
      refine WL.want rfl rfl rfl (WL.move rfl rfl (WL.want rfl rfl rfl (WL.move rfl rfl (WL.want rfl rfl rfl (?_)))))
      obtain ⟨n1, n2⟩ := hI.next (by omega)
      refine WL.call eg_18 rfl rfl (FlushU hR4 n1) ?_
      rintro v w6 ⟨rfl, hR6, k6⟩
      have zs_k6 := k6.size
      replace hw := hw.chg k6 (by first | (intro x h1 h2; exact h2) | (intro x h0 h1 h2; exact hS x h1 h2) | (intro x h0 h1 h2; have h3 : _ = _ := h2; subst h3; exact hSR h1.1) | (intro x h1 h2; have h3 : _ = _ := h2; subst h3; assumption) | (intro x h1 h2; have h3 : _ = _ := h2; exfalso; omega) | (intro b h1 h2 h3; have h4 : _ = _ := h3; (try dsimp only at h2); exfalso; omega) | (intro h1; have h2 : _ = _ := h1; exfalso; omega) | (intro h1; have h2 : _ ≤ _ := h1; exfalso; omega) | (intros; exfalso; (try dsimp only at *); omega) | (intro b h1 h2 h3; exfalso; have h4 := h3.2; (try dsimp only at *); omega) | (intro h1; exfalso; have h4 := h1.2; (try dsimp only at *); omega) | (intro x h1 h2; exfalso; have h4 := h2.2; (try dsimp only at *); omega) | (intro x h1 h2; exact ⟨_, rfl, h2⟩) | (intro x h1 h2; have h4 := h2.1; have h5 := h2.2; exfalso; omega) | (intro x h1 h2; exact h2.1) | (intro x h1 h2; rcases h2.1 with h3 | h3; exact h3; exfalso; omega) | (intro x h1 h2; rcases h2 with h3 | h3; exact h3; exfalso; omega))
      replace hp := hp.chg k6 (by first | (intro x h1 h2; exact h2) | (intro x h0 h1 h2; exact hS x h1 h2) | (intro x h0 h1 h2; have h3 : _ = _ := h2; subst h3; exact hSR h1.1) | (intro x h1 h2; have h3 : _ = _ := h2; subst h3; assumption) | (intro x h1 h2; have h3 : _ = _ := h2; exfalso; omega) | (intro b h1 h2 h3; have h4 : _ = _ := h3; (try dsimp only at h2); exfalso; omega) | (intro h1; have h2 : _ = _ := h1; exfalso; omega) | (intro h1; have h2 : _ ≤ _ := h1; exfalso; omega) | (intros; exfalso; (try dsimp only at *); omega) | (intro b h1 h2 h3; exfalso; have h4 := h3.2; (try dsimp only at *); omega) | (intro h1; exfalso; have h4 := h1.2; (try dsimp only at *); omega) | (intro x h1 h2; exfalso; have h4 := h2.2; (try dsimp only at *); omega) | (intro x h1 h2; exact ⟨_, rfl, h2⟩) | (intro x h1 h2; have h4 := h2.1; have h5 := h2.2; exfalso; omega) | (intro x h1 h2; exact h2.1) | (intro x h1 h2; rcases h2.1 with h3 | h3; exact h3; exfalso; omega) | (intro x h1 h2; rcases h2 with h3 | h3; exact h3; exfalso; omega))
      replace hf := hf.chg k6 (by first | (intro x h1 h2; exact h2) | (intro x h0 h1 h2; exact hS x h1 h2) | (intro x h0 h1 h2; have h3 : _ = _ := h2; subst h3; exact hSR h1.1) | (intro x h1 h2; have h3 : _ = _ := h2; subst h3; assumption) | (intro x h1 h2; have h3 : _ = _ := h2; exfalso; omega) | (intro b h1 h2 h3; have h4 : _ = _ := h3; (try dsimp only at h2); exfalso; omega) | (intro h1; have h2 : _ = _ := h1; exfalso; omega) | (intro h1; have h2 : _ ≤ _ := h1; exfalso; omega) | (intros; exfalso; (try dsimp only at *); omega) | (intro b h1 h2 h3; exfalso; have h4 := h3.2; (try dsimp only at *); omega) | (intro h1; exfalso; have h4 := h1.2; (try dsimp only at *); omega) | (intro x h1 h2; exfalso; have h4 := h2.2; (try dsimp only at *); omega) | (intro x h1 h2; exact ⟨_, rfl, h2⟩) | (intro x h1 h2; have h4 := h2.1; have h5 := h2.2; exfalso; omega) | (intro x h1 h2; exact h2.1) | (intro x h1 h2; rcases h2.1 with h3 | h3; exact h3; exfalso; omega) | (intro x h1 h2; rcases h2 with h3 | h3; exact h3; exfalso; omega))
      refine WL.want rfl rfl rfl (?_)
      refine WL.neqF rfl rfl rfl (rfl) ?_
      refine WL.want rfl rfl rfl (WL.pickT rfl rfl rfl (WL.pickF rfl rfl rfl (WL.nil (WX.then_normal (WC.cond_false rfl (WC.skip (WX.block_normal (?_))))))))
      refine WX.then_normal (WC.region (WL.move rfl rfl (WL.add64 rfl rfl (by first | omega | (constructor <;> omega)) rfl (WL.assign rfl rfl (WL.nil (?_))))))
      first
        | (have hz : 1 + (i : Int) < 2 + c0 := h50
           refine WX.loop_next (i + 1) ⟨rfl, rfl, rfl, rfl, by show some (vi (1 + (i : Int) + 1)) = some (vi (1 + ((i + 1 : Nat) : Int))); rw [show (1 + ((i + 1 : Nat) : Int)) = 1 + (i : Int) + 1 from by omega], trivial⟩ ⟨by omega, hw, hp, hf, _, by rw [if_neg (by omega)]; exact n2, hR6⟩ (by show _ - _ < _ - _; omega))
        | (have hic : i = c0 + 1 := by omega
           have hcr := CrI.crash (c := c0) (hic ▸ hI) (by omega) l1
           have hlen : (lwS s (ubV (1 + (i : Int)) (1 + (i : Int)))).waits.length ≤ 6 := by
             have h6 := (lwS_facts hI.up (by rw [hI.sn]; omega) (u := ubV (1 + (i : Int)) (1 + (i : Int))) (ubV_enc (by omega))).2.2.2.2.2
             rw [hI.wait, hI.dn] at h6
             simpa using h6
           refine WX.loop_next (i + 1) ⟨rfl, rfl, rfl, rfl, by show some (vi (1 + (i : Int) + 1)) = some (vi (1 + ((i + 1 : Nat) : Int))); rw [show (1 + ((i + 1 : Nat) : Int)) = 1 + (i : Int) + 1 from by omega], trivial⟩ ⟨by omega, hw, hp, hf, _, ?_, hR4⟩ (by show _ - _ < _ - _; omega)
           rw [if_pos (by omega)]
           subst hic
           exact ⟨hcr, hlen⟩)
        | exact WX.loop_next (j + 1) ⟨rfl, rfl, rfl, rfl, trivial⟩ ⟨by omega, hw, hf, _, hI2, hR9⟩ (by show _ - _ < _ - _; omega)
    ·
      refine WL.want rfl rfl rfl (WL.move rfl rfl (WL.pass rfl rfl rfl rfl (WL.pass rfl rfl rfl rfl (WL.pass rfl rfl rfl rfl (WL.want rfl rfl rfl (WL.pickF rfl rfl rfl (WL.pickF rfl rfl rfl (?_))))))))
      refine WL.nil (WX.then_normal (WC.cond_false rfl (WC.skip (WX.block_normal (WX.then_normal (WC.region (WL.move rfl rfl (?_))))))))
      refine WL.add64 rfl rfl (by first | omega | (constructor <;> omega)) rfl (WL.assign rfl rfl (WL.nil (?_)))
      first
        | (have hz : 1 + (i : Int) < 2 + c0 := h50
           refine WX.loop_next (i + 1) ⟨rfl, rfl, rfl, rfl, by show some (vi (1 + (i : Int) + 1)) = some (vi (1 + ((i + 1 : Nat) : Int))); rw [show (1 + ((i + 1 : Nat) : Int)) = 1 + (i : Int) + 1 from by omega], trivial⟩ ⟨by omega, hw, hp, hf, _, by rw [if_neg (by omega)]; exact n2, hR6⟩ (by show _ - _ < _ - _; omega))
        | (have hic : i = c0 + 1 := by omega
           have hcr := CrI.crash (c := c0) (hic ▸ hI) (by omega) l1
           have hlen : (lwS s (ubV (1 + (i : Int)) (1 + (i : Int)))).waits.length ≤ 6 := by
             have h6 := (lwS_facts hI.up (by rw [hI.sn]; omega) (u := ubV (1 + (i : Int)) (1 + (i : Int))) (ubV_enc (by omega))).2.2.2.2.2
             rw [hI.wait, hI.dn] at h6
             simpa using h6
           refine WX.loop_next (i + 1) ⟨rfl, rfl, rfl, rfl, by show some (vi (1 + (i : Int) + 1)) = some (vi (1 + ((i + 1 : Nat) : Int))); rw [show (1 + ((i + 1 : Nat) : Int)) = 1 + (i : Int) + 1 from by omega], trivial⟩ ⟨by omega, hw, hp, hf, _, ?_, hR4⟩ (by show _ - _ < _ - _; omega)
           rw [if_pos (by omega)]
           subst hic
           exact ⟨hcr, hlen⟩)
        | exact WX.loop_next (j + 1) ⟨rfl, rfl, rfl, rfl, trivial⟩ ⟨by omega, hw, hf, _, hI2, hR9⟩ (by show _ - _ < _ - _; omega)
  ·
    refine WL.nil (WX.then_normal (WC.cond_false rfl (WC.exit (WX.then_exit (WX.then_exit (WX.block_here (WX.then_normal (?_))))))))
    refine WC.seq (WC.region (WL.move rfl rfl (?_)))
    replace hR := hR.old
    refine WL.build (e := ei) [] Tryd.underlying40 Tryd.sizeOf3 Tryd.zeroValue3 rfl rfl rfl (by first | (simp [Value.cells]; done) | (simp [Value.cells] <;> rfl) | (simp [Value.cells, eb, ei, es, ebool, e32, e64]; done) | (simp [Value.cells] <;> (repeat' apply And.intro) <;> rfl)) (by decide) rfl ?_
    intro a_hb0 w_hb0 hb0 l_hb0 z_hb0 k_hb0
    have zs_k_hb0 := k_hb0.size
    replace hw := hw.pure k_hb0
    replace hR := hR.pure k_hb0
    replace hp := hp.pure k_hb0
    replace hf := hf.pure k_hb0
    refine WL.move rfl rfl (?_)
    refine WL.append (e := ei) info_3 rfl Tryd.underlying40 rfl rfl hb0 (hp.src Tryd.underlying40) (by (try simp only [List.length_append, List.length_cons, List.length_nil] at *); omega) (by intro b hb; first | (apply hS; omega) | ((try dsimp only); omega)) rfl ?_
    intro a_hb1 c_hb1 w_hb1 hb1 g_hb1 n_hb1
    have z_hb1 := g_hb1.chg.size
    have zs_g_hb1_chg := g_hb1.chg.size
    replace hw := hw.chg g_hb1.chg (by first | (intro x h1 h2; exact h2) | (intro x h0 h1 h2; exact hS x h1 h2) | (intro x h0 h1 h2; have h3 : _ = _ := h2; subst h3; exact hSR h1.1) | (intro x h1 h2; have h3 : _ = _ := h2; subst h3; assumption) | (intro x h1 h2; have h3 : _ = _ := h2; exfalso; omega) | (intro b h1 h2 h3; have h4 : _ = _ := h3; (try dsimp only at h2); exfalso; omega) | (intro h1; have h2 : _ = _ := h1; exfalso; omega) | (intro h1; have h2 : _ ≤ _ := h1; exfalso; omega) | (intros; exfalso; (try dsimp only at *); omega) | (intro b h1 h2 h3; exfalso; have h4 := h3.2; (try dsimp only at *); omega) | (intro h1; exfalso; have h4 := h1.2; (try dsimp only at *); omega) | (intro x h1 h2; exfalso; have h4 := h2.2; (try dsimp only at *); omega) | (intro x h1 h2; exact ⟨_, rfl, h2⟩) | (intro x h1 h2; have h4 := h2.1; have h5 := h2.2; exfalso; omega) | (intro x h1 h2; exact h2.1) | (intro x h1 h2; rcases h2.1 with h3 | h3; exact h3; exfalso; omega) | (intro x h1 h2; rcases h2 with h3 | h3; exact h3; exfalso; omega))
    replace hR := hR.chg g_hb1.chg (by first | (intro x h1 h2; exact h2) | (intro x h0 h1 h2; exact hS x h1 h2) | (intro x h0 h1 h2; have h3 : _ = _ := h2; subst h3; exact hSR h1.1) | (intro x h1 h2; have h3 : _ = _ := h2; subst h3; assumption) | (intro x h1 h2; have h3 : _ = _ := h2; exfalso; omega) | (intro b h1 h2 h3; have h4 : _ = _ := h3; (try dsimp only at h2); exfalso; omega) | (intro h1; have h2 : _ = _ := h1; exfalso; omega) | (intro h1; have h2 : _ ≤ _ := h1; exfalso; omega) | (intros; exfalso; (try dsimp only at *); omega) | (intro b h1 h2 h3; exfalso; have h4 := h3.2; (try dsimp only at *); omega) | (intro h1; exfalso; have h4 := h1.2; (try dsimp only at *); omega) | (intro x h1 h2; exfalso; have h4 := h2.2; (try dsimp only at *); omega) | (intro x h1 h2; exact ⟨_, rfl, h2⟩) | (intro x h1 h2; have h4 := h2.1; have h5 := h2.2; exfalso; omega) | (intro x h1 h2; exact h2.1) | (intro x h1 h2; rcases h2.1 with h3 | h3; exact h3; exfalso; omega) | (intro x h1 h2; rcases h2 with h3 | h3; exact h3; exfalso; omega))
    replace hp := hp.chg g_hb1.chg (by first | (intro x h1 h2; exact h2) | (intro x h0 h1 h2; exact hS x h1 h2) | (intro x h0 h1 h2; have h3 : _ = _ := h2; subst h3; exact hSR h1.1) | (intro x h1 h2; have h3 : _ = _ := h2; subst h3; assumption) | (intro x h1 h2; have h3 : _ = _ := h2; exfalso; omega) | (intro b h1 h2 h3; have h4 : _ = _ := h3; (try dsimp only at h2); exfalso; omega) | (intro h1; have h2 : _ = _ := h1; exfalso; omega) | (intro h1; have h2 : _ ≤ _ := h1; exfalso; omega) | (intros; exfalso; (try dsimp only at *); omega) | (intro b h1 h2 h3; exfalso; have h4 := h3.2; (try dsimp only at *); omega) | (intro h1; exfalso; have h4 := h1.2; (try dsimp only at *); omega) | (intro x h1 h2; exfalso; have h4 := h2.2; (try dsimp only at *); omega) | (intro x h1 h2; exact ⟨_, rfl, h2⟩) | (intro x h1 h2; have h4 := h2.1; have h5 := h2.2; exfalso; omega) | (intro x h1 h2; exact h2.1) | (intro x h1 h2; rcases h2.1 with h3 | h3; exact h3; exfalso; omega) | (intro x h1 h2; rcases h2 with h3 | h3; exact h3; exfalso; omega))
    replace hf := hf.chg g_hb1.chg (by first | (intro x h1 h2; exact h2) | (intro x h0 h1 h2; exact hS x h1 h2) | (intro x h0 h1 h2; have h3 : _ = _ := h2; subst h3; exact hSR h1.1) | (intro x h1 h2; have h3 : _ = _ := h2; subst h3; assumption) | (intro x h1 h2; have h3 : _ = _ := h2; exfalso; omega) | (intro b h1 h2 h3; have h4 : _ = _ := h3; (try dsimp only at h2); exfalso; omega) | (intro h1; have h2 : _ = _ := h1; exfalso; omega) | (intro h1; have h2 : _ ≤ _ := h1; exfalso; omega) | (intros; exfalso; (try dsimp only at *); omega) | (intro b h1 h2 h3; exfalso; have h4 := h3.2; (try dsimp only at *); omega) | (intro h1; exfalso; have h4 := h1.2; (try dsimp only at *); omega) | (intro x h1 h2; exfalso; have h4 := h2.2; (try dsimp only at *); omega) | (intro x h1 h2; exact ⟨_, rfl, h2⟩) | (intro x h1 h2; have h4 := h2.1; have h5 := h2.2; exfalso; omega) | (intro x h1 h2; exact h2.1) | (intro x h1 h2; rcases h2.1 with h3 | h3; exact h3; exfalso; omega) | (intro x h1 h2; rcases h2 with h3 | h3; exact h3; exfalso; omega))
    have hic : i = c0 + 2 := by omega
    rw [if_pos hic] at hI
    obtain ⟨hI1, hI2⟩ := hI
    rw [show ([] ++ l1 : List Int) = l1 from rfl] at hb1 ⊢
    refine WL.call eg_21 rfl rfl (Crash_calls hR hb1.rsl (fun x h1 h2 => by omega)) ?_
    rintro v w7 ⟨rfl, hR7, k7⟩
    replace hR7 := hR7.mono (A' := (w.heap.size ≤ ·)) (fun x hx => hx.1)
    have zs_k7 := k7.size
    replace hw := hw.chg k7 (by first | (intro x h1 h2; exact h2) | (intro x h0 h1 h2; exact hS x h1 h2) | (intro x h0 h1 h2; have h3 : _ = _ := h2; subst h3; exact hSR h1.1) | (intro x h1 h2; have h3 : _ = _ := h2; subst h3; assumption) | (intro x h1 h2; have h3 : _ = _ := h2; exfalso; omega) | (intro b h1 h2 h3; have h4 : _ = _ := h3; (try dsimp only at h2); exfalso; omega) | (intro h1; have h2 : _ = _ := h1; exfalso; omega) | (intro h1; have h2 : _ ≤ _ := h1; exfalso; omega) | (intros; exfalso; (try dsimp only at *); omega) | (intro b h1 h2 h3; exfalso; have h4 := h3.2; (try dsimp only at *); omega) | (intro h1; exfalso; have h4 := h1.2; (try dsimp only at *); omega) | (intro x h1 h2; exfalso; have h4 := h2.2; (try dsimp only at *); omega) | (intro x h1 h2; exact ⟨_, rfl, h2⟩) | (intro x h1 h2; have h4 := h2.1; have h5 := h2.2; exfalso; omega) | (intro x h1 h2; exact h2.1) | (intro x h1 h2; rcases h2.1 with h3 | h3; exact h3; exfalso; omega) | (intro x h1 h2; rcases h2 with h3 | h3; exact h3; exfalso; omega))
    replace hp := hp.chg k7 (by first | (intro x h1 h2; exact h2) | (intro x h0 h1 h2; exact hS x h1 h2) | (intro x h0 h1 h2; have h3 : _ = _ := h2; subst h3; exact hSR h1.1) | (intro x h1 h2; have h3 : _ = _ := h2; subst h3; assumption) | (intro x h1 h2; have h3 : _ = _ := h2; exfalso; omega) | (intro b h1 h2 h3; have h4 : _ = _ := h3; (try dsimp only at h2); exfalso; omega) | (intro h1; have h2 : _ = _ := h1; exfalso; omega) | (intro h1; have h2 : _ ≤ _ := h1; exfalso; omega) | (intros; exfalso; (try dsimp only at *); omega) | (intro b h1 h2 h3; exfalso; have h4 := h3.2; (try dsimp only at *); omega) | (intro h1; exfalso; have h4 := h1.2; (try dsimp only at *); omega) | (intro x h1 h2; exfalso; have h4 := h2.2; (try dsimp only at *); omega) | (intro x h1 h2; exact ⟨_, rfl, h2⟩) | (intro x h1 h2; have h4 := h2.1; have h5 := h2.2; exfalso; omega) | (intro x h1 h2; exact h2.1) | (intro x h1 h2; rcases h2.1 with h3 | h3; exact h3; exfalso; omega) | (intro x h1 h2; rcases h2 with h3 | h3; exact h3; exfalso; omega))
    replace hf := hf.chg k7 (by first | (intro x h1 h2; exact h2) | (intro x h0 h1 h2; exact hS x h1 h2) | (intro x h0 h1 h2; have h3 : _ = _ := h2; subst h3; exact hSR h1.1) | (intro x h1 h2; have h3 : _ = _ := h2; subst h3; assumption) | (intro x h1 h2; have h3 : _ = _ := h2; exfalso; omega) | (intro b h1 h2 h3; have h4 : _ = _ := h3; (try dsimp only at h2); exfalso; omega) | (intro h1; have h2 : _ = _ := h1; exfalso; omega) | (intro h1; have h2 : _ ≤ _ := h1; exfalso; omega) | (intros; exfalso; (try dsimp only at *); omega) | (intro b h1 h2 h3; exfalso; have h4 := h3.2; (try dsimp only at *); omega) | (intro h1; exfalso; have h4 := h1.2; (try dsimp only at *); omega) | (intro x h1 h2; exfalso; have h4 := h2.2; (try dsimp only at *); omega) | (intro x h1 h2; exact ⟨_, rfl, h2⟩) | (intro x h1 h2; have h4 := h2.1; have h5 := h2.2; exfalso; omega) | (intro x h1 h2; exact h2.1) | (intro x h1 h2; rcases h2.1 with h3 | h3; exact h3; exfalso; omega) | (intro x h1 h2; rcases h2 with h3 | h3; exact h3; exfalso; omega))
    refine WL.nil (WX.then_normal (WC.seq (WC.seq (WC.region (WL.assign rfl rfl (WL.nil (WX.then_normal (?_))))))))
    refine WC.block (?_)
    refine WC.loop (σ := Nat) (fun j => [(0, vi (2 + (c0 : Int))), (2, .slice a2 l2.length c2), (7, ptr R), (12, vi (j : Int))])
      (fun j w' => j ≤ 5 ∧ Chg Nob w w' ∧ RSl (· < w.heap.size) w' ei a2 c2 l2 ∧ ∃ s : RA, CrE c0 j s ∧ RK (w.heap.size ≤ ·) w' R s) (fun j => 5 - j) 0 ⟨rfl, rfl, rfl, rfl, trivial⟩
      ⟨Nat.zero_le _, hw, hf, _, hI1, hR7⟩ ?_
    clear hw hR7 hI1 hf hp
    rintro j w8 ⟨hj, hw, hf, s, hI, hR⟩
    have zw := hw.size
    refine WC.seq (WC.seq (WC.region (WL.move rfl rfl (WL.move rfl rfl (WL.len Tryd.underlying40 rfl rfl (?_))))))
    refine WL.lss? rfl rfl rfl (fun h65 => ?_) (fun h65 => ?_)
    ·
      refine WL.move rfl rfl (WL.want rfl rfl rfl (WL.move rfl rfl (WL.want rfl rfl rfl (?_))))
      refine WL.lss? rfl rfl rfl (fun h68 => ?_) (fun h68 => ?_)
      ·
        refine WL.pickT rfl rfl rfl (WL.nil (WX.then_normal (WC.cond_true rfl (WC.skip (WX.then_normal (WC.seq (WC.block (?_))))))))
        refine WC.seq (WC.region (WL.move rfl rfl (WL.move rfl rfl (WL.move rfl rfl (?_)))))
        obtain ⟨f, hx⟩ : ∃ f, l2[j]? = some f := ⟨_, List.getElem?_eq_getElem (by omega)⟩
        obtain ⟨k, hk⟩ : ∃ k, k = (B64 f % 6).toNat := ⟨_, rfl⟩
        have hk5 : k < 6 := by rw [hk, UInt64.toNat_mod]; exact Nat.mod_lt _ (by decide)
        refine WL.indexT Tryd.underlying40 Tryd.sizeOf3 hf rfl rfl ⟨hx, rfl⟩ rfl ?_
        intro b_1 o_1 hc_1
        refine WL.load Tryd.isAgg3 rfl (hc_1 0 _ rfl) rfl (WL.c_i64_u64 Tryd.underlying3 Tryd.underlying44 rfl rfl (WL.num rfl rfl (n_rem64 _ _ _ 6 (by decide)) rfl (?_)))
        refine WL.c_u64_i64s (n := k) Tryd.underlying44 Tryd.underlying3 rfl ⟨hk.symm, by omega⟩ rfl ?_
        have his : isS s (k : Int) := ⟨by omega, by rw [hI.dn]; omega⟩
        have hI2 := hI.lose hR.ok (d := (k : Int)) ⟨by omega, by omega⟩
        refine WL.call eg_22 rfl rfl (LoseU hR his) ?_
        rintro v w9 ⟨rfl, hR9, k9⟩
        have zs_k9 := k9.size
        replace hw := hw.chg k9 (by first | (intro x h1 h2; exact h2) | (intro x h0 h1 h2; exact hS x h1 h2) | (intro x h0 h1 h2; have h3 : _ = _ := h2; subst h3; exact hSR h1.1) | (intro x h1 h2; have h3 : _ = _ := h2; subst h3; assumption) | (intro x h1 h2; have h3 : _ = _ := h2; exfalso; omega) | (intro b h1 h2 h3; have h4 : _ = _ := h3; (try dsimp only at h2); exfalso; omega) | (intro h1; have h2 : _ = _ := h1; exfalso; omega) | (intro h1; have h2 : _ ≤ _ := h1; exfalso; omega) | (intros; exfalso; (try dsimp only at *); omega) | (intro b h1 h2 h3; exfalso; have h4 := h3.2; (try dsimp only at *); omega) | (intro h1; exfalso; have h4 := h1.2; (try dsimp only at *); omega) | (intro x h1 h2; exfalso; have h4 := h2.2; (try dsimp only at *); omega) | (intro x h1 h2; exact ⟨_, rfl, h2⟩) | (intro x h1 h2; have h4 := h2.1; have h5 := h2.2; exfalso; omega) | (intro x h1 h2; exact h2.1) | (intro x h1 h2; rcases h2.1 with h3 | h3; exact h3; exfalso; omega) | (intro x h1 h2; rcases h2 with h3 | h3; exact h3; exfalso; omega))
        replace hf := hf.chg k9 (by first | (intro x h1 h2; exact h2) | (intro x h0 h1 h2; exact hS x h1 h2) | (intro x h0 h1 h2; have h3 : _ = _ := h2; subst h3; exact hSR h1.1) | (intro x h1 h2; have h3 : _ = _ := h2; subst h3; assumption) | (intro x h1 h2; have h3 : _ = _ := h2; exfalso; omega) | (intro b h1 h2 h3; have h4 : _ = _ := h3; (try dsimp only at h2); exfalso; omega) | (intro h1; have h2 : _ = _ := h1; exfalso; omega) | (intro h1; have h2 : _ ≤ _ := h1; exfalso; omega) | (intros; exfalso; (try dsimp only at *); omega) | (intro b h1 h2 h3; exfalso; have h4 := h3.2; (try dsimp only at *); omega) | (intro h1; exfalso; have h4 := h1.2; (try dsimp only at *); omega) | (intro x h1 h2; exfalso; have h4 := h2.2; (try dsimp only at *); omega) | (intro x h1 h2; exact ⟨_, rfl, h2⟩) | (intro x h1 h2; have h4 := h2.1; have h5 := h2.2; exfalso; omega) | (intro x h1 h2; exact h2.1) | (intro x h1 h2; rcases h2.1 with h3 | h3; exact h3; exfalso; omega) | (intro x h1 h2; rcases h2 with h3 | h3; exact h3; exfalso; omega))
        refine WL.neqF rfl rfl rfl (rfl) ?_
        refine WL.nil (WX.then_normal (WC.cond_false rfl (WC.skip (WX.block_normal (WX.then_normal (WC.region (WL.move rfl rfl (?_))))))))
        refine WL.add64 rfl rfl (by first | omega | (constructor <;> omega)) rfl (WL.assign rfl rfl (WL.nil (?_)))
        first
          | (have hz : 1 + (i : Int) < 2 + c0 := h50
             refine WX.loop_next (i + 1) ⟨rfl, rfl, rfl, rfl, by show some (vi (1 + (i : Int) + 1)) = some (vi (1 + ((i + 1 : Nat) : Int))); rw [show (1 + ((i + 1 : Nat) : Int)) = 1 + (i : Int) + 1 from by omega], trivial⟩ ⟨by omega, hw, hp, hf, _, by rw [if_neg (by omega)]; exact n2, hR6⟩ (by show _ - _ < _ - _; omega))
          | (have hic : i = c0 + 1 := by omega
             have hcr := CrI.crash (c := c0) (hic ▸ hI) (by omega) l1
             have hlen : (lwS s (ubV (1 + (i : Int)) (1 + (i : Int)))).waits.length ≤ 6 := by
               have h6 := (lwS_facts hI.up (by rw [hI.sn]; omega) (u := ubV (1 + (i : Int)) (1 + (i : Int))) (ubV_enc (by omega))).2.2.2.2.2
               rw [hI.wait, hI.dn] at h6
               simpa using h6
             refine WX.loop_next (i + 1) ⟨rfl, rfl, rfl, rfl, by show some (vi (1 + (i : Int) + 1)) = some (vi (1 + ((i + 1 : Nat) : Int))); rw [show (1 + ((i + 1 : Nat) : Int)) = 1 + (i : Int) + 1 from by omega], trivial⟩ ⟨by omega, hw, hp, hf, _, ?_, hR4⟩ (by show _ - _ < _ - _; omega)
             rw [if_pos (by omega)]
             subst hic
             exact ⟨hcr, hlen⟩)
          | exact WX.loop_next (j + 1) ⟨rfl, rfl, rfl, rfl, trivial⟩ ⟨by omega, hw, hf, _, hI2, hR9⟩ (by show _ - _ < _ - _; omega)
      ·
        refine WL.pickT rfl rfl rfl (WL.nil (WX.then_normal (WC.cond_false rfl (WC.exit (WX.then_exit (WX.then_exit (WX.block_here (?_))))))))
        refine WX.then_normal (WC.seq (WC.region (WL.move rfl rfl (?_))))
        obtain ⟨n1, n2⟩ := hI.newest (by omega)
        obtain ⟨T, hT, hu⟩ : ∃ T : Int, (T = c0 + 2 ∨ T = c0 + 1) ∧ nwU s = ubV T T := by
          rcases n2 with h | h
          ·
            exact ⟨_, .inl rfl, h⟩
          ·
            exact ⟨_, .inr rfl, h⟩
        refine WL.call eg_20 rfl rfl (lNewest_calls hR) ?_
        rintro v w10 ⟨rfl, k10⟩
        rw [n1, hu]
        have zs_k10 := k10.size
        replace hw := hw.pure k10
        replace hf := hf.pure k10
        rcases hT with hT | hT
        ·
          refine WL.move rfl rfl (WL.extract rfl rfl rfl (WL.extract rfl rfl rfl (?_)))
          refine WL.alloc Tryd.zeroValue25 rfl ?_
          intro g_1 w_1 hge_1 hlt_1 hb_1 k_1
          have zs_k_1 := k_1.size
          replace hw := hw.pure k_1
          replace hf := hf.pure k_1
          refine WL.stores Tryd.sizeOf25 hb_1 rfl rfl (by first | (simp; done) | (simp; omega) | rfl) (by first | exact Enc.one _ _ | (intro u hu; obtain ⟨x, _, rfl⟩ := List.mem_map.1 hu; rfl) | (simp [Value.oneCell']; done) | (simp [Value.oneCell', Value.cells]; done)) (by first | (simp; done) | (simp; omega) | (simp [Value.cells]; done) | (simp [Value.cells]; omega) | exact Nat.le_of_ble_eq_true rfl) rfl ?_
          intro w_2 hs_2 hn_2 k_2
          have zs_k_2 := k_2.size
          replace hw := hw.chg k_2 (by first | (intro x h1 h2; exact h2) | (intro x h0 h1 h2; exact hS x h1 h2) | (intro x h0 h1 h2; have h3 : _ = _ := h2; subst h3; exact hSR h1.1) | (intro x h1 h2; have h3 : _ = _ := h2; subst h3; assumption) | (intro x h1 h2; have h3 : _ = _ := h2; exfalso; omega) | (intro b h1 h2 h3; have h4 : _ = _ := h3; (try dsimp only at h2); exfalso; omega) | (intro h1; have h2 : _ = _ := h1; exfalso; omega) | (intro h1; have h2 : _ ≤ _ := h1; exfalso; omega) | (intros; exfalso; (try dsimp only at *); omega) | (intro b h1 h2 h3; exfalso; have h4 := h3.2; (try dsimp only at *); omega) | (intro h1; exfalso; have h4 := h1.2; (try dsimp only at *); omega) | (intro x h1 h2; exfalso; have h4 := h2.2; (try dsimp only at *); omega) | (intro x h1 h2; exact ⟨_, rfl, h2⟩) | (intro x h1 h2; have h4 := h2.1; have h5 := h2.2; exfalso; omega) | (intro x h1 h2; exact h2.1) | (intro x h1 h2; rcases h2.1 with h3 | h3; exact h3; exfalso; omega) | (intro x h1 h2; rcases h2 with h3 | h3; exact h3; exfalso; omega))
          replace hf := hf.chg k_2 (by first | (intro x h1 h2; exact h2) | (intro x h0 h1 h2; exact hS x h1 h2) | (intro x h0 h1 h2; have h3 : _ = _ := h2; subst h3; exact hSR h1.1) | (intro x h1 h2; have h3 : _ = _ := h2; subst h3; assumption) | (intro x h1 h2; have h3 : _ = _ := h2; exfalso; omega) | (intro b h1 h2 h3; have h4 : _ = _ := h3; (try dsimp only at h2); exfalso; omega) | (intro h1; have h2 : _ = _ := h1; exfalso; omega) | (intro h1; have h2 : _ ≤ _ := h1; exfalso; omega) | (intros; exfalso; (try dsimp only at *); omega) | (intro b h1 h2 h3; exfalso; have h4 := h3.2; (try dsimp only at *); omega) | (intro h1; exfalso; have h4 := h1.2; (try dsimp only at *); omega) | (intro x h1 h2; exfalso; have h4 := h2.2; (try dsimp only at *); omega) | (intro x h1 h2; exact ⟨_, rfl, h2⟩) | (intro x h1 h2; have h4 := h2.1; have h5 := h2.2; exfalso; omega) | (intro x h1 h2; exact h2.1) | (intro x h1 h2; rcases h2.1 with h3 | h3; exact h3; exfalso; omega) | (intro x h1 h2; rcases h2 with h3 | h3; exact h3; exfalso; omega))
          replace hb_1 := hn_2
          refine WL.assign rfl rfl (WL.nil (WX.then_normal (WC.seq (?_))))
          have hb13 := Blk.eqc (cs' := eub.f (ubV T T)) hb_1 rfl
          refine WC.draw (Nob) [0, 1, 2, 3, 4, 5, 6, 7, 8, 9, 10, 11, 12, 13, 14, 15, 16, 17, 18, 19] [20, 21, 22, 23] mixed rfl rfl (fun wd_3 kd_3 zd_3 => ?_)
          have zs_kd_3 := kd_3.size
          replace hw := hw.pure kd_3
          replace hf := hf.pure kd_3
          replace hb13 := hb13.pure kd_3
          apply DQ.step (E' := [(8, _)])
          case ho => rfl
          case hs => exact ⟨rfl, trivial⟩
          case hk => rfl
          case h1 =>
            intro wq_5 kq_5
            refine WL.move rfl rfl (?_)
            refine WL.nil ?_
            exact WX.one ⟨rfl, by first | exact Chg.refl _ _ | assumption⟩
          apply DQ.step (E' := [(87, _)])
          case ho => rfl
          case hs => exact ⟨rfl, trivial⟩
          case hk => rfl
          case h1 =>
            intro wq_6 kq_6
            refine WL.eqlT rfl rfl rfl (rfl) ?_
            refine WL.nil ?_
            exact WX.one ⟨rfl, by first | exact Chg.refl _ _ | assumption⟩
          apply DQ.step (E' := [(88, _)])
          case ho => rfl
          case hs => exact ⟨rfl, trivial⟩
          case hk => rfl
          case h1 =>
            intro wq_7 kq_7
            refine WL.move rfl rfl (?_)
            refine WL.nil ?_
            exact WX.one ⟨rfl, by first | exact Chg.refl _ _ | assumption⟩
          apply DQ.step (E' := [(13, _), (89, _)])
          case ho => rfl
          case hs => exact ⟨rfl, rfl, trivial⟩
          case hk => rfl
          case h1 =>
            intro wq_8 kq_8
            refine WL.want rfl rfl rfl (WL.fieldAddr (fld_25_0) rfl rfl (?_))
            refine WL.nil ?_
            exact WX.one ⟨rfl, by first | exact Chg.refl _ _ | assumption⟩
          apply DQ.step (E' := [(90, _), (89, _)])
          case ho => rfl
          case hs => exact ⟨rfl, rfl, trivial⟩
          case hk => rfl
          case h1 =>
            intro wq_9 kq_9
            have zs_kq_9 := kq_9.size
            replace hw := hw.pure kq_9
            replace hf := hf.pure kq_9
            replace hb13 := hb13.pure kq_9
            refine WL.want rfl rfl rfl (WL.loadB Tryd.isAgg3 hb13 rfl rfl rfl (?_))
            refine WL.nil ?_
            exact WX.one ⟨rfl, by first | exact Chg.refl _ _ | assumption⟩
          apply DQ.step (E' := [(0, _), (89, _)])
          case ho => rfl
          case hs => exact ⟨rfl, rfl, trivial⟩
          case hk => rfl
          case h1 =>
            intro wq_10 kq_10
            refine WL.want rfl rfl rfl (WL.move rfl rfl (?_))
            refine WL.nil ?_
            exact WX.one ⟨rfl, by first | exact Chg.refl _ _ | assumption⟩
          apply DQ.step (E' := [(91, _), (92, _), (89, _)])
          case ho => rfl
          case hs => exact ⟨rfl, rfl, rfl, trivial⟩
          case hk => rfl
          case h1 =>
            intro wq_11 kq_11
            refine WL.want rfl rfl rfl (?_)
            refine WL.eqlT rfl rfl rfl ((by show T = _; omega)) ?_
            refine WL.nil ?_
            exact WX.one ⟨rfl, by first | exact Chg.refl _ _ | assumption⟩
          apply DQ.step (E' := [(93, _), (89, _)])
          case ho => rfl
          case hs => exact ⟨rfl, rfl, trivial⟩
          case hk => rfl
          case h1 =>
            intro wq_12 kq_12
            refine WL.want rfl rfl rfl (WL.move rfl rfl (?_))
            refine WL.nil ?_
            exact WX.one ⟨rfl, by first | exact Chg.refl _ _ | assumption⟩
          apply DQ.step (E' := [(13, _), (94, _)])
          case ho => rfl
          case hs => exact ⟨rfl, rfl, trivial⟩
          case hk => rfl
          case h1 =>
            intro wq_13 kq_13
            refine WL.pass rfl rfl rfl rfl (WL.nil (?_))
            exact WX.one ⟨rfl, by first | exact Chg.refl _ _ | assumption⟩
          apply DQ.step (E' := [(95, _), (94, _)])
          case ho => rfl
          case hs => exact ⟨rfl, rfl, trivial⟩
          case hk => rfl
          case h1 =>
            intro wq_14 kq_14
            have zs_kq_14 := kq_14.size
            replace hw := hw.pure kq_14
            replace hf := hf.pure kq_14
            replace hb13 := hb13.pure kq_14
            refine WL.pass rfl rfl rfl rfl (WL.nil (?_))
            exact WX.one ⟨rfl, by first | exact Chg.refl _ _ | assumption⟩
          apply DQ.step (E' := [(0, _), (94, _)])
          case ho => rfl
          case hs => exact ⟨rfl, rfl, trivial⟩
          case hk => rfl
          case h1 =>
            intro wq_15 kq_15
            refine WL.pass rfl rfl rfl rfl (WL.nil (?_))
            exact WX.one ⟨rfl, by first | exact Chg.refl _ _ | assumption⟩
          apply DQ.step (E' := [(97, _), (94, _)])
          case ho => rfl
          case hs => exact ⟨rfl, rfl, trivial⟩
          case hk => rfl
          case h1 =>
            intro wq_16 kq_16
            refine WL.pass rfl rfl rfl rfl (WL.nil (?_))
            exact WX.one ⟨rfl, by first | exact Chg.refl _ _ | assumption⟩
          apply DQ.step (E' := [(96, _), (98, _), (94, _)])
          case ho => rfl
          case hs => exact ⟨rfl, rfl, rfl, trivial⟩
          case hk => rfl
          case h1 =>
            intro wq_17 kq_17
            refine WL.pass rfl rfl rfl rfl (WL.nil (?_))
            exact WX.one ⟨rfl, by first | exact Chg.refl _ _ | assumption⟩
          apply DQ.step (E' := [(94, _), (99, _), (89, _)])
          case ho => rfl
          case hs => exact ⟨rfl, rfl, rfl, trivial⟩
          case hk => rfl
          case h1 =>
            intro wq_18 kq_18
            refine WL.want rfl rfl rfl (WL.pickT rfl rfl rfl (?_))
            refine WL.nil ?_
            exact WX.one ⟨rfl, by first | exact Chg.refl _ _ | assumption⟩
          apply DQ.step (E' := [(89, _), (100, _)])
          case ho => rfl
          case hs => exact ⟨rfl, rfl, trivial⟩
          case hk => rfl
          case h1 =>
            intro wq_19 kq_19
            refine WL.pickT rfl rfl rfl (?_)
            refine WL.nil ?_
            exact WX.one ⟨rfl, by first | exact Chg.refl _ _ | assumption⟩
          apply DQ.step (E' := [(101, _)])
          case ho => rfl
          case hs => exact ⟨rfl, trivial⟩
          case hk => rfl
          case h1 =>
            intro wq_20 kq_20
            refine WL.move rfl rfl (?_)
            refine WL.nil ?_
            exact WX.one ⟨rfl, by first | exact Chg.refl _ _ | assumption⟩
          apply DQ.step (E' := [(13, _), (102, _)])
          case ho => rfl
          case hs => exact ⟨rfl, rfl, trivial⟩
          case hk => rfl
          case h1 =>
            intro wq_21 kq_21
            refine WL.want rfl rfl rfl (WL.fieldAddr (fld_25_1) rfl rfl (?_))
            refine WL.nil ?_
            exact WX.one ⟨rfl, by first | exact Chg.refl _ _ | assumption⟩
          apply DQ.step (E' := [(103, _), (102, _)])
          case ho => rfl
          case hs => exact ⟨rfl, rfl, trivial⟩
          case hk => rfl
          case h1 =>
            intro wq_22 kq_22
            have zs_kq_22 := kq_22.size
            replace hw := hw.pure kq_22
            replace hf := hf.pure kq_22
            replace hb13 := hb13.pure kq_22
            refine WL.want rfl rfl rfl (?_)
            refine WL.loads (ept.f (ptrV T)) Tryd.isAgg23 Tryd.sizeOf23 rfl (fun j v hj => by rw [Nat.add_comm]; exact hb13.cell hj) rfl rfl ?_
            refine WL.nil ?_
            exact WX.one ⟨rfl, by first | exact Chg.refl _ _ | assumption⟩
          apply DQ.step (E' := [(13, _), (102, _)])
          case ho => rfl
          case hs => exact ⟨rfl, rfl, trivial⟩
          case hk => rfl
          case h1 =>
            intro wq_23 kq_23
            refine WL.want rfl rfl rfl (WL.fieldAddr (fld_25_0) rfl rfl (?_))
            refine WL.nil ?_
            exact WX.one ⟨rfl, by first | exact Chg.refl _ _ | assumption⟩
          apply DQ.step (E' := [(105, _), (102, _)])
          case ho => rfl
          case hs => exact ⟨rfl, rfl, trivial⟩
          case hk => rfl
          case h1 =>
            intro wq_24 kq_24
            have zs_kq_24 := kq_24.size
            replace hw := hw.pure kq_24
            replace hf := hf.pure kq_24
            replace hb13 := hb13.pure kq_24
            refine WL.want rfl rfl rfl (WL.loadB Tryd.isAgg3 hb13 rfl rfl rfl (?_))
            refine WL.nil ?_
            exact WX.one ⟨rfl, by first | exact Chg.refl _ _ | assumption⟩
          refine DQ.done (fun hd_4 => ?_)
          refine DL.step [(106, _), (102, _)] rfl ⟨rfl, rfl, trivial⟩ rfl (fun wq_25 kq_25 => ?_)
          have zs_kq_25 := kq_25.size
          replace hw := hw.pure kq_25
          replace hf := hf.pure kq_25
          replace hb13 := hb13.pure kq_25
          replace hd_4 := hd_4.pure kq_25
          refine WL.want rfl rfl rfl (?_)
          refine WL.call eg_17 rfl rfl (lptr_calls T (by omega) _) ?_
          rintro v w12 ⟨rfl, k12⟩
          have zs_k12 := k12.size
          replace hw := hw.pure k12
          replace hf := hf.pure k12
          replace hb13 := hb13.pure k12
          replace hd_4 := hd_4.pure k12
          refine WL.nil ?_
          refine WX.one ⟨hd_4, ?_⟩
          refine DL.step [(104, _), (107, _), (102, _)] rfl ⟨rfl, rfl, rfl, trivial⟩ rfl (fun wq_26 kq_26 => ?_)
          have zs_kq_26 := kq_26.size
          replace hw := hw.pure kq_26
          replace hf := hf.pure kq_26
          replace hb13 := hb13.pure kq_26
          replace hd_4 := hd_4.pure kq_26
          refine WL.want rfl rfl rfl (?_)
          refine WL.aeql eqg_ptr (eq_ptr (ptrV T) (ptrV T)) rfl rfl rfl ?_
          rw [decide_eq_true (rfl : ptrV T = ptrV T)]
          refine WL.nil ?_
          refine WX.one ⟨hd_4, ?_⟩
          refine DL.step [(102, _), (108, _)] rfl ⟨rfl, rfl, trivial⟩ rfl (fun wq_27 kq_27 => ?_)
          have zs_kq_27 := kq_27.size
          replace hw := hw.pure kq_27
          replace hf := hf.pure kq_27
          replace hb13 := hb13.pure kq_27
          replace hd_4 := hd_4.pure kq_27
          refine WL.pickT rfl rfl rfl (?_)
          refine WL.nil ?_
          refine WX.one ⟨hd_4, ?_⟩
          refine DL.step [(109, _)] rfl ⟨rfl, trivial⟩ rfl (fun wq_28 kq_28 => ?_)
          have zs_kq_28 := kq_28.size
          replace hw := hw.pure kq_28
          replace hf := hf.pure kq_28
          replace hb13 := hb13.pure kq_28
          replace hd_4 := hd_4.pure kq_28
          refine WL.assign rfl rfl (?_)
          refine WL.nil ?_
          refine WX.one ⟨hd_4, ?_⟩
          refine DL.done (fun we_29 ke_29 => ?_)
          have zs_ke_29 := ke_29.size
          replace hw := hw.pure ke_29
          replace hf := hf.pure ke_29
          replace hb13 := hb13.pure ke_29
          replace hd_4 := hd_4.pure ke_29
          refine WX.then_normal (WC.ret (?_))
          refine WX.ret1 (.inl rfl) Tryd.results5 rfl ?_
          exact ⟨_, rfl, rfl, hw⟩
        ·
          refine WL.move rfl rfl (WL.extract rfl rfl rfl (WL.extract rfl rfl rfl (?_)))
          refine WL.alloc Tryd.zeroValue25 rfl ?_
          intro g_1 w_1 hge_1 hlt_1 hb_1 k_1
          have zs_k_1 := k_1.size
          replace hw := hw.pure k_1
          replace hf := hf.pure k_1
          refine WL.stores Tryd.sizeOf25 hb_1 rfl rfl (by first | (simp; done) | (simp; omega) | rfl) (by first | exact Enc.one _ _ | (intro u hu; obtain ⟨x, _, rfl⟩ := List.mem_map.1 hu; rfl) | (simp [Value.oneCell']; done) | (simp [Value.oneCell', Value.cells]; done)) (by first | (simp; done) | (simp; omega) | (simp [Value.cells]; done) | (simp [Value.cells]; omega) | exact Nat.le_of_ble_eq_true rfl) rfl ?_
          intro w_2 hs_2 hn_2 k_2
          have zs_k_2 := k_2.size
          replace hw := hw.chg k_2 (by first | (intro x h1 h2; exact h2) | (intro x h0 h1 h2; exact hS x h1 h2) | (intro x h0 h1 h2; have h3 : _ = _ := h2; subst h3; exact hSR h1.1) | (intro x h1 h2; have h3 : _ = _ := h2; subst h3; assumption) | (intro x h1 h2; have h3 : _ = _ := h2; exfalso; omega) | (intro b h1 h2 h3; have h4 : _ = _ := h3; (try dsimp only at h2); exfalso; omega) | (intro h1; have h2 : _ = _ := h1; exfalso; omega) | (intro h1; have h2 : _ ≤ _ := h1; exfalso; omega) | (intros; exfalso; (try dsimp only at *); omega) | (intro b h1 h2 h3; exfalso; have h4 := h3.2; (try dsimp only at *); omega) | (intro h1; exfalso; have h4 := h1.2; (try dsimp only at *); omega) | (intro x h1 h2; exfalso; have h4 := h2.2; (try dsimp only at *); omega) | (intro x h1 h2; exact ⟨_, rfl, h2⟩) | (intro x h1 h2; have h4 := h2.1; have h5 := h2.2; exfalso; omega) | (intro x h1 h2; exact h2.1) | (intro x h1 h2; rcases h2.1 with h3 | h3; exact h3; exfalso; omega) | (intro x h1 h2; rcases h2 with h3 | h3; exact h3; exfalso; omega))
          replace hf := hf.chg k_2 (by first | (intro x h1 h2; exact h2) | (intro x h0 h1 h2; exact hS x h1 h2) | (intro x h0 h1 h2; have h3 : _ = _ := h2; subst h3; exact hSR h1.1) | (intro x h1 h2; have h3 : _ = _ := h2; subst h3; assumption) | (intro x h1 h2; have h3 : _ = _ := h2; exfalso; omega) | (intro b h1 h2 h3; have h4 : _ = _ := h3; (try dsimp only at h2); exfalso; omega) | (intro h1; have h2 : _ = _ := h1; exfalso; omega) | (intro h1; have h2 : _ ≤ _ := h1; exfalso; omega) | (intros; exfalso; (try dsimp only at *); omega) | (intro b h1 h2 h3; exfalso; have h4 := h3.2; (try dsimp only at *); omega) | (intro h1; exfalso; have h4 := h1.2; (try dsimp only at *); omega) | (intro x h1 h2; exfalso; have h4 := h2.2; (try dsimp only at *); omega) | (intro x h1 h2; exact ⟨_, rfl, h2⟩) | (intro x h1 h2; have h4 := h2.1; have h5 := h2.2; exfalso; omega) | (intro x h1 h2; exact h2.1) | (intro x h1 h2; rcases h2.1 with h3 | h3; exact h3; exfalso; omega) | (intro x h1 h2; rcases h2 with h3 | h3; exact h3; exfalso; omega))
          replace hb_1 := hn_2
          refine WL.assign rfl rfl (WL.nil (WX.then_normal (WC.seq (?_))))
          have hb13 := Blk.eqc (cs' := eub.f (ubV T T)) hb_1 rfl
          refine WC.draw (Nob) [0, 1, 2, 3, 4, 5, 6, 7, 8, 9, 10, 11, 12, 13, 14, 15, 16, 17, 18, 19] [20, 21, 22, 23] mixed rfl rfl (fun wd_3 kd_3 zd_3 => ?_)
          have zs_kd_3 := kd_3.size
          replace hw := hw.pure kd_3
          replace hf := hf.pure kd_3
          replace hb13 := hb13.pure kd_3
          apply DQ.step (E' := [(8, _)])
          case ho => rfl
          case hs => exact ⟨rfl, trivial⟩
          case hk => rfl
          case h1 =>
            intro wq_5 kq_5
            refine WL.move rfl rfl (?_)
            refine WL.nil ?_
            exact WX.one ⟨rfl, by first | exact Chg.refl _ _ | assumption⟩
          apply DQ.step (E' := [(87, _)])
          case ho => rfl
          case hs => exact ⟨rfl, trivial⟩
          case hk => rfl
          case h1 =>
            intro wq_6 kq_6
            refine WL.eqlT rfl rfl rfl (rfl) ?_
            refine WL.nil ?_
            exact WX.one ⟨rfl, by first | exact Chg.refl _ _ | assumption⟩
          apply DQ.step (E' := [(88, _)])
          case ho => rfl
          case hs => exact ⟨rfl, trivial⟩
          case hk => rfl
          case h1 =>
            intro wq_7 kq_7
            refine WL.move rfl rfl (?_)
            refine WL.nil ?_
            exact WX.one ⟨rfl, by first | exact Chg.refl _ _ | assumption⟩
          apply DQ.step (E' := [(13, _), (89, _)])
          case ho => rfl
          case hs => exact ⟨rfl, rfl, trivial⟩
          case hk => rfl
          case h1 =>
            intro wq_8 kq_8
            refine WL.want rfl rfl rfl (WL.fieldAddr (fld_25_0) rfl rfl (?_))
            refine WL.nil ?_
            exact WX.one ⟨rfl, by first | exact Chg.refl _ _ | assumption⟩
          apply DQ.step (E' := [(90, _), (89, _)])
          case ho => rfl
          case hs => exact ⟨rfl, rfl, trivial⟩
          case hk => rfl
          case h1 =>
            intro wq_9 kq_9
            have zs_kq_9 := kq_9.size
            replace hw := hw.pure kq_9
            replace hf := hf.pure kq_9
            replace hb13 := hb13.pure kq_9
            refine WL.want rfl rfl rfl (WL.loadB Tryd.isAgg3 hb13 rfl rfl rfl (?_))
            refine WL.nil ?_
            exact WX.one ⟨rfl, by first | exact Chg.refl _ _ | assumption⟩
          apply DQ.step (E' := [(0, _), (89, _)])
          case ho => rfl
          case hs => exact ⟨rfl, rfl, trivial⟩
          case hk => rfl
          case h1 =>
            intro wq_10 kq_10
            refine WL.want rfl rfl rfl (WL.move rfl rfl (?_))
            refine WL.nil ?_
            exact WX.one ⟨rfl, by first | exact Chg.refl _ _ | assumption⟩
          apply DQ.step (E' := [(91, _), (92, _), (89, _)])
          case ho => rfl
          case hs => exact ⟨rfl, rfl, rfl, trivial⟩
          case hk => rfl
          case h1 =>
            intro wq_11 kq_11
            refine WL.want rfl rfl rfl (?_)
            refine WL.eqlF rfl rfl rfl ((by show ¬ T = _; omega)) ?_
            refine WL.nil ?_
            exact WX.one ⟨rfl, by first | exact Chg.refl _ _ | assumption⟩
          apply DQ.step (E' := [(93, _), (89, _)])
          case ho => rfl
          case hs => exact ⟨rfl, rfl, trivial⟩
          case hk => rfl
          case h1 =>
            intro wq_12 kq_12
            refine WL.want rfl rfl rfl (WL.move rfl rfl (?_))
            refine WL.nil ?_
            exact WX.one ⟨rfl, by first | exact Chg.refl _ _ | assumption⟩
          apply DQ.step (E' := [(13, _), (94, _)])
          case ho => rfl
          case hs => exact ⟨rfl, rfl, trivial⟩
          case hk => rfl
          case h1 =>
            intro wq_13 kq_13
            refine WL.want rfl rfl rfl (WL.fieldAddr (fld_25_0) rfl rfl (?_))
            refine WL.nil ?_
            exact WX.one ⟨rfl, by first | exact Chg.refl _ _ | assumption⟩
          apply DQ.step (E' := [(95, _), (94, _)])
          case ho => rfl
          case hs => exact ⟨rfl, rfl, trivial⟩
          case hk => rfl
          case h1 =>
            intro wq_14 kq_14
            have zs_kq_14 := kq_14.size
            replace hw := hw.pure kq_14
            replace hf := hf.pure kq_14
            replace hb13 := hb13.pure kq_14
            refine WL.want rfl rfl rfl (WL.loadB Tryd.isAgg3 hb13 rfl rfl rfl (?_))
            refine WL.nil ?_
            exact WX.one ⟨rfl, by first | exact Chg.refl _ _ | assumption⟩
          apply DQ.step (E' := [(0, _), (94, _)])
          case ho => rfl
          case hs => exact ⟨rfl, rfl, trivial⟩
          case hk => rfl
          case h1 =>
            intro wq_15 kq_15
            refine WL.want rfl rfl rfl (WL.move rfl rfl (?_))
            refine WL.nil ?_
            exact WX.one ⟨rfl, by first | exact Chg.refl _ _ | assumption⟩
          apply DQ.step (E' := [(97, _), (94, _)])
          case ho => rfl
          case hs => exact ⟨rfl, rfl, trivial⟩
          case hk => rfl
          case h1 =>
            intro wq_16 kq_16
            refine WL.want rfl rfl rfl (WL.sub64 rfl rfl (by first | omega | (constructor <;> omega)) rfl (?_))
            refine WL.nil ?_
            exact WX.one ⟨rfl, by first | exact Chg.refl _ _ | assumption⟩
          apply DQ.step (E' := [(96, _), (98, _), (94, _)])
          case ho => rfl
          case hs => exact ⟨rfl, rfl, rfl, trivial⟩
          case hk => rfl
          case h1 =>
            intro wq_17 kq_17
            refine WL.want rfl rfl rfl (?_)
            refine WL.eqlT rfl rfl rfl ((by show T = _; omega)) ?_
            refine WL.nil ?_
            exact WX.one ⟨rfl, by first | exact Chg.refl _ _ | assumption⟩
          apply DQ.step (E' := [(94, _), (99, _), (89, _)])
          case ho => rfl
          case hs => exact ⟨rfl, rfl, rfl, trivial⟩
          case hk => rfl
          case h1 =>
            intro wq_18 kq_18
            refine WL.want rfl rfl rfl (WL.pickF rfl rfl rfl (?_))
            refine WL.nil ?_
            exact WX.one ⟨rfl, by first | exact Chg.refl _ _ | assumption⟩
          apply DQ.step (E' := [(89, _), (100, _)])
          case ho => rfl
          case hs => exact ⟨rfl, rfl, trivial⟩
          case hk => rfl
          case h1 =>
            intro wq_19 kq_19
            refine WL.pickT rfl rfl rfl (?_)
            refine WL.nil ?_
            exact WX.one ⟨rfl, by first | exact Chg.refl _ _ | assumption⟩
          apply DQ.step (E' := [(101, _)])
          case ho => rfl
          case hs => exact ⟨rfl, trivial⟩
          case hk => rfl
          case h1 =>
            intro wq_20 kq_20
            refine WL.move rfl rfl (?_)
            refine WL.nil ?_
            exact WX.one ⟨rfl, by first | exact Chg.refl _ _ | assumption⟩
          apply DQ.step (E' := [(13, _), (102, _)])
          case ho => rfl
          case hs => exact ⟨rfl, rfl, trivial⟩
          case hk => rfl
          case h1 =>
            intro wq_21 kq_21
            refine WL.want rfl rfl rfl (WL.fieldAddr (fld_25_1) rfl rfl (?_))
            refine WL.nil ?_
            exact WX.one ⟨rfl, by first | exact Chg.refl _ _ | assumption⟩
          apply DQ.step (E' := [(103, _), (102, _)])
          case ho => rfl
          case hs => exact ⟨rfl, rfl, trivial⟩
          case hk => rfl
          case h1 =>
            intro wq_22 kq_22
            have zs_kq_22 := kq_22.size
            replace hw := hw.pure kq_22
            replace hf := hf.pure kq_22
            replace hb13 := hb13.pure kq_22
            refine WL.want rfl rfl rfl (?_)
            refine WL.loads (ept.f (ptrV T)) Tryd.isAgg23 Tryd.sizeOf23 rfl (fun j v hj => by rw [Nat.add_comm]; exact hb13.cell hj) rfl rfl ?_
            refine WL.nil ?_
            exact WX.one ⟨rfl, by first | exact Chg.refl _ _ | assumption⟩
          apply DQ.step (E' := [(13, _), (102, _)])
          case ho => rfl
          case hs => exact ⟨rfl, rfl, trivial⟩
          case hk => rfl
          case h1 =>
            intro wq_23 kq_23
            refine WL.want rfl rfl rfl (WL.fieldAddr (fld_25_0) rfl rfl (?_))
            refine WL.nil ?_
            exact WX.one ⟨rfl, by first | exact Chg.refl _ _ | assumption⟩
          apply DQ.step (E' := [(105, _), (102, _)])
          case ho => rfl
          case hs => exact ⟨rfl, rfl, trivial⟩
          case hk => rfl
          case h1 =>
            intro wq_24 kq_24
            have zs_kq_24 := kq_24.size
            replace hw := hw.pure kq_24
            replace hf := hf.pure kq_24
            replace hb13 := hb13.pure kq_24
            refine WL.want rfl rfl rfl (WL.loadB Tryd.isAgg3 hb13 rfl rfl rfl (?_))
            refine WL.nil ?_
            exact WX.one ⟨rfl, by first | exact Chg.refl _ _ | assumption⟩
          refine DQ.done (fun hd_4 => ?_)
          refine DL.step [(106, _), (102, _)] rfl ⟨rfl, rfl, trivial⟩ rfl (fun wq_25 kq_25 => ?_)
          have zs_kq_25 := kq_25.size
          replace hw := hw.pure kq_25
          replace hf := hf.pure kq_25
          replace hb13 := hb13.pure kq_25
          replace hd_4 := hd_4.pure kq_25
          refine WL.want rfl rfl rfl (?_)
          refine WL.call eg_17 rfl rfl (lptr_calls T (by omega) _) ?_
          rintro v w12 ⟨rfl, k12⟩
          have zs_k12 := k12.size
          replace hw := hw.pure k12
          replace hf := hf.pure k12
          replace hb13 := hb13.pure k12
          replace hd_4 := hd_4.pure k12
          refine WL.nil ?_
          refine WX.one ⟨hd_4, ?_⟩
          refine DL.step [(104, _), (107, _), (102, _)] rfl ⟨rfl, rfl, rfl, trivial⟩ rfl (fun wq_26 kq_26 => ?_)
          have zs_kq_26 := kq_26.size
          replace hw := hw.pure kq_26
          replace hf := hf.pure kq_26
          replace hb13 := hb13.pure kq_26
          replace hd_4 := hd_4.pure kq_26
          refine WL.want rfl rfl rfl (?_)
          refine WL.aeql eqg_ptr (eq_ptr (ptrV T) (ptrV T)) rfl rfl rfl ?_
          rw [decide_eq_true (rfl : ptrV T = ptrV T)]
          refine WL.nil ?_
          refine WX.one ⟨hd_4, ?_⟩
          refine DL.step [(102, _), (108, _)] rfl ⟨rfl, rfl, trivial⟩ rfl (fun wq_27 kq_27 => ?_)
          have zs_kq_27 := kq_27.size
          replace hw := hw.pure kq_27
          replace hf := hf.pure kq_27
          replace hb13 := hb13.pure kq_27
          replace hd_4 := hd_4.pure kq_27
          refine WL.pickT rfl rfl rfl (?_)
          refine WL.nil ?_
          refine WX.one ⟨hd_4, ?_⟩
          refine DL.step [(109, _)] rfl ⟨rfl, trivial⟩ rfl (fun wq_28 kq_28 => ?_)
          have zs_kq_28 := kq_28.size
          replace hw := hw.pure kq_28
          replace hf := hf.pure kq_28
          replace hb13 := hb13.pure kq_28
          replace hd_4 := hd_4.pure kq_28
          refine WL.assign rfl rfl (?_)
          refine WL.nil ?_
          refine WX.one ⟨hd_4, ?_⟩
          refine DL.done (fun we_29 ke_29 => ?_)
          have zs_ke_29 := ke_29.size
          replace hw := hw.pure ke_29
          replace hf := hf.pure ke_29
          replace hb13 := hb13.pure ke_29
          replace hd_4 := hd_4.pure ke_29
          refine WX.then_normal (WC.ret (?_))
          refine WX.ret1 (.inl rfl) Tryd.results5 rfl ?_
          exact ⟨_, rfl, rfl, hw⟩
    ·
      refine WL.move rfl rfl (WL.pass rfl rfl rfl rfl (WL.pass rfl rfl rfl rfl (WL.pickF rfl rfl rfl (WL.nil (WX.then_normal (WC.cond_false rfl (WC.exit (?_))))))))
      refine WX.then_exit (WX.then_exit (WX.block_here (WX.then_normal (WC.seq (WC.region (WL.move rfl rfl (?_)))))))
      obtain ⟨n1, n2⟩ := hI.newest (by omega)
      obtain ⟨T, hT, hu⟩ : ∃ T : Int, (T = c0 + 2 ∨ T = c0 + 1) ∧ nwU s = ubV T T := by
        rcases n2 with h | h
        ·
          exact ⟨_, .inl rfl, h⟩
        ·
          exact ⟨_, .inr rfl, h⟩
      refine WL.call eg_20 rfl rfl (lNewest_calls hR) ?_
      rintro v w10 ⟨rfl, k10⟩
      rw [n1, hu]
      have zs_k10 := k10.size
      replace hw := hw.pure k10
      replace hf := hf.pure k10
      rcases hT with hT | hT
      ·
        refine WL.move rfl rfl (WL.extract rfl rfl rfl (WL.extract rfl rfl rfl (?_)))
        refine WL.alloc Tryd.zeroValue25 rfl ?_
        intro g_1 w_1 hge_1 hlt_1 hb_1 k_1
        have zs_k_1 := k_1.size
        replace hw := hw.pure k_1
        replace hf := hf.pure k_1
        refine WL.stores Tryd.sizeOf25 hb_1 rfl rfl (by first | (simp; done) | (simp; omega) | rfl) (by first | exact Enc.one _ _ | (intro u hu; obtain ⟨x, _, rfl⟩ := List.mem_map.1 hu; rfl) | (simp [Value.oneCell']; done) | (simp [Value.oneCell', Value.cells]; done)) (by first | (simp; done) | (simp; omega) | (simp [Value.cells]; done) | (simp [Value.cells]; omega) | exact Nat.le_of_ble_eq_true rfl) rfl ?_
        intro w_2 hs_2 hn_2 k_2
        have zs_k_2 := k_2.size
        replace hw := hw.chg k_2 (by first | (intro x h1 h2; exact h2) | (intro x h0 h1 h2; exact hS x h1 h2) | (intro x h0 h1 h2; have h3 : _ = _ := h2; subst h3; exact hSR h1.1) | (intro x h1 h2; have h3 : _ = _ := h2; subst h3; assumption) | (intro x h1 h2; have h3 : _ = _ := h2; exfalso; omega) | (intro b h1 h2 h3; have h4 : _ = _ := h3; (try dsimp only at h2); exfalso; omega) | (intro h1; have h2 : _ = _ := h1; exfalso; omega) | (intro h1; have h2 : _ ≤ _ := h1; exfalso; omega) | (intros; exfalso; (try dsimp only at *); omega) | (intro b h1 h2 h3; exfalso; have h4 := h3.2; (try dsimp only at *); omega) | (intro h1; exfalso; have h4 := h1.2; (try dsimp only at *); omega) | (intro x h1 h2; exfalso; have h4 := h2.2; (try dsimp only at *); omega) | (intro x h1 h2; exact ⟨_, rfl, h2⟩) | (intro x h1 h2; have h4 := h2.1; have h5 := h2.2; exfalso; omega) | (intro x h1 h2; exact h2.1) | (intro x h1 h2; rcases h2.1 with h3 | h3; exact h3; exfalso; omega) | (intro x h1 h2; rcases h2 with h3 | h3; exact h3; exfalso; omega))
        replace hf := hf.chg k_2 (by first | (intro x h1 h2; exact h2) | (intro x h0 h1 h2; exact hS x h1 h2) | (intro x h0 h1 h2; have h3 : _ = _ := h2; subst h3; exact hSR h1.1) | (intro x h1 h2; have h3 : _ = _ := h2; subst h3; assumption) | (intro x h1 h2; have h3 : _ = _ := h2; exfalso; omega) | (intro b h1 h2 h3; have h4 : _ = _ := h3; (try dsimp only at h2); exfalso; omega) | (intro h1; have h2 : _ = _ := h1; exfalso; omega) | (intro h1; have h2 : _ ≤ _ := h1; exfalso; omega) | (intros; exfalso; (try dsimp only at *); omega) | (intro b h1 h2 h3; exfalso; have h4 := h3.2; (try dsimp only at *); omega) | (intro h1; exfalso; have h4 := h1.2; (try dsimp only at *); omega) | (intro x h1 h2; exfalso; have h4 := h2.2; (try dsimp only at *); omega) | (intro x h1 h2; exact ⟨_, rfl, h2⟩) | (intro x h1 h2; have h4 := h2.1; have h5 := h2.2; exfalso; omega) | (intro x h1 h2; exact h2.1) | (intro x h1 h2; rcases h2.1 with h3 | h3; exact h3; exfalso; omega) | (intro x h1 h2; rcases h2 with h3 | h3; exact h3; exfalso; omega))
        replace hb_1 := hn_2
        refine WL.assign rfl rfl (WL.nil (WX.then_normal (WC.seq (?_))))
        have hb13 := Blk.eqc (cs' := eub.f (ubV T T)) hb_1 rfl
        refine WC.draw (Nob) [0, 1, 2, 3, 4, 5, 6, 7, 8, 9, 10, 11, 12, 13, 14, 15, 16, 17, 18, 19] [20, 21, 22, 23] mixed rfl rfl (fun wd_3 kd_3 zd_3 => ?_)
        have zs_kd_3 := kd_3.size
        replace hw := hw.pure kd_3
        replace hf := hf.pure kd_3
        replace hb13 := hb13.pure kd_3
        apply DQ.step (E' := [(8, _)])
        case ho => rfl
        case hs => exact ⟨rfl, trivial⟩
        case hk => rfl
        case h1 =>
          intro wq_5 kq_5
          refine WL.move rfl rfl (?_)
          refine WL.nil ?_
          exact WX.one ⟨rfl, by first | exact Chg.refl _ _ | assumption⟩
        apply DQ.step (E' := [(87, _)])
        case ho => rfl
        case hs => exact ⟨rfl, trivial⟩
        case hk => rfl
        case h1 =>
          intro wq_6 kq_6
          refine WL.eqlT rfl rfl rfl (rfl) ?_
          refine WL.nil ?_
          exact WX.one ⟨rfl, by first | exact Chg.refl _ _ | assumption⟩
        apply DQ.step (E' := [(88, _)])
        case ho => rfl
        case hs => exact ⟨rfl, trivial⟩
        case hk => rfl
        case h1 =>
          intro wq_7 kq_7
          refine WL.move rfl rfl (?_)
          refine WL.nil ?_
          exact WX.one ⟨rfl, by first | exact Chg.refl _ _ | assumption⟩
        apply DQ.step (E' := [(13, _), (89, _)])
        case ho => rfl
        case hs => exact ⟨rfl, rfl, trivial⟩
        case hk => rfl
        case h1 =>
          intro wq_8 kq_8
          refine WL.want rfl rfl rfl (WL.fieldAddr (fld_25_0) rfl rfl (?_))
          refine WL.nil ?_
          exact WX.one ⟨rfl, by first | exact Chg.refl _ _ | assumption⟩
        apply DQ.step (E' := [(90, _), (89, _)])
        case ho => rfl
        case hs => exact ⟨rfl, rfl, trivial⟩
        case hk => rfl
        case h1 =>
          intro wq_9 kq_9
          have zs_kq_9 := kq_9.size
          replace hw := hw.pure kq_9
          replace hf := hf.pure kq_9
          replace hb13 := hb13.pure kq_9
          refine WL.want rfl rfl rfl (WL.loadB Tryd.isAgg3 hb13 rfl rfl rfl (?_))
          refine WL.nil ?_
          exact WX.one ⟨rfl, by first | exact Chg.refl _ _ | assumption⟩
        apply DQ.step (E' := [(0, _), (89, _)])
        case ho => rfl
        case hs => exact ⟨rfl, rfl, trivial⟩
        case hk => rfl
        case h1 =>
          intro wq_10 kq_10
          refine WL.want rfl rfl rfl (WL.move rfl rfl (?_))
          refine WL.nil ?_
          exact WX.one ⟨rfl, by first | exact Chg.refl _ _ | assumption⟩
        apply DQ.step (E' := [(91, _), (92, _), (89, _)])
        case ho => rfl
        case hs => exact ⟨rfl, rfl, rfl, trivial⟩
        case hk => rfl
        case h1 =>
          intro wq_11 kq_11
          refine WL.want rfl rfl rfl (?_)
          refine WL.eqlT rfl rfl rfl ((by show T = _; omega)) ?_
          refine WL.nil ?_
          exact WX.one ⟨rfl, by first | exact Chg.refl _ _ | assumption⟩
        apply DQ.step (E' := [(93, _), (89, _)])
        case ho => rfl
        case hs => exact ⟨rfl, rfl, trivial⟩
        case hk => rfl
        case h1 =>
          intro wq_12 kq_12
          refine WL.want rfl rfl rfl (WL.move rfl rfl (?_))
          refine WL.nil ?_
          exact WX.one ⟨rfl, by first | exact Chg.refl _ _ | assumption⟩
        apply DQ.step (E' := [(13, _), (94, _)])
        case ho => rfl
        case hs => exact ⟨rfl, rfl, trivial⟩
        case hk => rfl
        case h1 =>
          intro wq_13 kq_13
          refine WL.pass rfl rfl rfl rfl (WL.nil (?_))
          exact WX.one ⟨rfl, by first | exact Chg.refl _ _ | assumption⟩
        apply DQ.step (E' := [(95, _), (94, _)])
        case ho => rfl
        case hs => exact ⟨rfl, rfl, trivial⟩
        case hk => rfl
        case h1 =>
          intro wq_14 kq_14
          have zs_kq_14 := kq_14.size
          replace hw := hw.pure kq_14
          replace hf := hf.pure kq_14
          replace hb13 := hb13.pure kq_14
          refine WL.pass rfl rfl rfl rfl (WL.nil (?_))
          exact WX.one ⟨rfl, by first | exact Chg.refl _ _ | assumption⟩
        apply DQ.step (E' := [(0, _), (94, _)])
        case ho => rfl
        case hs => exact ⟨rfl, rfl, trivial⟩
        case hk => rfl
        case h1 =>
          intro wq_15 kq_15
          refine WL.pass rfl rfl rfl rfl (WL.nil (?_))
          exact WX.one ⟨rfl, by first | exact Chg.refl _ _ | assumption⟩
        apply DQ.step (E' := [(97, _), (94, _)])
        case ho => rfl
        case hs => exact ⟨rfl, rfl, trivial⟩
        case hk => rfl
        case h1 =>
          intro wq_16 kq_16
          refine WL.pass rfl rfl rfl rfl (WL.nil (?_))
          exact WX.one ⟨rfl, by first | exact Chg.refl _ _ | assumption⟩
        apply DQ.step (E' := [(96, _), (98, _), (94, _)])
        case ho => rfl
        case hs => exact ⟨rfl, rfl, rfl, trivial⟩
        case hk => rfl
        case h1 =>
          intro wq_17 kq_17
          refine WL.pass rfl rfl rfl rfl (WL.nil (?_))
          exact WX.one ⟨rfl, by first | exact Chg.refl _ _ | assumption⟩
        apply DQ.step (E' := [(94, _), (99, _), (89, _)])
        case ho => rfl
        case hs => exact ⟨rfl, rfl, rfl, trivial⟩
        case hk => rfl
        case h1 =>
          intro wq_18 kq_18
          refine WL.want rfl rfl rfl (WL.pickT rfl rfl rfl (?_))
          refine WL.nil ?_
          exact WX.one ⟨rfl, by first | exact Chg.refl _ _ | assumption⟩
        apply DQ.step (E' := [(89, _), (100, _)])
        case ho => rfl
        case hs => exact ⟨rfl, rfl, trivial⟩
        case hk => rfl
        case h1 =>
          intro wq_19 kq_19
          refine WL.pickT rfl rfl rfl (?_)
          refine WL.nil ?_
          exact WX.one ⟨rfl, by first | exact Chg.refl _ _ | assumption⟩
        apply DQ.step (E' := [(101, _)])
        case ho => rfl
        case hs => exact ⟨rfl, trivial⟩
        case hk => rfl
        case h1 =>
          intro wq_20 kq_20
          refine WL.move rfl rfl (?_)
          refine WL.nil ?_
          exact WX.one ⟨rfl, by first | exact Chg.refl _ _ | assumption⟩
        apply DQ.step (E' := [(13, _), (102, _)])
        case ho => rfl
        case hs => exact ⟨rfl, rfl, trivial⟩
        case hk => rfl
        case h1 =>
          intro wq_21 kq_21
          refine WL.want rfl rfl rfl (WL.fieldAddr (fld_25_1) rfl rfl (?_))
          refine WL.nil ?_
          exact WX.one ⟨rfl, by first | exact Chg.refl _ _ | assumption⟩
        apply DQ.step (E' := [(103, _), (102, _)])
        case ho => rfl
        case hs => exact ⟨rfl, rfl, trivial⟩
        case hk => rfl
        case h1 =>
          intro wq_22 kq_22
          have zs_kq_22 := kq_22.size
          replace hw := hw.pure kq_22
          replace hf := hf.pure kq_22
          replace hb13 := hb13.pure kq_22
          refine WL.want rfl rfl rfl (?_)
          refine WL.loads (ept.f (ptrV T)) Tryd.isAgg23 Tryd.sizeOf23 rfl (fun j v hj => by rw [Nat.add_comm]; exact hb13.cell hj) rfl rfl ?_
          refine WL.nil ?_
          exact WX.one ⟨rfl, by first | exact Chg.refl _ _ | assumption⟩
        apply DQ.step (E' := [(13, _), (102, _)])
        case ho => rfl
        case hs => exact ⟨rfl, rfl, trivial⟩
        case hk => rfl
        case h1 =>
          intro wq_23 kq_23
          refine WL.want rfl rfl rfl (WL.fieldAddr (fld_25_0) rfl rfl (?_))
          refine WL.nil ?_
          exact WX.one ⟨rfl, by first | exact Chg.refl _ _ | assumption⟩
        apply DQ.step (E' := [(105, _), (102, _)])
        case ho => rfl
        case hs => exact ⟨rfl, rfl, trivial⟩
        case hk => rfl
        case h1 =>
          intro wq_24 kq_24
          have zs_kq_24 := kq_24.size
          replace hw := hw.pure kq_24
          replace hf := hf.pure kq_24
          replace hb13 := hb13.pure kq_24
          refine WL.want rfl rfl rfl (WL.loadB Tryd.isAgg3 hb13 rfl rfl rfl (?_))
          refine WL.nil ?_
          exact WX.one ⟨rfl, by first | exact Chg.refl _ _ | assumption⟩
        refine DQ.done (fun hd_4 => ?_)
        refine DL.step [(106, _), (102, _)] rfl ⟨rfl, rfl, trivial⟩ rfl (fun wq_25 kq_25 => ?_)
        have zs_kq_25 := kq_25.size
        replace hw := hw.pure kq_25
        replace hf := hf.pure kq_25
        replace hb13 := hb13.pure kq_25
        replace hd_4 := hd_4.pure kq_25
        refine WL.want rfl rfl rfl (?_)
        refine WL.call eg_17 rfl rfl (lptr_calls T (by omega) _) ?_
        rintro v w12 ⟨rfl, k12⟩
        have zs_k12 := k12.size
        replace hw := hw.pure k12
        replace hf := hf.pure k12
        replace hb13 := hb13.pure k12
        replace hd_4 := hd_4.pure k12
        refine WL.nil ?_
        refine WX.one ⟨hd_4, ?_⟩
        refine DL.step [(104, _), (107, _), (102, _)] rfl ⟨rfl, rfl, rfl, trivial⟩ rfl (fun wq_26 kq_26 => ?_)
        have zs_kq_26 := kq_26.size
        replace hw := hw.pure kq_26
        replace hf := hf.pure kq_26
        replace hb13 := hb13.pure kq_26
        replace hd_4 := hd_4.pure kq_26
        refine WL.want rfl rfl rfl (?_)
        refine WL.aeql eqg_ptr (eq_ptr (ptrV T) (ptrV T)) rfl rfl rfl ?_
        rw [decide_eq_true (rfl : ptrV T = ptrV T)]
        refine WL.nil ?_
        refine WX.one ⟨hd_4, ?_⟩
        refine DL.step [(102, _), (108, _)] rfl ⟨rfl, rfl, trivial⟩ rfl (fun wq_27 kq_27 => ?_)
        have zs_kq_27 := kq_27.size
        replace hw := hw.pure kq_27
        replace hf := hf.pure kq_27
        replace hb13 := hb13.pure kq_27
        replace hd_4 := hd_4.pure kq_27
        refine WL.pickT rfl rfl rfl (?_)
        refine WL.nil ?_
        refine WX.one ⟨hd_4, ?_⟩
        refine DL.step [(109, _)] rfl ⟨rfl, trivial⟩ rfl (fun wq_28 kq_28 => ?_)
        have zs_kq_28 := kq_28.size
        replace hw := hw.pure kq_28
        replace hf := hf.pure kq_28
        replace hb13 := hb13.pure kq_28
        replace hd_4 := hd_4.pure kq_28
        refine WL.assign rfl rfl (?_)
        refine WL.nil ?_
        refine WX.one ⟨hd_4, ?_⟩
        refine DL.done (fun we_29 ke_29 => ?_)
        have zs_ke_29 := ke_29.size
        replace hw := hw.pure ke_29
        replace hf := hf.pure ke_29
        replace hb13 := hb13.pure ke_29
        replace hd_4 := hd_4.pure ke_29
        refine WX.then_normal (WC.ret (?_))
        refine WX.ret1 (.inl rfl) Tryd.results5 rfl ?_
        exact ⟨_, rfl, rfl, hw⟩
      ·
        refine WL.move rfl rfl (WL.extract rfl rfl rfl (WL.extract rfl rfl rfl (?_)))
        refine WL.alloc Tryd.zeroValue25 rfl ?_
        intro g_1 w_1 hge_1 hlt_1 hb_1 k_1
        have zs_k_1 := k_1.size
        replace hw := hw.pure k_1
        replace hf := hf.pure k_1
        refine WL.stores Tryd.sizeOf25 hb_1 rfl rfl (by first | (simp; done) | (simp; omega) | rfl) (by first | exact Enc.one _ _ | (intro u hu; obtain ⟨x, _, rfl⟩ := List.mem_map.1 hu; rfl) | (simp [Value.oneCell']; done) | (simp [Value.oneCell', Value.cells]; done)) (by first | (simp; done) | (simp; omega) | (simp [Value.cells]; done) | (simp [Value.cells]; omega) | exact Nat.le_of_ble_eq_true rfl) rfl ?_
        intro w_2 hs_2 hn_2 k_2
        have zs_k_2 := k_2.size
        replace hw := hw.chg k_2 (by first | (intro x h1 h2; exact h2) | (intro x h0 h1 h2; exact hS x h1 h2) | (intro x h0 h1 h2; have h3 : _ = _ := h2; subst h3; exact hSR h1.1) | (intro x h1 h2; have h3 : _ = _ := h2; subst h3; assumption) | (intro x h1 h2; have h3 : _ = _ := h2; exfalso; omega) | (intro b h1 h2 h3; have h4 : _ = _ := h3; (try dsimp only at h2); exfalso; omega) | (intro h1; have h2 : _ = _ := h1; exfalso; omega) | (intro h1; have h2 : _ ≤ _ := h1; exfalso; omega) | (intros; exfalso; (try dsimp only at *); omega) | (intro b h1 h2 h3; exfalso; have h4 := h3.2; (try dsimp only at *); omega) | (intro h1; exfalso; have h4 := h1.2; (try dsimp only at *); omega) | (intro x h1 h2; exfalso; have h4 := h2.2; (try dsimp only at *); omega) | (intro x h1 h2; exact ⟨_, rfl, h2⟩) | (intro x h1 h2; have h4 := h2.1; have h5 := h2.2; exfalso; omega) | (intro x h1 h2; exact h2.1) | (intro x h1 h2; rcases h2.1 with h3 | h3; exact h3; exfalso; omega) | (intro x h1 h2; rcases h2 with h3 | h3; exact h3; exfalso; omega))
        replace hf := hf.chg k_2 (by first | (intro x h1 h2; exact h2) | (intro x h0 h1 h2; exact hS x h1 h2) | (intro x h0 h1 h2; have h3 : _ = _ := h2; subst h3; exact hSR h1.1) | (intro x h1 h2; have h3 : _ = _ := h2; subst h3; assumption) | (intro x h1 h2; have h3 : _ = _ := h2; exfalso; omega) | (intro b h1 h2 h3; have h4 : _ = _ := h3; (try dsimp only at h2); exfalso; omega) | (intro h1; have h2 : _ = _ := h1; exfalso; omega) | (intro h1; have h2 : _ ≤ _ := h1; exfalso; omega) | (intros; exfalso; (try dsimp only at *); omega) | (intro b h1 h2 h3; exfalso; have h4 := h3.2; (try dsimp only at *); omega) | (intro h1; exfalso; have h4 := h1.2; (try dsimp only at *); omega) | (intro x h1 h2; exfalso; have h4 := h2.2; (try dsimp only at *); omega) | (intro x h1 h2; exact ⟨_, rfl, h2⟩) | (intro x h1 h2; have h4 := h2.1; have h5 := h2.2; exfalso; omega) | (intro x h1 h2; exact h2.1) | (intro x h1 h2; rcases h2.1 with h3 | h3; exact h3; exfalso; omega) | (intro x h1 h2; rcases h2 with h3 | h3; exact h3; exfalso; omega))
        replace hb_1 := hn_2
        refine WL.assign rfl rfl (WL.nil (WX.then_normal (WC.seq (?_))))
        have hb13 := Blk.eqc (cs' := eub.f (ubV T T)) hb_1 rfl
        refine WC.draw (Nob) [0, 1, 2, 3, 4, 5, 6, 7, 8, 9, 10, 11, 12, 13, 14, 15, 16, 17, 18, 19] [20, 21, 22, 23] mixed rfl rfl (fun wd_3 kd_3 zd_3 => ?_)
        have zs_kd_3 := kd_3.size
        replace hw := hw.pure kd_3
        replace hf := hf.pure kd_3
        replace hb13 := hb13.pure kd_3
        apply DQ.step (E' := [(8, _)])
        case ho => rfl
        case hs => exact ⟨rfl, trivial⟩
        case hk => rfl
        case h1 =>
          intro wq_5 kq_5
          refine WL.move rfl rfl (?_)
          refine WL.nil ?_
          exact WX.one ⟨rfl, by first | exact Chg.refl _ _ | assumption⟩
        apply DQ.step (E' := [(87, _)])
        case ho => rfl
        case hs => exact ⟨rfl, trivial⟩
        case hk => rfl
        case h1 =>
          intro wq_6 kq_6
          refine WL.eqlT rfl rfl rfl (rfl) ?_
          refine WL.nil ?_
          exact WX.one ⟨rfl, by first | exact Chg.refl _ _ | assumption⟩
        apply DQ.step (E' := [(88, _)])
        case ho => rfl
        case hs => exact ⟨rfl, trivial⟩
        case hk => rfl
        case h1 =>
          intro wq_7 kq_7
          refine WL.move rfl rfl (?_)
          refine WL.nil ?_
          exact WX.one ⟨rfl, by first | exact Chg.refl _ _ | assumption⟩
        apply DQ.step (E' := [(13, _), (89, _)])
        case ho => rfl
        case hs => exact ⟨rfl, rfl, trivial⟩
        case hk => rfl
        case h1 =>
          intro wq_8 kq_8
          refine WL.want rfl rfl rfl (WL.fieldAddr (fld_25_0) rfl rfl (?_))
          refine WL.nil ?_
          exact WX.one ⟨rfl, by first | exact Chg.refl _ _ | assumption⟩
        apply DQ.step (E' := [(90, _), (89, _)])
        case ho => rfl
        case hs => exact ⟨rfl, rfl, trivial⟩
        case hk => rfl
        case h1 =>
          intro wq_9 kq_9
          have zs_kq_9 := kq_9.size
          replace hw := hw.pure kq_9
          replace hf := hf.pure kq_9
          replace hb13 := hb13.pure kq_9
          refine WL.want rfl rfl rfl (WL.loadB Tryd.isAgg3 hb13 rfl rfl rfl (?_))
          refine WL.nil ?_
          exact WX.one ⟨rfl, by first | exact Chg.refl _ _ | assumption⟩
        apply DQ.step (E' := [(0, _), (89, _)])
        case ho => rfl
        case hs => exact ⟨rfl, rfl, trivial⟩
        case hk => rfl
        case h1 =>
          intro wq_10 kq_10
          refine WL.want rfl rfl rfl (WL.move rfl rfl (?_))
          refine WL.nil ?_
          exact WX.one ⟨rfl, by first | exact Chg.refl _ _ | assumption⟩
        apply DQ.step (E' := [(91, _), (92, _), (89, _)])
        case ho => rfl
        case hs => exact ⟨rfl, rfl, rfl, trivial⟩
        case hk => rfl
        case h1 =>
          intro wq_11 kq_11
          refine WL.want rfl rfl rfl (?_)
          refine WL.eqlF rfl rfl rfl ((by show ¬ T = _; omega)) ?_
          refine WL.nil ?_
          exact WX.one ⟨rfl, by first | exact Chg.refl _ _ | assumption⟩
        apply DQ.step (E' := [(93, _), (89, _)])
        case ho => rfl
        case hs => exact ⟨rfl, rfl, trivial⟩
        case hk => rfl
        case h1 =>
          intro wq_12 kq_12
          refine WL.want rfl rfl rfl (WL.move rfl rfl (?_))
          refine WL.nil ?_
          exact WX.one ⟨rfl, by first | exact Chg.refl _ _ | assumption⟩
        apply DQ.step (E' := [(13, _), (94, _)])
        case ho => rfl
        case hs => exact ⟨rfl, rfl, trivial⟩
        case hk => rfl
        case h1 =>
          intro wq_13 kq_13
          refine WL.want rfl rfl rfl (WL.fieldAddr (fld_25_0) rfl rfl (?_))
          refine WL.nil ?_
          exact WX.one ⟨rfl, by first | exact Chg.refl _ _ | assumption⟩
        apply DQ.step (E' := [(95, _), (94, _)])
        case ho => rfl
        case hs => exact ⟨rfl, rfl, trivial⟩
        case hk => rfl
        case h1 =>
          intro wq_14 kq_14
          have zs_kq_14 := kq_14.size
          replace hw := hw.pure kq_14
          replace hf := hf.pure kq_14
          replace hb13 := hb13.pure kq_14
          refine WL.want rfl rfl rfl (WL.loadB Tryd.isAgg3 hb13 rfl rfl rfl (?_))
          refine WL.nil ?_
          exact WX.one ⟨rfl, by first | exact Chg.refl _ _ | assumption⟩
        apply DQ.step (E' := [(0, _), (94, _)])
        case ho => rfl
        case hs => exact ⟨rfl, rfl, trivial⟩
        case hk => rfl
        case h1 =>
          intro wq_15 kq_15
          refine WL.want rfl rfl rfl (WL.move rfl rfl (?_))
          refine WL.nil ?_
          exact WX.one ⟨rfl, by first | exact Chg.refl _ _ | assumption⟩
        apply DQ.step (E' := [(97, _), (94, _)])
        case ho => rfl
        case hs => exact ⟨rfl, rfl, trivial⟩
        case hk => rfl
        case h1 =>
          intro wq_16 kq_16
          refine WL.want rfl rfl rfl (WL.sub64 rfl rfl (by first | omega | (constructor <;> omega)) rfl (?_))
          refine WL.nil ?_
          exact WX.one ⟨rfl, by first | exact Chg.refl _ _ | assumption⟩
        apply DQ.step (E' := [(96, _), (98, _), (94, _)])
        case ho => rfl
        case hs => exact ⟨rfl, rfl, rfl, trivial⟩
        case hk => rfl
        case h1 =>
          intro wq_17 kq_17
          refine WL.want rfl rfl rfl (?_)
          refine WL.eqlT rfl rfl rfl ((by show T = _; omega)) ?_
          refine WL.nil ?_
          exact WX.one ⟨rfl, by first | exact Chg.refl _ _ | assumption⟩
        apply DQ.step (E' := [(94, _), (99, _), (89, _)])
        case ho => rfl
        case hs => exact ⟨rfl, rfl, rfl, trivial⟩
        case hk => rfl
        case h1 =>
          intro wq_18 kq_18
          refine WL.want rfl rfl rfl (WL.pickF rfl rfl rfl (?_))
          refine WL.nil ?_
          exact WX.one ⟨rfl, by first | exact Chg.refl _ _ | assumption⟩
        apply DQ.step (E' := [(89, _), (100, _)])
        case ho => rfl
        case hs => exact ⟨rfl, rfl, trivial⟩
        case hk => rfl
        case h1 =>
          intro wq_19 kq_19
          refine WL.pickT rfl rfl rfl (?_)
          refine WL.nil ?_
          exact WX.one ⟨rfl, by first | exact Chg.refl _ _ | assumption⟩
        apply DQ.step (E' := [(101, _)])
        case ho => rfl
        case hs => exact ⟨rfl, trivial⟩
        case hk => rfl
        case h1 =>
          intro wq_20 kq_20
          refine WL.move rfl rfl (?_)
          refine WL.nil ?_
          exact WX.one ⟨rfl, by first | exact Chg.refl _ _ | assumption⟩
        apply DQ.step (E' := [(13, _), (102, _)])
        case ho => rfl
        case hs => exact ⟨rfl, rfl, trivial⟩
        case hk => rfl
        case h1 =>
          intro wq_21 kq_21
          refine WL.want rfl rfl rfl (WL.fieldAddr (fld_25_1) rfl rfl (?_))
          refine WL.nil ?_
          exact WX.one ⟨rfl, by first | exact Chg.refl _ _ | assumption⟩
        apply DQ.step (E' := [(103, _), (102, _)])
        case ho => rfl
        case hs => exact ⟨rfl, rfl, trivial⟩
        case hk => rfl
        case h1 =>
          intro wq_22 kq_22
          have zs_kq_22 := kq_22.size
          replace hw := hw.pure kq_22
          replace hf := hf.pure kq_22
          replace hb13 := hb13.pure kq_22
          refine WL.want rfl rfl rfl (?_)
          refine WL.loads (ept.f (ptrV T)) Tryd.isAgg23 Tryd.sizeOf23 rfl (fun j v hj => by rw [Nat.add_comm]; exact hb13.cell hj) rfl rfl ?_
          refine WL.nil ?_
          exact WX.one ⟨rfl, by first | exact Chg.refl _ _ | assumption⟩
        apply DQ.step (E' := [(13, _), (102, _)])
        case ho => rfl
        case hs => exact ⟨rfl, rfl, trivial⟩
        case hk => rfl
        case h1 =>
          intro wq_23 kq_23
          refine WL.want rfl rfl rfl (WL.fieldAddr (fld_25_0) rfl rfl (?_))
          refine WL.nil ?_
          exact WX.one ⟨rfl, by first | exact Chg.refl _ _ | assumption⟩
        apply DQ.step (E' := [(105, _), (102, _)])
        case ho => rfl
        case hs => exact ⟨rfl, rfl, trivial⟩
        case hk => rfl
        case h1 =>
          intro wq_24 kq_24
          have zs_kq_24 := kq_24.size
          replace hw := hw.pure kq_24
          replace hf := hf.pure kq_24
          replace hb13 := hb13.pure kq_24
          refine WL.want rfl rfl rfl (WL.loadB Tryd.isAgg3 hb13 rfl rfl rfl (?_))
          refine WL.nil ?_
          exact WX.one ⟨rfl, by first | exact Chg.refl _ _ | assumption⟩
        refine DQ.done (fun hd_4 => ?_)
        refine DL.step [(106, _), (102, _)] rfl ⟨rfl, rfl, trivial⟩ rfl (fun wq_25 kq_25 => ?_)
        have zs_kq_25 := kq_25.size
        replace hw := hw.pure kq_25
        replace hf := hf.pure kq_25
        replace hb13 := hb13.pure kq_25
        replace hd_4 := hd_4.pure kq_25
        refine WL.want rfl rfl rfl (?_)
        refine WL.call eg_17 rfl rfl (lptr_calls T (by omega) _) ?_
        rintro v w12 ⟨rfl, k12⟩
        have zs_k12 := k12.size
        replace hw := hw.pure k12
        replace hf := hf.pure k12
        replace hb13 := hb13.pure k12
        replace hd_4 := hd_4.pure k12
        refine WL.nil ?_
        refine WX.one ⟨hd_4, ?_⟩
        refine DL.step [(104, _), (107, _), (102, _)] rfl ⟨rfl, rfl, rfl, trivial⟩ rfl (fun wq_26 kq_26 => ?_)
        have zs_kq_26 := kq_26.size
        replace hw := hw.pure kq_26
        replace hf := hf.pure kq_26
        replace hb13 := hb13.pure kq_26
        replace hd_4 := hd_4.pure kq_26
        refine WL.want rfl rfl rfl (?_)
        refine WL.aeql eqg_ptr (eq_ptr (ptrV T) (ptrV T)) rfl rfl rfl ?_
        rw [decide_eq_true (rfl : ptrV T = ptrV T)]
        refine WL.nil ?_
        refine WX.one ⟨hd_4, ?_⟩
        refine DL.step [(102, _), (108, _)] rfl ⟨rfl, rfl, trivial⟩ rfl (fun wq_27 kq_27 => ?_)
        have zs_kq_27 := kq_27.size
        replace hw := hw.pure kq_27
        replace hf := hf.pure kq_27
        replace hb13 := hb13.pure kq_27
        replace hd_4 := hd_4.pure kq_27
        refine WL.pickT rfl rfl rfl (?_)
        refine WL.nil ?_
        refine WX.one ⟨hd_4, ?_⟩
        refine DL.step [(109, _)] rfl ⟨rfl, trivial⟩ rfl (fun wq_28 kq_28 => ?_)
        have zs_kq_28 := kq_28.size
        replace hw := hw.pure kq_28
        replace hf := hf.pure kq_28
        replace hb13 := hb13.pure kq_28
        replace hd_4 := hd_4.pure kq_28
        refine WL.assign rfl rfl (?_)
        refine WL.nil ?_
        refine WX.one ⟨hd_4, ?_⟩
        refine DL.done (fun we_29 ke_29 => ?_)
        have zs_ke_29 := ke_29.size
        replace hw := hw.pure ke_29
        replace hf := hf.pure ke_29
        replace hb13 := hb13.pure ke_29
        replace hd_4 := hd_4.pure ke_29
        refine WX.then_normal (WC.ret (?_))
        refine WX.ret1 (.inl rfl) Tryd.results5 rfl ?_
        exact ⟨_, rfl, rfl, hw⟩
end Go.Proofs.YtjeldcjchipdgaaDoor
