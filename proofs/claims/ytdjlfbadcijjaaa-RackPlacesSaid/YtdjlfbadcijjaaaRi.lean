import Derived.Test.YtdjlfbadcijjaaaRh
namespace Go.Proofs.Ytdjlfbadcijjaaa
open Go.RowKit Go.HL

/-! what the calls do to what is read -/
def zeros : List UInt8 := List.replicate 128 0
def lastS (s : RA) (p : Pl) : List UInt8 := (mget s.last p).getD zeros
theorem heldS_eq (s : RA) (p : Pl) : heldS s p = match newV s.waits p with | some b => b | none => lastS s p := rfl
theorem newV_snoc {V : Type} (ws : List (Pl × V)) (p q : Pl) (b : V) : newV (ws ++ [(p, b)]) q = if q = p then some b else newV ws q := by
  unfold newV
  rw [List.reverse_append]
  rfl
theorem newV_nil {V : Type} (p : Pl) : newV ([] : List (Pl × V)) p = none := rfl
theorem mget_puts {V : Type} {kp : Nat → Bool} {ws l : List (Pl × V)} {i : Nat} {x : Pl × V} (hx : ws[i]? = some x) (q : Pl) : mget (puts kp ws l (i + 1)) q = if kp i = true ∧ q = x.1 then some x.2 else mget (puts kp ws l i) q := by
  cases hk : kp i
  · rw [puts_not hx hk]
    simp
  · rw [puts_yes hx hk, mget_put]
    simp
theorem mget_puts_all {V : Type} (ws l : List (Pl × V)) (q : Pl) : ∀ i, i ≤ ws.length → mget (puts (fun _ => true) ws l i) q = match newV (ws.take i) q with | some v => some v | none => mget l q := by
  intro i
  induction i with
  | zero => intro _; rfl
  | succ i ih =>
    intro hi
    have hx : ws[i]? = some ws[i] := List.getElem?_eq_getElem (by omega)
    rw [mget_puts hx, ih (by omega), List.take_add_one, hx]
    show _ = match newV (ws.take i ++ [(ws[i].1, ws[i].2)]) q with | some v => some v | none => mget l q
    rw [newV_snoc]
    by_cases h : q = ws[i].1 <;> simp [h]
structure Up (s : RA) : Prop where
  off : s.off = false
  armed : s.armed = false
theorem Up.offS {s : RA} (h : Up s) : offS s = false := by simp [Go.Proofs.Ytdjlfbadcijjaaa.offS, h.off, h.armed]
theorem Up.spend {s : RA} (h : Up s) : spendS s = s := by
  have h1 := h.offS
  have h2 := h.armed
  unfold spendS
  rw [h1]
  obtain ⟨dn, sn, last, gone, waits, off, armed, left⟩ := s
  simp only at h2
  subst h2
  rfl
/-- one more that waits -/
def addS (s : RA) (p : Pl) (b : List UInt8) : RA := { s with waits := s.waits ++ [(p, b)] }
theorem Up.write {s : RA} (h : Up s) {d a : Int} {b : List UInt8} (hi : inS s d a) (hg : goneS s d = false) (hb : b.length = 128) : writeE s d a b.length = 0 ∧ writeS s d a b = addS s (d, a) b := by
  have h0 : writeE s d a b.length = 0 := writeE_0.2 ⟨hi, hb, hg, h.offS⟩
  refine ⟨h0, ?_⟩
  rw [writeS, if_pos h0, h.spend]
  rfl
theorem addS_held (s : RA) (p q : Pl) (b : List UInt8) : heldS (addS s p b) q = if q = p then b else heldS s q := by
  rw [heldS_eq, heldS_eq, show (addS s p b).waits = s.waits ++ [(p, b)] from rfl, newV_snoc]
  by_cases h : q = p <;> simp [h]
  rfl
theorem addS_last (s : RA) (p q : Pl) (b : List UInt8) : lastS (addS s p b) q = lastS s q := rfl
theorem addS_up {s : RA} (h : Up s) (p : Pl) (b : List UInt8) : Up (addS s p b) := ⟨h.off, h.armed⟩
/-- all lasts -/
def allS (s : RA) : RA := { s with last := puts (fun _ => true) s.waits s.last s.waits.length, waits := [] }
theorem Up.flush {s : RA} (h : Up s) : flushS s = allS s := by
  unfold flushS
  rw [h.offS, h.spend]
  rfl
theorem allS_up {s : RA} (h : Up s) : Up (allS s) := ⟨h.off, h.armed⟩
theorem allS_last (s : RA) (q : Pl) : lastS (allS s) q = heldS s q := by
  rw [heldS_eq, lastS, show (allS s).last = puts (fun _ => true) s.waits s.last s.waits.length from rfl, mget_puts_all s.waits s.last q _ (Nat.le_refl _), List.take_length]
  cases newV s.waits q <;> rfl
theorem allS_held (s : RA) (q : Pl) : heldS (allS s) q = heldS s q := by
  rw [← allS_last s q]
  rfl
theorem heldS_none {s : RA} (h : s.waits = []) (q : Pl) : heldS s q = lastS s q := by
  rw [heldS_eq, h]
  rfl
theorem crash_up (s : RA) (ps : List Int) : Up (crashS s ps) := ⟨rfl, rfl⟩
theorem crash_held (s : RA) (ps : List Int) (q : Pl) : heldS (crashS s ps) q = lastS (crashS s ps) q := rfl
theorem puts_no {V : Type} {kp : Nat → Bool} {ws l : List (Pl × V)} (h : ∀ i, kp i = false) (n : Nat) : puts kp ws l n = l := by
  induction n with
  | zero => rfl
  | succ n ih =>
    simp only [puts]
    split
    · rw [if_neg (by rw [h]; decide)]; exact ih
    · exact ih
theorem crash_nil (s : RA) (q : Pl) : lastS (crashS s []) q = lastS s q := by
  rw [lastS, show (crashS s []).last = puts (keep []) s.waits s.last s.waits.length from rfl, puts_no (kp := keep []) (fun i => rfl)]
  rfl
theorem newS_up (d n : Nat) : Up (newS d n) := ⟨rfl, rfl⟩
theorem newS_gone (d n : Nat) (x : Int) : goneS (newS d n) x = false := by
  rw [goneS, show (newS d n).gone = List.replicate d false from rfl, List.getD_eq_getElem?_getD, List.getElem?_replicate]
  split <;> rfl
theorem newS_held (d n : Nat) (q : Pl) : heldS (newS d n) q = zeros := rfl
theorem errS_up {s : RA} (h : Up s) {d a : Int} (hi : inS s d a) (hg : goneS s d = false) : errS s d a = 0 := by
  simp [errS, hi, hg, h.off]
theorem RK.ne {A S : Nat → Prop} {w : World} {R : Nat} {s : RA} {ao : Option Addr} {c : Nat} {xs : List UInt8} (h : RK A w R s) (hq : Row S w 5 eb ao c xs) : Row (fun x => S x ∧ x ≠ R) w 5 eb ao c xs := by
  obtain ⟨m, ga, gc, wa, wc, ws, ls, hB, -⟩ := h.ex
  have hk := hB.kb
  refine hq.kb.mono ?_
  rintro x ⟨h1, h2⟩
  refine ⟨h1, fun e => ?_⟩
  rw [e, hk] at h2
  exact absurd h2 (by decide)
theorem Crash0_calls {A : Nat → Prop} {w : World} {R : Nat} {s : RA} (h : RK A w R s) :
    Calls Try.prog 17 [ptr R, .slice none 0 0].toArray w (Ret fun v w' => v = .tuple #[] ∧ RK A w' R (crashS s []) ∧ Chg A w w') :=
  Crash_calls (S := fun _ => False) (ao := none) (c := 0) (ps := []) h (RSl.nil _ _ _ _ _) (fun _ h _ => h)
/-- bytes of a number, of which no more is said -/
theorem bytes_all : ∃ B : Int → List UInt8, (∀ f, (B f).length = 128) ∧ ∀ f w, Calls Try.prog 14 [vi f, vi 0].toArray w (Ret fun v w' => (∃ g, v = .slice (some ⟨g, 0, none⟩) (B f).length 128 ∧ Row (· = g) w' 5 eb (some ⟨g, 0, none⟩) 128 (B f) ∧ w.heap.size ≤ g ∧ g < w'.heap.size) ∧ Chg Nob w w') :=
  ⟨fun f => bytesN f 128, fun f => bytesN_len f 128, fun f w => bytes_calls w f 0 128 (by omega) (by omega)⟩
theorem new_all (dn sn : Nat) (hd : 1 ≤ dn ∧ dn ≤ 16) (hs : 1 ≤ sn ∧ sn ≤ 2000) : ∃ s : RA, s.dn = dn ∧ s.sn = sn ∧ Up s ∧ (∀ d, goneS s d = false) ∧ (∀ q, heldS s q = zeros) ∧ (∀ q, lastS s q = zeros) ∧ s.waits = [] ∧ ∀ w, Calls Try.prog 12 [vi dn, vi sn].toArray w (Ret fun v w' => (∃ R, v = .tuple #[ptr R, vi 0] ∧ RK (w.heap.size ≤ ·) w' R s) ∧ Chg Nob w w') :=
  ⟨newS dn sn, rfl, rfl, newS_up dn sn, newS_gone dn sn, newS_held dn sn, fun _ => rfl, rfl, fun w => New_calls w hd hs⟩
theorem known_calls (w : World) : Calls Try.prog 11 [].toArray w (Ret fun v w' => v = .bool true ∧ Chg Nob w w') := by
  have hw := Chg.refl Nob w
  obtain ⟨B, hBl, hBc⟩ := bytes_all
  obtain ⟨s0, sd, sn, u0, sg, sh, sl, sw, hNew⟩ := new_all 2 3 (by decide) (by decide)
  have i12 : inS s0 1 2 := by unfold inS; rw [sd, sn]; decide
  have w1E := u0.write i12 (sg 1) (hBl 7)
  have u1 := addS_up u0 (1, 2) (B 7)
  refine Calls.of_WC Try.func11 rfl Try.ntmps11 (by simp) ?_
  refine WC.seq (WC.region (WL.assign rfl rfl (WL.nil (WX.then_normal (WC.seq (WC.region (?_)))))))
  refine WL.call eg_12 rfl rfl (hNew _) ?_
  rintro v w1 ⟨⟨R, rfl, hR⟩, k1⟩
  have zs_k1 := k1.size
  replace hw := hw.pure k1
  refine WL.move rfl rfl (WL.extract rfl rfl rfl (WL.extract rfl rfl rfl (WL.assign rfl rfl (WL.assign rfl rfl (WL.nil (WX.then_normal (WC.seq (?_))))))))
  refine WC.seq (WC.region (WL.move rfl rfl (?_)))
  refine WL.neqF rfl rfl rfl (by first | rfl | omega | decide) ?_
  refine WL.move rfl rfl (WL.want rfl rfl rfl (WL.move rfl rfl (WL.want rfl rfl rfl (?_))))
  refine WL.ptrNil Try.underlying25 rfl rfl rfl ?_
  refine WL.pickF rfl rfl rfl (WL.move rfl rfl (WL.want rfl rfl rfl (WL.move rfl rfl (WL.want rfl rfl rfl (?_)))))
  refine WL.call eg_28 rfl rfl (Drives_calls hR) ?_
  rintro v w1 ⟨rfl, k1⟩
  rw [sd]
  have zs_k1 := k1.size
  replace hw := hw.pure k1
  replace hR := hR.pure k1
  refine WL.want rfl rfl rfl (?_)
  refine WL.neqF rfl rfl rfl (by first | rfl | omega | decide) ?_
  refine WL.pickF rfl rfl rfl (WL.move rfl rfl (WL.want rfl rfl rfl (WL.move rfl rfl (WL.want rfl rfl rfl (?_)))))
  refine WL.call eg_29 rfl rfl (Sectors_calls hR) ?_
  rintro v w1 ⟨rfl, k1⟩
  rw [sn]
  have zs_k1 := k1.size
  replace hw := hw.pure k1
  replace hR := hR.pure k1
  refine WL.want rfl rfl rfl (?_)
  refine WL.neqF rfl rfl rfl (by first | rfl | omega | decide) ?_
  refine WL.pickF rfl rfl rfl (WL.move rfl rfl (WL.want rfl rfl rfl (WL.move rfl rfl (WL.want rfl rfl rfl (?_)))))
  refine WL.call eg_14 rfl rfl (hBc 7 _) ?_
  rintro v w1 ⟨⟨g, rfl, hb, hg1, hg2⟩, k1⟩
  have zs_k1 := k1.size
  replace hw := hw.pure k1
  replace hR := hR.pure k1
  have hb2 := hR.ne hb
  refine WL.want rfl rfl rfl (?_)
  refine WL.call eg_13 rfl rfl (Write_calls hR 1 2 hb2.rsl (fun x h1 h2 => h1.2 h2) (by rw [sw]; decide)) ?_
  rintro v w2 ⟨rfl, hR2, k2⟩
  rw [w1E.1]
  rw [w1E.2] at hR2
  have zs_k2 := k2.size
  replace hw := hw.chg k2 (by first | (intro x h1 h2; exact h2) | (intro x h0 h1 h2; exact hS x h1 h2) | (intro x h0 h1 h2; have h3 : _ = _ := h2; subst h3; exact hSR h1.1) | (intro x h1 h2; have h3 : _ = _ := h2; subst h3; assumption) | (intro x h1 h2; have h3 : _ = _ := h2; exfalso; omega) | (intro b h1 h2 h3; have h4 : _ = _ := h3; (try dsimp only at h2); exfalso; omega) | (intro h1; have h2 : _ = _ := h1; exfalso; omega) | (intros; exfalso; (try dsimp only at *); omega) | (intro b h1 h2 h3; exfalso; have h4 := h3.2; (try dsimp only at *); omega) | (intro h1; exfalso; have h4 := h1.2; (try dsimp only at *); omega) | (intro x h1 h2; exfalso; have h4 := h2.2; (try dsimp only at *); omega) | (intro x h1 h2; exact h2.1) | (intro x h1 h2; rcases h2.1 with h3 | h3; exact h3; exfalso; omega) | (intro x h1 h2; rcases h2 with h3 | h3; exact h3; exfalso; omega))
  replace hR2 := hR2.mono (A' := (w.heap.size ≤ ·)) (fun x hx => by have := hw.size; rcases hx with h1 | h1 <;> omega)
  refine WL.want rfl rfl rfl (?_)
  refine WL.neqF rfl rfl rfl (by first | rfl | omega | decide) ?_
  refine WL.pickF rfl rfl rfl (WL.move rfl rfl (WL.want rfl rfl rfl (WL.move rfl rfl (WL.want rfl rfl rfl (?_)))))
  refine WL.call eg_15 rfl rfl (Flush_calls hR2) ?_
  rintro v w3 ⟨rfl, hR3, k3⟩
  rw [u1.flush] at hR3
  rw [u1.offS]
  have zs_k3 := k3.size
  replace hw := hw.chg k3 (by first | (intro x h1 h2; exact h2) | (intro x h0 h1 h2; exact hS x h1 h2) | (intro x h0 h1 h2; have h3 : _ = _ := h2; subst h3; exact hSR h1.1) | (intro x h1 h2; have h3 : _ = _ := h2; subst h3; assumption) | (intro x h1 h2; have h3 : _ = _ := h2; exfalso; omega) | (intro b h1 h2 h3; have h4 : _ = _ := h3; (try dsimp only at h2); exfalso; omega) | (intro h1; have h2 : _ = _ := h1; exfalso; omega) | (intros; exfalso; (try dsimp only at *); omega) | (intro b h1 h2 h3; exfalso; have h4 := h3.2; (try dsimp only at *); omega) | (intro h1; exfalso; have h4 := h1.2; (try dsimp only at *); omega) | (intro x h1 h2; exfalso; have h4 := h2.2; (try dsimp only at *); omega) | (intro x h1 h2; exact h2.1) | (intro x h1 h2; rcases h2.1 with h3 | h3; exact h3; exfalso; omega) | (intro x h1 h2; rcases h2 with h3 | h3; exact h3; exfalso; omega))
  refine WL.want rfl rfl rfl (?_)
  refine WL.neqF rfl rfl rfl (by first | rfl | omega | decide) ?_
  refine WL.pickF rfl rfl rfl (WL.nil (WX.then_normal (WC.cond_false rfl (WC.skip (WX.then_normal (WC.seq (WC.region (?_))))))))
  refine WL.move rfl rfl (?_)
  refine WL.call eg_17 rfl rfl (Crash0_calls hR3) ?_
  rintro v w4 ⟨rfl, hR4, k4⟩
  have zs_k4 := k4.size
  replace hw := hw.chg k4 (by first | (intro x h1 h2; exact h2) | (intro x h0 h1 h2; exact hS x h1 h2) | (intro x h0 h1 h2; have h3 : _ = _ := h2; subst h3; exact hSR h1.1) | (intro x h1 h2; have h3 : _ = _ := h2; subst h3; assumption) | (intro x h1 h2; have h3 : _ = _ := h2; exfalso; omega) | (intro b h1 h2 h3; have h4 : _ = _ := h3; (try dsimp only at h2); exfalso; omega) | (intro h1; have h2 : _ = _ := h1; exfalso; omega) | (intros; exfalso; (try dsimp only at *); omega) | (intro b h1 h2 h3; exfalso; have h4 := h3.2; (try dsimp only at *); omega) | (intro h1; exfalso; have h4 := h1.2; (try dsimp only at *); omega) | (intro x h1 h2; exfalso; have h4 := h2.2; (try dsimp only at *); omega) | (intro x h1 h2; exact h2.1) | (intro x h1 h2; rcases h2.1 with h3 | h3; exact h3; exfalso; omega) | (intro x h1 h2; rcases h2 with h3 | h3; exact h3; exfalso; omega))
  refine WL.nil (WX.then_normal (WC.seq (WC.region (WL.move rfl rfl (?_)))))
  refine WL.call eg_16 rfl rfl (Read_calls hR4 1 2) ?_
  rintro v w5 ⟨⟨r, e, rfl, he, hx, -, hq⟩, k5⟩
  have he0 : e = 0 := he.trans (errS_up (crash_up _ _) i12 (sg 1))
  replace hx := hx he0
  rw [crash_held, crash_nil, allS_last, addS_held, if_pos rfl] at hx
  subst he0
  clear he
  have zs_k5 := k5.size
  replace hw := hw.pure k5
  replace hR4 := hR4.pure k5
  replace hq := hq.rsl.old
  refine WL.move rfl rfl (WL.extract rfl rfl rfl (?_))
  refine WL.extract rfl rfl rfl ?_
  refine WL.assign rfl rfl (WL.assign rfl rfl (WL.nil (WX.then_normal (WC.seq (?_)))))
  refine WC.draw (Nob) [0, 1, 2, 3, 4] [5, 6, 7, 8, 9] mixed rfl rfl (fun wd_1 kd_1 zd_1 => ?_)
  have zs_kd_1 := kd_1.size
  replace hw := hw.pure kd_1
  replace hq := hq.pure kd_1
  apply DQ.step (E' := [(4, _)])
  case ho => rfl
  case hs => exact ⟨rfl, trivial⟩
  case hk => rfl
  case h1 =>
    intro wq_3 kq_3
    refine WL.move rfl rfl (?_)
    refine WL.nil ?_
    exact WX.one ⟨rfl, by first | exact Chg.refl _ _ | assumption⟩
  apply DQ.step (E' := [(43, _)])
  case ho => rfl
  case hs => exact ⟨rfl, trivial⟩
  case hk => rfl
  case h1 =>
    intro wq_4 kq_4
    refine WL.eqlT rfl rfl rfl (by first | rfl | omega | decide) ?_
    refine WL.nil ?_
    exact WX.one ⟨rfl, by first | exact Chg.refl _ _ | assumption⟩
  apply DQ.step (E' := [(44, _)])
  case ho => rfl
  case hs => exact ⟨rfl, trivial⟩
  case hk => rfl
  case h1 =>
    intro wq_5 kq_5
    refine WL.move rfl rfl (?_)
    refine WL.nil ?_
    exact WX.one ⟨rfl, by first | exact Chg.refl _ _ | assumption⟩
  apply DQ.step (E' := [(3, _), (45, _)])
  case ho => rfl
  case hs => exact ⟨rfl, rfl, trivial⟩
  case hk => rfl
  case h1 =>
    intro wq_6 kq_6
    refine WL.want rfl rfl rfl (WL.move rfl rfl (?_))
    refine WL.nil ?_
    exact WX.one ⟨rfl, by first | exact Chg.refl _ _ | assumption⟩
  apply DQ.step (E' := [(46, _), (45, _)])
  case ho => rfl
  case hs => exact ⟨rfl, rfl, trivial⟩
  case hk => rfl
  case h1 =>
    intro wq_7 kq_7
    have zs_kq_7 := kq_7.size
    replace hw := hw.pure kq_7
    replace hq := hq.pure kq_7
    refine WL.want rfl rfl rfl (WL.toStr Try.underlying30 Try.underlying5 Try.underlying9 hq rfl rfl (?_))
    refine WL.nil ?_
    exact WX.one ⟨rfl, by first | exact Chg.refl _ _ | assumption⟩
  refine DQ.done (fun hd_2 => ?_)
  refine DL.step [(45, _)] rfl ⟨rfl, trivial⟩ rfl (fun wq_8 kq_8 => ?_)
  have zs_kq_8 := kq_8.size
  replace hw := hw.pure kq_8
  replace hq := hq.pure kq_8
  replace hd_2 := hd_2.pure kq_8
  refine WL.want rfl rfl rfl (?_)
  refine WL.call eg_14 rfl rfl (hBc 7 _) ?_
  rintro v w6 ⟨⟨g6, rfl, hb6, hg61, hg62⟩, k6⟩
  have zs_k6 := k6.size
  replace hw := hw.pure k6
  replace hq := hq.pure k6
  replace hd_2 := hd_2.pure k6
  refine WL.nil ?_
  refine WX.one ⟨hd_2, ?_⟩
  refine DL.step [(48, _), (45, _)] rfl ⟨rfl, rfl, trivial⟩ rfl (fun wq_9 kq_9 => ?_)
  have zs_kq_9 := kq_9.size
  replace hw := hw.pure kq_9
  replace hq := hq.pure kq_9
  replace hd_2 := hd_2.pure kq_9
  replace hb6 := hb6.pure kq_9
  refine WL.want rfl rfl rfl (WL.toStr Try.underlying30 Try.underlying5 Try.underlying9 hb6.rsl rfl rfl (?_))
  refine WL.nil ?_
  refine WX.one ⟨hd_2, ?_⟩
  refine DL.step [(47, _), (49, _), (45, _)] rfl ⟨rfl, rfl, rfl, trivial⟩ rfl (fun wq_10 kq_10 => ?_)
  have zs_kq_10 := kq_10.size
  replace hw := hw.pure kq_10
  replace hq := hq.pure kq_10
  replace hd_2 := hd_2.pure kq_10
  replace hb6 := hb6.pure kq_10
  refine WL.want rfl rfl rfl (?_)
  refine WL.seqlT rfl rfl rfl ((by rw [hx])) ?_
  refine WL.nil ?_
  refine WX.one ⟨hd_2, ?_⟩
  refine DL.step [(45, _), (50, _)] rfl ⟨rfl, rfl, trivial⟩ rfl (fun wq_11 kq_11 => ?_)
  have zs_kq_11 := kq_11.size
  replace hw := hw.pure kq_11
  replace hq := hq.pure kq_11
  replace hd_2 := hd_2.pure kq_11
  replace hb6 := hb6.pure kq_11
  refine WL.pickT rfl rfl rfl (?_)
  refine WL.nil ?_
  refine WX.one ⟨hd_2, ?_⟩
  refine DL.step [(51, _)] rfl ⟨rfl, trivial⟩ rfl (fun wq_12 kq_12 => ?_)
  have zs_kq_12 := kq_12.size
  replace hw := hw.pure kq_12
  replace hq := hq.pure kq_12
  replace hd_2 := hd_2.pure kq_12
  replace hb6 := hb6.pure kq_12
  refine WL.assign rfl rfl (?_)
  refine WL.nil ?_
  refine WX.one ⟨hd_2, ?_⟩
  refine DL.done (fun we_13 ke_13 => ?_)
  have zs_ke_13 := ke_13.size
  replace hw := hw.pure ke_13
  replace hq := hq.pure ke_13
  replace hd_2 := hd_2.pure ke_13
  replace hb6 := hb6.pure ke_13
  refine WX.then_normal (WC.ret (?_))
  refine WX.ret1 (.inl rfl) Try.results11 rfl ?_
  exact ⟨_, rfl, rfl, hw⟩
end Go.Proofs.Ytdjlfbadcijjaaa
