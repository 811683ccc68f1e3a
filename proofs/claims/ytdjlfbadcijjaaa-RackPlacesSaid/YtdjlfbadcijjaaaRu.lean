import Derived.Test.YtdjlfbadcijjaaaRp
namespace Go.Proofs.Ytdjlfbadcijjaaa
open Go.RowKit Go.HL

/-! a drive that is lost, one that is replaced -/
theorem loseS_gone {s : RA} (h : s.ok) {d : Int} (hd : isS s d) (b : Bool) {x : Int} (hx : 0 ≤ x) : goneS (loseS s d b) x = if x = d then b else goneS s x := by
  have h1 := hd.1
  have h2 := hd.2
  have hl : d.toNat < s.gone.length := by rw [h.gl]; omega
  rw [goneS, show (loseS s d b).gone = s.gone.set d.toNat b from rfl, List.getD_eq_getElem?_getD, List.getElem?_set, goneS, List.getD_eq_getElem?_getD]
  by_cases e : x = d
  · subst e
    simp [hl]
  · have : ¬ d.toNat = x.toNat := by omega
    simp [e, this]
theorem LoseU {A : Nat → Prop} {w : World} {R : Nat} {s : RA} (h : RK A w R s) {d : Int} (hd : isS s d) :
    Calls Try.prog 20 [ptr R, vi d].toArray w (Ret fun v w' => v = vi 0 ∧ RK A w' R (loseS s d true) ∧ Chg A w w') := by
  refine (Lose_calls h d).mono ?_
  rintro e w' ⟨v, rfl, rfl, hR, k⟩
  rw [if_pos hd] at hR
  exact ⟨_, rfl, by rw [if_pos hd], hR, k⟩
theorem ReplaceU {A : Nat → Prop} {w : World} {R : Nat} {s : RA} (h : RK A w R s) {d : Int} (hd : isS s d) :
    Calls Try.prog 23 [ptr R, vi d].toArray w (Ret fun v w' => v = vi 0 ∧ RK A w' R (replaceS s d) ∧ Chg A w w') := by
  refine (Replace_calls h d).mono ?_
  rintro e w' ⟨v, rfl, rfl, hR, k⟩
  rw [if_pos hd] at hR
  exact ⟨_, rfl, by rw [if_pos hd], hR, k⟩
/-! behind Arm -/
structure Arms (n i : Nat) (s : RA) : Prop where
  dn : s.dn = 3
  sn : s.sn = 4
  g0 : goneS s 0 = false
  g1 : goneS s 1 = true
  g2 : goneS s 2 = false
  armed : s.armed = true
  off : offS s = decide (n ≤ i)
  left : i < n → s.left = (n : Int) - i ∧ s.off = false
  len : s.waits.length ≤ i
theorem Arms.step {n i : Nat} {s t : RA} (h : Arms n i s) (e1 : t.dn = s.dn) (e2 : t.sn = s.sn) (e3 : t.gone = s.gone) (e4 : t.armed = (spendS s).armed) (e5 : t.off = (spendS s).off) (e6 : t.left = (spendS s).left) (hl : t.waits.length ≤ i + 1) : Arms n (i + 1) t := by
  have hg : ∀ d, goneS t d = goneS s d := fun d => by rw [goneS, goneS, e3]
  have h1 := h.armed
  have h2 := h.off
  have h3 : (spendS s).armed = true := by unfold spendS; split <;> exact h1
  by_cases hi : i < n
  · obtain ⟨h4, h5⟩ := h.left hi
    have h6 : offS s = false := by rw [h2]; simp; omega
    have h7 : spendS s = { s with left := s.left - 1 } := by
      unfold spendS
      rw [h6, h1]
      rfl
    rw [h7] at e4 e5 e6
    have e5' : t.off = false := e5.trans h5
    have e6' : t.left = (n : Int) - i - 1 := e6.trans (by show s.left - 1 = _; rw [h4])
    refine ⟨e1.trans h.dn, e2.trans h.sn, (hg 0).trans h.g0, (hg 1).trans h.g1, (hg 2).trans h.g2, e4.trans h1, ?_, fun h8 => ⟨?_, e5'⟩, hl⟩
    · unfold offS
      rw [e5', e4.trans h1, e6']
      simp
      omega
    · rw [e6']
      omega
  · have h6 : offS s = true := by rw [h2]; simp; omega
    have h7 : spendS s = { s with off := true } := by
      unfold spendS
      rw [h6]
      rfl
    rw [h7] at e4 e5
    refine ⟨e1.trans h.dn, e2.trans h.sn, (hg 0).trans h.g0, (hg 1).trans h.g1, (hg 2).trans h.g2, e4.trans h1, ?_, fun h8 => by omega, hl⟩
    unfold offS
    rw [show t.off = true from e5]
    simp
    omega
theorem Arms.flush {n i : Nat} {s : RA} (h : Arms n i s) : Arms n (i + 1) (flushS s) := by
  have hl := h.len
  unfold flushS
  split
  · exact h.step (spendS_dn s) (spendS_sn s) (spendS_gone s) rfl rfl rfl (by rw [spendS_waits]; omega)
  · exact h.step (spendS_dn s) (spendS_sn s) (spendS_gone s) rfl rfl rfl (Nat.zero_le _)
theorem Arms.write {n i : Nat} {s : RA} (h : Arms n i s) {d a : Int} {b : List UInt8} (hi : inS s d a) (hg : goneS s d = false) (hb : b.length = 128) : Arms n (i + 1) (writeS s d a b) ∧ writeE s d a b.length = (if offS s = true then 16 else 0) := by
  have hl := h.len
  have he : writeE s d a b.length = (if offS s = true then 16 else 0) := by
    rw [hb]
    simp [writeE, hi, hg]
  refine ⟨?_, he⟩
  unfold writeS
  rw [he]
  by_cases ho : offS s = true
  · rw [if_pos ho, if_neg (by decide), if_pos rfl]
    exact h.step (spendS_dn s) (spendS_sn s) (spendS_gone s) rfl rfl rfl (by rw [spendS_waits]; omega)
  · rw [if_neg ho, if_pos rfl]
    exact h.step (spendS_dn s) (spendS_sn s) (spendS_gone s) rfl rfl rfl (by
      show (s.waits ++ [_]).length ≤ _
      rw [List.length_append]
      simpa using hl)
set_option maxHeartbeats 4000000 in
theorem rackArms_calls {w : World} (n0 : Int) {a1 : Option Addr} {c1 : Nat} {l1 : List Bool} (hb : RSl (· < w.heap.size) w ebool a1 c1 l1) :
    Calls Try.prog 6 [vi n0, .slice a1 l1.length c1].toArray w (Ret fun v w' => v = .bool true ∧ Chg Nob w w') := by
  have hw := Chg.refl Nob w
  obtain ⟨B, hBl, hBc⟩ := bytes_all
  obtain ⟨s0, sd, sn, u0, sg, sh, sl, sw, hNew⟩ := new_all 3 4 (by decide) (by decide)
  have sw0 : s0.waits.length = 0 := by rw [sw]; rfl
  clear sl sw sh
  obtain ⟨n, hn⟩ : ∃ n, n = (B64 n0 % 30).toNat := ⟨_, rfl⟩
  have hn30 : n < 30 := by rw [hn, UInt64.toNat_mod]; exact Nat.mod_lt _ (by decide)
  have i1 : isS s0 1 := by unfold isS; rw [sd]; decide
  refine Calls.of_WC Try.func6 rfl Try.ntmps6 (by simp) ?_
  refine WC.seq (WC.region (WL.assign rfl rfl (WL.nil (WX.then_normal (WC.seq (WC.seq (WC.region (?_))))))))
  refine WL.call eg_11 rfl rfl (known_calls _) ?_
  rintro v w1 ⟨rfl, k1⟩
  have zs_k1 := k1.size
  replace hb := hb.pure k1
  replace hw := hw.pure k1
  refine WL.not rfl rfl (WL.nil (WX.then_normal (WC.cond_false rfl (WC.skip (WX.then_normal (WC.seq (WC.region (?_))))))))
  refine WL.call eg_12 rfl rfl (hNew _) ?_
  rintro v w2 ⟨⟨R, rfl, hR⟩, k2⟩
  replace hR := hR.mono (A' := (w.heap.size ≤ ·)) (fun x hx => by have := hw.size; omega)
  have zs_k2 := k2.size
  replace hb := hb.pure k2
  replace hw := hw.pure k2
  refine WL.move rfl rfl (WL.extract rfl rfl rfl (WL.extract rfl rfl rfl (WL.assign rfl rfl (WL.assign rfl rfl (WL.nil (WX.then_normal (WC.seq (?_))))))))
  refine WC.seq (WC.region (WL.move rfl rfl (?_)))
  refine WL.neqF rfl rfl rfl (by first | rfl | omega | decide) ?_
  refine WL.move rfl rfl (WL.want rfl rfl rfl (WL.move rfl rfl (WL.want rfl rfl rfl (?_))))
  have hok := hR.ok
  refine WL.call eg_20 rfl rfl (LoseU hR i1) ?_
  rintro v w3 ⟨rfl, hR3, k3⟩
  have zs_k3 := k3.size
  replace hb := hb.chg k3 (by first | (intro x h1 h2; exact h2) | (intro x h0 h1 h2; exact hS x h1 h2) | (intro x h0 h1 h2; have h3 : _ = _ := h2; subst h3; exact hSR h1.1) | (intro x h1 h2; have h3 : _ = _ := h2; subst h3; assumption) | (intro x h1 h2; have h3 : _ = _ := h2; exfalso; omega) | (intro b h1 h2 h3; have h4 : _ = _ := h3; (try dsimp only at h2); exfalso; omega) | (intro h1; have h2 : _ = _ := h1; exfalso; omega) | (intro h1; have h2 : _ ≤ _ := h1; exfalso; omega) | (intros; exfalso; (try dsimp only at *); omega) | (intro b h1 h2 h3; exfalso; have h4 := h3.2; (try dsimp only at *); omega) | (intro h1; exfalso; have h4 := h1.2; (try dsimp only at *); omega) | (intro x h1 h2; exfalso; have h4 := h2.2; (try dsimp only at *); omega) | (intro x h1 h2; exact ⟨_, rfl, h2⟩) | (intro x h1 h2; have h4 := h2.1; have h5 := h2.2; exfalso; omega) | (intro x h1 h2; exact h2.1) | (intro x h1 h2; rcases h2.1 with h3 | h3; exact h3; exfalso; omega) | (intro x h1 h2; rcases h2 with h3 | h3; exact h3; exfalso; omega))
  replace hw := hw.chg k3 (by first | (intro x h1 h2; exact h2) | (intro x h0 h1 h2; exact hS x h1 h2) | (intro x h0 h1 h2; have h3 : _ = _ := h2; subst h3; exact hSR h1.1) | (intro x h1 h2; have h3 : _ = _ := h2; subst h3; assumption) | (intro x h1 h2; have h3 : _ = _ := h2; exfalso; omega) | (intro b h1 h2 h3; have h4 : _ = _ := h3; (try dsimp only at h2); exfalso; omega) | (intro h1; have h2 : _ = _ := h1; exfalso; omega) | (intro h1; have h2 : _ ≤ _ := h1; exfalso; omega) | (intros; exfalso; (try dsimp only at *); omega) | (intro b h1 h2 h3; exfalso; have h4 := h3.2; (try dsimp only at *); omega) | (intro h1; exfalso; have h4 := h1.2; (try dsimp only at *); omega) | (intro x h1 h2; exfalso; have h4 := h2.2; (try dsimp only at *); omega) | (intro x h1 h2; exact ⟨_, rfl, h2⟩) | (intro x h1 h2; have h4 := h2.1; have h5 := h2.2; exfalso; omega) | (intro x h1 h2; exact h2.1) | (intro x h1 h2; rcases h2.1 with h3 | h3; exact h3; exfalso; omega) | (intro x h1 h2; rcases h2 with h3 | h3; exact h3; exfalso; omega))
  refine WL.want rfl rfl rfl (?_)
  refine WL.neqF rfl rfl rfl (by first | rfl | omega | decide) ?_
  refine WL.pickF rfl rfl rfl (WL.nil (WX.then_normal (WC.cond_false rfl (WC.skip (WX.then_normal (WC.seq (WC.region (?_))))))))
  refine WL.move rfl rfl (WL.c_i64_u64 Try.underlying3 Try.underlying41 rfl rfl (WL.num rfl rfl (n_rem64 _ _ _ 30 (by decide)) rfl (?_)))
  refine WL.c_u64_i64s (n := n) Try.underlying41 Try.underlying3 rfl ⟨hn.symm, by omega⟩ rfl ?_
  refine WL.assign rfl rfl (WL.nil (WX.then_normal (WC.seq (WC.region (WL.move rfl rfl (WL.move rfl rfl (?_)))))))
  refine WL.call eg_21 rfl rfl (Arm_calls hR3 (n : Int) ⟨by omega, by omega⟩) ?_
  rintro v w4 ⟨rfl, hR4, k4⟩
  have zs_k4 := k4.size
  replace hb := hb.chg k4 (by first | (intro x h1 h2; exact h2) | (intro x h0 h1 h2; exact hS x h1 h2) | (intro x h0 h1 h2; have h3 : _ = _ := h2; subst h3; exact hSR h1.1) | (intro x h1 h2; have h3 : _ = _ := h2; subst h3; assumption) | (intro x h1 h2; have h3 : _ = _ := h2; exfalso; omega) | (intro b h1 h2 h3; have h4 : _ = _ := h3; (try dsimp only at h2); exfalso; omega) | (intro h1; have h2 : _ = _ := h1; exfalso; omega) | (intro h1; have h2 : _ ≤ _ := h1; exfalso; omega) | (intros; exfalso; (try dsimp only at *); omega) | (intro b h1 h2 h3; exfalso; have h4 := h3.2; (try dsimp only at *); omega) | (intro h1; exfalso; have h4 := h1.2; (try dsimp only at *); omega) | (intro x h1 h2; exfalso; have h4 := h2.2; (try dsimp only at *); omega) | (intro x h1 h2; exact ⟨_, rfl, h2⟩) | (intro x h1 h2; have h4 := h2.1; have h5 := h2.2; exfalso; omega) | (intro x h1 h2; exact h2.1) | (intro x h1 h2; rcases h2.1 with h3 | h3; exact h3; exfalso; omega) | (intro x h1 h2; rcases h2 with h3 | h3; exact h3; exfalso; omega))
  replace hw := hw.chg k4 (by first | (intro x h1 h2; exact h2) | (intro x h0 h1 h2; exact hS x h1 h2) | (intro x h0 h1 h2; have h3 : _ = _ := h2; subst h3; exact hSR h1.1) | (intro x h1 h2; have h3 : _ = _ := h2; subst h3; assumption) | (intro x h1 h2; have h3 : _ = _ := h2; exfalso; omega) | (intro b h1 h2 h3; have h4 : _ = _ := h3; (try dsimp only at h2); exfalso; omega) | (intro h1; have h2 : _ = _ := h1; exfalso; omega) | (intro h1; have h2 : _ ≤ _ := h1; exfalso; omega) | (intros; exfalso; (try dsimp only at *); omega) | (intro b h1 h2 h3; exfalso; have h4 := h3.2; (try dsimp only at *); omega) | (intro h1; exfalso; have h4 := h1.2; (try dsimp only at *); omega) | (intro x h1 h2; exfalso; have h4 := h2.2; (try dsimp only at *); omega) | (intro x h1 h2; exact ⟨_, rfl, h2⟩) | (intro x h1 h2; have h4 := h2.1; have h5 := h2.2; exfalso; omega) | (intro x h1 h2; exact h2.1) | (intro x h1 h2; rcases h2.1 with h3 | h3; exact h3; exfalso; omega) | (intro x h1 h2; rcases h2 with h3 | h3; exact h3; exfalso; omega))
  have hArm : Arms n 0 (armS (loseS s0 1 true) n) := by
    refine ⟨sd, sn, ?_, ?_, ?_, ?_, ?_, fun h => ⟨?_, u0.off⟩, ?_⟩
    ·
      show goneS (loseS s0 1 true) 0 = false
      rw [loseS_gone hok i1 true (by decide), if_neg (by decide), sg]
    ·
      show goneS (loseS s0 1 true) 1 = true
      rw [loseS_gone hok i1 true (by decide), if_pos rfl]
    ·
      show goneS (loseS s0 1 true) 2 = false
      rw [loseS_gone hok i1 true (by decide), if_neg (by decide), sg]
    ·
      show decide ((0 : Int) ≤ (n : Int)) = true
      simp
    ·
      unfold offS
      show (s0.off || (decide ((0 : Int) ≤ (n : Int)) && decide ((n : Int) = 0))) = _
      rw [u0.off]
      simp
    ·
      show (n : Int) = n - (0 : Nat)
      omega
    ·
      show (stay 1 s0.waits).length ≤ 0
      have := stay_len 1 s0.waits
      omega
  obtain ⟨s4, es4⟩ : ∃ s4, s4 = armS (loseS s0 1 true) n := ⟨_, rfl⟩
  rw [← es4] at hR4 hArm
  clear es4
  refine WL.nil (WX.then_normal (WC.seq (WC.seq (WC.region (WL.assign rfl rfl (WL.nil (WX.then_normal (?_))))))))
  refine WC.block (?_)
  refine WC.loop (σ := Nat) (fun i => [(0, vi (n : Int)), (1, .slice a1 l1.length c1), (5, ptr R), (7, vi (i : Int))]) (fun i w' => i ≤ 60 ∧ RSl (· < w.heap.size) w' ebool a1 c1 l1 ∧ Chg Nob w w' ∧ ∃ s : RA, Arms n i s ∧ RK (w.heap.size ≤ ·) w' R s) (fun i => 60 - i) 0 ⟨rfl, rfl, rfl, rfl, trivial⟩ ⟨by omega, hb, hw, s4, hArm, hR4⟩ ?_
  clear hb hw hR4 hArm sd sn u0 sg sw0 hNew i1
  rintro i w1 ⟨hi, hb, hw, s, hA, hR⟩
  have hdn := hA.dn
  have hsn := hA.sn
  have hlen := hA.len
  have hO := hA.off
  have zw := hw.size
  refine WC.seq (WC.seq (WC.region (WL.move rfl rfl (WL.move rfl rfl (WL.len Try.underlying23 rfl rfl (?_))))))
  refine WL.lss? rfl rfl rfl (fun h32 => ?_) (fun h32 => ?_)
  ·
    refine WL.move rfl rfl (WL.want rfl rfl rfl (WL.move rfl rfl (WL.want rfl rfl rfl (?_))))
    refine WL.lss? rfl rfl rfl (fun h35 => ?_) (fun h35 => ?_)
    ·
      refine WL.pickT rfl rfl rfl (WL.nil (WX.then_normal (WC.cond_true rfl (WC.skip (WX.then_normal (WC.seq (WC.block (?_))))))))
      refine WC.seq (WC.region (WL.assign rfl rfl (WL.nil (WX.then_normal (WC.seq (WC.seq (WC.region (?_))))))))
      refine WL.move rfl rfl (?_)
      refine WL.call eg_14 rfl rfl (hBc 1 _) ?_
      rintro v w2 ⟨⟨g, rfl, hq, hg1, hg2⟩, k2⟩
      have zs_k2 := k2.size
      replace hb := hb.pure k2
      replace hw := hw.pure k2
      replace hR := hR.pure k2
      have hE : writeE s 1 0 (B 1).length = 3 := by
        have h1 : inS s 1 0 := by unfold inS; rw [hdn, hsn]; decide
        rw [hBl]
        simp [writeE, h1, hA.g1]
      refine WL.call eg_13 rfl rfl (Write_calls hR 1 0 (hR.ne hq).rsl (fun x h1 h2 => h1.2 h2) (by omega)) ?_
      rintro v w3 ⟨rfl, hR3, k3⟩
      rw [hE]
      rw [show writeS s 1 0 (B 1) = s from by unfold writeS; rw [hE]; rfl] at hR3
      replace hR3 := hR3.grow (fun x hx => by show w.heap.size ≤ x; omega)
      have zs_k3 := k3.size
      replace hb := hb.chg k3 (by first | (intro x h1 h2; exact h2) | (intro x h0 h1 h2; exact hS x h1 h2) | (intro x h0 h1 h2; have h3 : _ = _ := h2; subst h3; exact hSR h1.1) | (intro x h1 h2; have h3 : _ = _ := h2; subst h3; assumption) | (intro x h1 h2; have h3 : _ = _ := h2; exfalso; omega) | (intro b h1 h2 h3; have h4 : _ = _ := h3; (try dsimp only at h2); exfalso; omega) | (intro h1; have h2 : _ = _ := h1; exfalso; omega) | (intro h1; have h2 : _ ≤ _ := h1; exfalso; omega) | (intros; exfalso; (try dsimp only at *); omega) | (intro b h1 h2 h3; exfalso; have h4 := h3.2; (try dsimp only at *); omega) | (intro h1; exfalso; have h4 := h1.2; (try dsimp only at *); omega) | (intro x h1 h2; exfalso; have h4 := h2.2; (try dsimp only at *); omega) | (intro x h1 h2; exact ⟨_, rfl, h2⟩) | (intro x h1 h2; have h4 := h2.1; have h5 := h2.2; exfalso; omega) | (intro x h1 h2; exact h2.1) | (intro x h1 h2; rcases h2.1 with h3 | h3; exact h3; exfalso; omega) | (intro x h1 h2; rcases h2 with h3 | h3; exact h3; exfalso; omega))
      replace hw := hw.chg k3 (by first | (intro x h1 h2; exact h2) | (intro x h0 h1 h2; exact hS x h1 h2) | (intro x h0 h1 h2; have h3 : _ = _ := h2; subst h3; exact hSR h1.1) | (intro x h1 h2; have h3 : _ = _ := h2; subst h3; assumption) | (intro x h1 h2; have h3 : _ = _ := h2; exfalso; omega) | (intro b h1 h2 h3; have h4 : _ = _ := h3; (try dsimp only at h2); exfalso; omega) | (intro h1; have h2 : _ = _ := h1; exfalso; omega) | (intro h1; have h2 : _ ≤ _ := h1; exfalso; omega) | (intros; exfalso; (try dsimp only at *); omega) | (intro b h1 h2 h3; exfalso; have h4 := h3.2; (try dsimp only at *); omega) | (intro h1; exfalso; have h4 := h1.2; (try dsimp only at *); omega) | (intro x h1 h2; exfalso; have h4 := h2.2; (try dsimp only at *); omega) | (intro x h1 h2; exact ⟨_, rfl, h2⟩) | (intro x h1 h2; have h4 := h2.1; have h5 := h2.2; exfalso; omega) | (intro x h1 h2; exact h2.1) | (intro x h1 h2; rcases h2.1 with h3 | h3; exact h3; exfalso; omega) | (intro x h1 h2; rcases h2 with h3 | h3; exact h3; exfalso; omega))
      refine WL.neqF rfl rfl rfl (by first | rfl | omega | decide) ?_
      refine WL.nil (WX.then_normal (WC.cond_false rfl (WC.skip (WX.then_normal (WC.seq (WC.seq (WC.region (?_))))))))
      refine WL.move rfl rfl (WL.move rfl rfl (?_))
      obtain ⟨y, hy⟩ : ∃ y, l1[i]? = some y := ⟨_, List.getElem?_eq_getElem (by omega)⟩
      refine WL.indexT Try.underlying23 Try.sizeOf4 hb rfl rfl ⟨hy, rfl⟩ rfl ?_
      intro b_1 o_1 hc_1
      refine WL.load Try.isAgg4 rfl (hc_1 0 _ rfl) rfl (WL.nil (WX.then_normal (?_)))
      first | refine WC.cond_dec rfl (fun hc46 => ?_) (fun hc46 => ?_) | refine WC.cond_split rfl (fun hc46 => ?_) (fun hc46 => ?_)
      ·
        refine WC.region (WL.move rfl rfl (?_))
        refine WL.call eg_15 rfl rfl (Flush_calls hR3) ?_
        rintro v w4 ⟨rfl, hR4, k4⟩
        have zs_k4 := k4.size
        replace hb := hb.chg k4 (by first | (intro x h1 h2; exact h2) | (intro x h0 h1 h2; exact hS x h1 h2) | (intro x h0 h1 h2; have h3 : _ = _ := h2; subst h3; exact hSR h1.1) | (intro x h1 h2; have h3 : _ = _ := h2; subst h3; assumption) | (intro x h1 h2; have h3 : _ = _ := h2; exfalso; omega) | (intro b h1 h2 h3; have h4 : _ = _ := h3; (try dsimp only at h2); exfalso; omega) | (intro h1; have h2 : _ = _ := h1; exfalso; omega) | (intro h1; have h2 : _ ≤ _ := h1; exfalso; omega) | (intros; exfalso; (try dsimp only at *); omega) | (intro b h1 h2 h3; exfalso; have h4 := h3.2; (try dsimp only at *); omega) | (intro h1; exfalso; have h4 := h1.2; (try dsimp only at *); omega) | (intro x h1 h2; exfalso; have h4 := h2.2; (try dsimp only at *); omega) | (intro x h1 h2; exact ⟨_, rfl, h2⟩) | (intro x h1 h2; have h4 := h2.1; have h5 := h2.2; exfalso; omega) | (intro x h1 h2; exact h2.1) | (intro x h1 h2; rcases h2.1 with h3 | h3; exact h3; exfalso; omega) | (intro x h1 h2; rcases h2 with h3 | h3; exact h3; exfalso; omega))
        replace hw := hw.chg k4 (by first | (intro x h1 h2; exact h2) | (intro x h0 h1 h2; exact hS x h1 h2) | (intro x h0 h1 h2; have h3 : _ = _ := h2; subst h3; exact hSR h1.1) | (intro x h1 h2; have h3 : _ = _ := h2; subst h3; assumption) | (intro x h1 h2; have h3 : _ = _ := h2; exfalso; omega) | (intro b h1 h2 h3; have h4 : _ = _ := h3; (try dsimp only at h2); exfalso; omega) | (intro h1; have h2 : _ = _ := h1; exfalso; omega) | (intro h1; have h2 : _ ≤ _ := h1; exfalso; omega) | (intros; exfalso; (try dsimp only at *); omega) | (intro b h1 h2 h3; exfalso; have h4 := h3.2; (try dsimp only at *); omega) | (intro h1; exfalso; have h4 := h1.2; (try dsimp only at *); omega) | (intro x h1 h2; exfalso; have h4 := h2.2; (try dsimp only at *); omega) | (intro x h1 h2; exact ⟨_, rfl, h2⟩) | (intro x h1 h2; have h4 := h2.1; have h5 := h2.2; exfalso; omega) | (intro x h1 h2; exact h2.1) | (intro x h1 h2; rcases h2.1 with h3 | h3; exact h3; exfalso; omega) | (intro x h1 h2; rcases h2 with h3 | h3; exact h3; exfalso; omega))
        have hA4 := hA.flush
        refine WL.assign rfl rfl (WL.nil (WX.then_normal (WC.seq (WC.region (WL.move rfl rfl (WL.eql rfl rfl rfl (WL.move rfl rfl (?_))))))))
        refine WL.move rfl rfl (WL.geq rfl rfl rfl (?_))
        refine WL.bneqF Try.underlying4 rfl rfl (by rw [hO]; by_cases h : n ≤ i <;> simp [h] <;> omega) rfl ?_
        refine WL.move rfl rfl (WL.want rfl rfl rfl (WL.move rfl rfl (WL.want rfl rfl rfl (?_))))
        refine WL.neq? rfl rfl rfl (fun h66 => ?_) (fun h66 => ?_)
        ·
          refine WL.want rfl rfl rfl (WL.move rfl rfl (WL.want rfl rfl rfl (WL.move rfl rfl (WL.want rfl rfl rfl (?_)))))
          refine WL.neqF rfl rfl rfl ((by revert h66; split <;> simp)) ?_
          refine WL.want rfl rfl rfl (WL.pickT rfl rfl rfl (WL.pickF rfl rfl rfl (WL.nil (WX.then_normal (WC.cond_false rfl (WC.skip (WX.block_normal (?_))))))))
          refine WX.then_normal (WC.region (WL.move rfl rfl (WL.add64 rfl rfl (by first | omega | (constructor <;> omega)) rfl (WL.assign rfl rfl (WL.nil (?_))))))
          exact WX.loop_next (i + 1) ⟨rfl, rfl, rfl, rfl, trivial⟩ ⟨by omega, hb, hw, _, hA4, hR4⟩ (by omega)
        ·
          refine WL.want rfl rfl rfl (WL.move rfl rfl (WL.pass rfl rfl rfl rfl (WL.pass rfl rfl rfl rfl (WL.want rfl rfl rfl (WL.pickF rfl rfl rfl (WL.pickF rfl rfl rfl (WL.nil (?_))))))))
          refine WX.then_normal (WC.cond_false rfl (WC.skip (WX.block_normal (WX.then_normal (WC.region (WL.move rfl rfl (WL.add64 rfl rfl (by first | omega | (constructor <;> omega)) rfl (?_))))))))
          refine WL.assign rfl rfl (WL.nil (?_))
          exact WX.loop_next (i + 1) ⟨rfl, rfl, rfl, rfl, trivial⟩ ⟨by omega, hb, hw, _, hA4, hR4⟩ (by omega)
      ·
        refine WC.region (WL.move rfl rfl (WL.move rfl rfl (WL.rem64i rfl rfl (by constructor <;> omega) rfl (WL.mul64 rfl rfl (by first | omega | (constructor <;> omega)) rfl (WL.move rfl rfl (WL.rem64i rfl rfl (by constructor <;> omega) rfl (WL.move rfl rfl (?_))))))))
        refine WL.call eg_14 rfl rfl (hBc (i : Int) _) ?_
        rintro v w5 ⟨⟨g5, rfl, hq5, hg51, hg52⟩, k5⟩
        have zs_k5 := k5.size
        replace hb := hb.pure k5
        replace hw := hw.pure k5
        replace hR3 := hR3.pure k5
        have zw5 := hw.size
        have hin : inS s ((i : Int) % 2 * 2) ((i : Int) % 4) := by unfold inS; rw [hdn, hsn]; refine ⟨?_, ?_, ?_, ?_⟩ <;> omega
        have hgn : goneS s ((i : Int) % 2 * 2) = false := by
          have h1 : (i : Int) % 2 * 2 = 0 ∨ (i : Int) % 2 * 2 = 2 := by omega
          rcases h1 with h1 | h1
          ·
            rw [h1]; exact hA.g0
          ·
            rw [h1]; exact hA.g2
        obtain ⟨hA4, hE4⟩ := hA.write hin hgn (hBl (i : Int))
        refine WL.call eg_13 rfl rfl (Write_calls hR3 ((i : Int) % 2 * 2) ((i : Int) % 4) (hR3.ne hq5).rsl (fun x h1 h2 => h1.2 h2) (by omega)) ?_
        rintro v w6 ⟨rfl, hR6, k6⟩
        rw [hE4]
        have hR4 := hR6.grow (fun x hx => by show w.heap.size ≤ x; omega)
        clear hR6
        have zs_k6 := k6.size
        replace hb := hb.chg k6 (by first | (intro x h1 h2; exact h2) | (intro x h0 h1 h2; exact hS x h1 h2) | (intro x h0 h1 h2; have h3 : _ = _ := h2; subst h3; exact hSR h1.1) | (intro x h1 h2; have h3 : _ = _ := h2; subst h3; assumption) | (intro x h1 h2; have h3 : _ = _ := h2; exfalso; omega) | (intro b h1 h2 h3; have h4 : _ = _ := h3; (try dsimp only at h2); exfalso; omega) | (intro h1; have h2 : _ = _ := h1; exfalso; omega) | (intro h1; have h2 : _ ≤ _ := h1; exfalso; omega) | (intros; exfalso; (try dsimp only at *); omega) | (intro b h1 h2 h3; exfalso; have h4 := h3.2; (try dsimp only at *); omega) | (intro h1; exfalso; have h4 := h1.2; (try dsimp only at *); omega) | (intro x h1 h2; exfalso; have h4 := h2.2; (try dsimp only at *); omega) | (intro x h1 h2; exact ⟨_, rfl, h2⟩) | (intro x h1 h2; have h4 := h2.1; have h5 := h2.2; exfalso; omega) | (intro x h1 h2; exact h2.1) | (intro x h1 h2; rcases h2.1 with h3 | h3; exact h3; exfalso; omega) | (intro x h1 h2; rcases h2 with h3 | h3; exact h3; exfalso; omega))
        replace hw := hw.chg k6 (by first | (intro x h1 h2; exact h2) | (intro x h0 h1 h2; exact hS x h1 h2) | (intro x h0 h1 h2; have h3 : _ = _ := h2; subst h3; exact hSR h1.1) | (intro x h1 h2; have h3 : _ = _ := h2; subst h3; assumption) | (intro x h1 h2; have h3 : _ = _ := h2; exfalso; omega) | (intro b h1 h2 h3; have h4 : _ = _ := h3; (try dsimp only at h2); exfalso; omega) | (intro h1; have h2 : _ = _ := h1; exfalso; omega) | (intro h1; have h2 : _ ≤ _ := h1; exfalso; omega) | (intros; exfalso; (try dsimp only at *); omega) | (intro b h1 h2 h3; exfalso; have h4 := h3.2; (try dsimp only at *); omega) | (intro h1; exfalso; have h4 := h1.2; (try dsimp only at *); omega) | (intro x h1 h2; exfalso; have h4 := h2.2; (try dsimp only at *); omega) | (intro x h1 h2; exact ⟨_, rfl, h2⟩) | (intro x h1 h2; have h4 := h2.1; have h5 := h2.2; exfalso; omega) | (intro x h1 h2; exact h2.1) | (intro x h1 h2; rcases h2.1 with h3 | h3; exact h3; exfalso; omega) | (intro x h1 h2; rcases h2 with h3 | h3; exact h3; exfalso; omega))
        refine WL.assign rfl rfl (WL.nil (WX.then_normal (WC.seq (WC.region (WL.move rfl rfl (WL.eql rfl rfl rfl (WL.move rfl rfl (?_))))))))
        refine WL.move rfl rfl (WL.geq rfl rfl rfl (?_))
        refine WL.bneqF Try.underlying4 rfl rfl (by rw [hO]; by_cases h : n ≤ i <;> simp [h] <;> omega) rfl ?_
        refine WL.move rfl rfl (WL.want rfl rfl rfl (WL.move rfl rfl (WL.want rfl rfl rfl (?_))))
        refine WL.neq? rfl rfl rfl (fun h66 => ?_) (fun h66 => ?_)
        ·
          refine WL.want rfl rfl rfl (WL.move rfl rfl (WL.want rfl rfl rfl (WL.move rfl rfl (WL.want rfl rfl rfl (?_)))))
          refine WL.neqF rfl rfl rfl ((by revert h66; split <;> simp)) ?_
          refine WL.want rfl rfl rfl (WL.pickT rfl rfl rfl (WL.pickF rfl rfl rfl (WL.nil (WX.then_normal (WC.cond_false rfl (WC.skip (WX.block_normal (?_))))))))
          refine WX.then_normal (WC.region (WL.move rfl rfl (WL.add64 rfl rfl (by first | omega | (constructor <;> omega)) rfl (WL.assign rfl rfl (WL.nil (?_))))))
          exact WX.loop_next (i + 1) ⟨rfl, rfl, rfl, rfl, trivial⟩ ⟨by omega, hb, hw, _, hA4, hR4⟩ (by omega)
        ·
          refine WL.want rfl rfl rfl (WL.move rfl rfl (WL.pass rfl rfl rfl rfl (WL.pass rfl rfl rfl rfl (WL.want rfl rfl rfl (WL.pickF rfl rfl rfl (WL.pickF rfl rfl rfl (WL.nil (?_))))))))
          refine WX.then_normal (WC.cond_false rfl (WC.skip (WX.block_normal (WX.then_normal (WC.region (WL.move rfl rfl (WL.add64 rfl rfl (by first | omega | (constructor <;> omega)) rfl (?_))))))))
          refine WL.assign rfl rfl (WL.nil (?_))
          exact WX.loop_next (i + 1) ⟨rfl, rfl, rfl, rfl, trivial⟩ ⟨by omega, hb, hw, _, hA4, hR4⟩ (by omega)
    ·
      refine WL.pickT rfl rfl rfl (WL.nil (WX.then_normal (WC.cond_false rfl (WC.exit (WX.then_exit (WX.then_exit (WX.block_here (?_))))))))
      refine WX.then_normal (WC.seq (WC.region (WL.move rfl rfl (?_))))
      refine WL.call eg_17 rfl rfl (Crash0_calls hR) ?_
      rintro v w7 ⟨rfl, hR7, k7⟩
      have zs_k7 := k7.size
      replace hb := hb.chg k7 (by first | (intro x h1 h2; exact h2) | (intro x h0 h1 h2; exact hS x h1 h2) | (intro x h0 h1 h2; have h3 : _ = _ := h2; subst h3; exact hSR h1.1) | (intro x h1 h2; have h3 : _ = _ := h2; subst h3; assumption) | (intro x h1 h2; have h3 : _ = _ := h2; exfalso; omega) | (intro b h1 h2 h3; have h4 : _ = _ := h3; (try dsimp only at h2); exfalso; omega) | (intro h1; have h2 : _ = _ := h1; exfalso; omega) | (intro h1; have h2 : _ ≤ _ := h1; exfalso; omega) | (intros; exfalso; (try dsimp only at *); omega) | (intro b h1 h2 h3; exfalso; have h4 := h3.2; (try dsimp only at *); omega) | (intro h1; exfalso; have h4 := h1.2; (try dsimp only at *); omega) | (intro x h1 h2; exfalso; have h4 := h2.2; (try dsimp only at *); omega) | (intro x h1 h2; exact ⟨_, rfl, h2⟩) | (intro x h1 h2; have h4 := h2.1; have h5 := h2.2; exfalso; omega) | (intro x h1 h2; exact h2.1) | (intro x h1 h2; rcases h2.1 with h3 | h3; exact h3; exfalso; omega) | (intro x h1 h2; rcases h2 with h3 | h3; exact h3; exfalso; omega))
      replace hw := hw.chg k7 (by first | (intro x h1 h2; exact h2) | (intro x h0 h1 h2; exact hS x h1 h2) | (intro x h0 h1 h2; have h3 : _ = _ := h2; subst h3; exact hSR h1.1) | (intro x h1 h2; have h3 : _ = _ := h2; subst h3; assumption) | (intro x h1 h2; have h3 : _ = _ := h2; exfalso; omega) | (intro b h1 h2 h3; have h4 : _ = _ := h3; (try dsimp only at h2); exfalso; omega) | (intro h1; have h2 : _ = _ := h1; exfalso; omega) | (intro h1; have h2 : _ ≤ _ := h1; exfalso; omega) | (intros; exfalso; (try dsimp only at *); omega) | (intro b h1 h2 h3; exfalso; have h4 := h3.2; (try dsimp only at *); omega) | (intro h1; exfalso; have h4 := h1.2; (try dsimp only at *); omega) | (intro x h1 h2; exfalso; have h4 := h2.2; (try dsimp only at *); omega) | (intro x h1 h2; exact ⟨_, rfl, h2⟩) | (intro x h1 h2; have h4 := h2.1; have h5 := h2.2; exfalso; omega) | (intro x h1 h2; exact h2.1) | (intro x h1 h2; rcases h2.1 with h3 | h3; exact h3; exfalso; omega) | (intro x h1 h2; rcases h2 with h3 | h3; exact h3; exfalso; omega))
      refine WL.nil (WX.then_normal (WC.seq (WC.region (WL.move rfl rfl (?_)))))
      refine WL.call eg_14 rfl rfl (hBc 5 _) ?_
      rintro v w8 ⟨⟨g8, rfl, hq8, hg81, hg82⟩, k8⟩
      have zs_k8 := k8.size
      replace hb := hb.pure k8
      replace hw := hw.pure k8
      replace hR7 := hR7.pure k8
      have zw8 := hw.size
      refine WL.call eg_13 rfl rfl (WriteU hR7 (fun x hx => by omega) (crash_up s []) (show inS (crashS s []) 0 0 from by unfold inS; show 0 ≤ (0 : Int) ∧ (0 : Int) < (s.dn : Int) ∧ 0 ≤ (0 : Int) ∧ (0 : Int) < (s.sn : Int); rw [hdn, hsn]; decide) (show goneS s 0 = false from hA.g0) hq8 (hBl 5) (by show 0 ≤ 100000; decide)) ?_
      rintro v w9 ⟨rfl, hR9, k9⟩
      have zs_k9 := k9.size
      replace hb := hb.chg k9 (by first | (intro x h1 h2; exact h2) | (intro x h0 h1 h2; exact hS x h1 h2) | (intro x h0 h1 h2; have h3 : _ = _ := h2; subst h3; exact hSR h1.1) | (intro x h1 h2; have h3 : _ = _ := h2; subst h3; assumption) | (intro x h1 h2; have h3 : _ = _ := h2; exfalso; omega) | (intro b h1 h2 h3; have h4 : _ = _ := h3; (try dsimp only at h2); exfalso; omega) | (intro h1; have h2 : _ = _ := h1; exfalso; omega) | (intro h1; have h2 : _ ≤ _ := h1; exfalso; omega) | (intros; exfalso; (try dsimp only at *); omega) | (intro b h1 h2 h3; exfalso; have h4 := h3.2; (try dsimp only at *); omega) | (intro h1; exfalso; have h4 := h1.2; (try dsimp only at *); omega) | (intro x h1 h2; exfalso; have h4 := h2.2; (try dsimp only at *); omega) | (intro x h1 h2; exact ⟨_, rfl, h2⟩) | (intro x h1 h2; have h4 := h2.1; have h5 := h2.2; exfalso; omega) | (intro x h1 h2; exact h2.1) | (intro x h1 h2; rcases h2.1 with h3 | h3; exact h3; exfalso; omega) | (intro x h1 h2; rcases h2 with h3 | h3; exact h3; exfalso; omega))
      replace hw := hw.chg k9 (by first | (intro x h1 h2; exact h2) | (intro x h0 h1 h2; exact hS x h1 h2) | (intro x h0 h1 h2; have h3 : _ = _ := h2; subst h3; exact hSR h1.1) | (intro x h1 h2; have h3 : _ = _ := h2; subst h3; assumption) | (intro x h1 h2; have h3 : _ = _ := h2; exfalso; omega) | (intro b h1 h2 h3; have h4 : _ = _ := h3; (try dsimp only at h2); exfalso; omega) | (intro h1; have h2 : _ = _ := h1; exfalso; omega) | (intro h1; have h2 : _ ≤ _ := h1; exfalso; omega) | (intros; exfalso; (try dsimp only at *); omega) | (intro b h1 h2 h3; exfalso; have h4 := h3.2; (try dsimp only at *); omega) | (intro h1; exfalso; have h4 := h1.2; (try dsimp only at *); omega) | (intro x h1 h2; exfalso; have h4 := h2.2; (try dsimp only at *); omega) | (intro x h1 h2; exact ⟨_, rfl, h2⟩) | (intro x h1 h2; have h4 := h2.1; have h5 := h2.2; exfalso; omega) | (intro x h1 h2; exact h2.1) | (intro x h1 h2; rcases h2.1 with h3 | h3; exact h3; exfalso; omega) | (intro x h1 h2; rcases h2 with h3 | h3; exact h3; exfalso; omega))
      refine WL.eqlT rfl rfl rfl (by first | rfl | omega | decide) ?_
      refine WL.move rfl rfl (WL.want rfl rfl rfl (WL.move rfl rfl (WL.want rfl rfl rfl (?_))))
      refine WL.call eg_15 rfl rfl (FlushU hR9 (addS_up (crash_up s []) _ _)) ?_
      rintro v w10 ⟨rfl, hR10, k10⟩
      have zs_k10 := k10.size
      replace hb := hb.chg k10 (by first | (intro x h1 h2; exact h2) | (intro x h0 h1 h2; exact hS x h1 h2) | (intro x h0 h1 h2; have h3 : _ = _ := h2; subst h3; exact hSR h1.1) | (intro x h1 h2; have h3 : _ = _ := h2; subst h3; assumption) | (intro x h1 h2; have h3 : _ = _ := h2; exfalso; omega) | (intro b h1 h2 h3; have h4 : _ = _ := h3; (try dsimp only at h2); exfalso; omega) | (intro h1; have h2 : _ = _ := h1; exfalso; omega) | (intro h1; have h2 : _ ≤ _ := h1; exfalso; omega) | (intros; exfalso; (try dsimp only at *); omega) | (intro b h1 h2 h3; exfalso; have h4 := h3.2; (try dsimp only at *); omega) | (intro h1; exfalso; have h4 := h1.2; (try dsimp only at *); omega) | (intro x h1 h2; exfalso; have h4 := h2.2; (try dsimp only at *); omega) | (intro x h1 h2; exact ⟨_, rfl, h2⟩) | (intro x h1 h2; have h4 := h2.1; have h5 := h2.2; exfalso; omega) | (intro x h1 h2; exact h2.1) | (intro x h1 h2; rcases h2.1 with h3 | h3; exact h3; exfalso; omega) | (intro x h1 h2; rcases h2 with h3 | h3; exact h3; exfalso; omega))
      replace hw := hw.chg k10 (by first | (intro x h1 h2; exact h2) | (intro x h0 h1 h2; exact hS x h1 h2) | (intro x h0 h1 h2; have h3 : _ = _ := h2; subst h3; exact hSR h1.1) | (intro x h1 h2; have h3 : _ = _ := h2; subst h3; assumption) | (intro x h1 h2; have h3 : _ = _ := h2; exfalso; omega) | (intro b h1 h2 h3; have h4 : _ = _ := h3; (try dsimp only at h2); exfalso; omega) | (intro h1; have h2 : _ = _ := h1; exfalso; omega) | (intro h1; have h2 : _ ≤ _ := h1; exfalso; omega) | (intros; exfalso; (try dsimp only at *); omega) | (intro b h1 h2 h3; exfalso; have h4 := h3.2; (try dsimp only at *); omega) | (intro h1; exfalso; have h4 := h1.2; (try dsimp only at *); omega) | (intro x h1 h2; exfalso; have h4 := h2.2; (try dsimp only at *); omega) | (intro x h1 h2; exact ⟨_, rfl, h2⟩) | (intro x h1 h2; have h4 := h2.1; have h5 := h2.2; exfalso; omega) | (intro x h1 h2; exact h2.1) | (intro x h1 h2; rcases h2.1 with h3 | h3; exact h3; exfalso; omega) | (intro x h1 h2; rcases h2 with h3 | h3; exact h3; exfalso; omega))
      refine WL.want rfl rfl rfl (?_)
      refine WL.eqlT rfl rfl rfl (by first | rfl | omega | decide) ?_
      refine WL.pickT rfl rfl rfl (WL.assign rfl rfl (WL.nil (WX.then_normal (WC.ret (?_)))))
      refine WX.ret1 (.inl rfl) Try.results6 rfl ?_
      exact ⟨_, rfl, rfl, hw⟩
  ·
    refine WL.move rfl rfl (WL.pass rfl rfl rfl rfl (WL.pass rfl rfl rfl rfl (WL.pickF rfl rfl rfl (WL.nil (WX.then_normal (WC.cond_false rfl (WC.exit (?_))))))))
    refine WX.then_exit (WX.then_exit (WX.block_here (WX.then_normal (WC.seq (WC.region (WL.move rfl rfl (?_)))))))
    refine WL.call eg_17 rfl rfl (Crash0_calls hR) ?_
    rintro v w7 ⟨rfl, hR7, k7⟩
    have zs_k7 := k7.size
    replace hb := hb.chg k7 (by first | (intro x h1 h2; exact h2) | (intro x h0 h1 h2; exact hS x h1 h2) | (intro x h0 h1 h2; have h3 : _ = _ := h2; subst h3; exact hSR h1.1) | (intro x h1 h2; have h3 : _ = _ := h2; subst h3; assumption) | (intro x h1 h2; have h3 : _ = _ := h2; exfalso; omega) | (intro b h1 h2 h3; have h4 : _ = _ := h3; (try dsimp only at h2); exfalso; omega) | (intro h1; have h2 : _ = _ := h1; exfalso; omega) | (intro h1; have h2 : _ ≤ _ := h1; exfalso; omega) | (intros; exfalso; (try dsimp only at *); omega) | (intro b h1 h2 h3; exfalso; have h4 := h3.2; (try dsimp only at *); omega) | (intro h1; exfalso; have h4 := h1.2; (try dsimp only at *); omega) | (intro x h1 h2; exfalso; have h4 := h2.2; (try dsimp only at *); omega) | (intro x h1 h2; exact ⟨_, rfl, h2⟩) | (intro x h1 h2; have h4 := h2.1; have h5 := h2.2; exfalso; omega) | (intro x h1 h2; exact h2.1) | (intro x h1 h2; rcases h2.1 with h3 | h3; exact h3; exfalso; omega) | (intro x h1 h2; rcases h2 with h3 | h3; exact h3; exfalso; omega))
    replace hw := hw.chg k7 (by first | (intro x h1 h2; exact h2) | (intro x h0 h1 h2; exact hS x h1 h2) | (intro x h0 h1 h2; have h3 : _ = _ := h2; subst h3; exact hSR h1.1) | (intro x h1 h2; have h3 : _ = _ := h2; subst h3; assumption) | (intro x h1 h2; have h3 : _ = _ := h2; exfalso; omega) | (intro b h1 h2 h3; have h4 : _ = _ := h3; (try dsimp only at h2); exfalso; omega) | (intro h1; have h2 : _ = _ := h1; exfalso; omega) | (intro h1; have h2 : _ ≤ _ := h1; exfalso; omega) | (intros; exfalso; (try dsimp only at *); omega) | (intro b h1 h2 h3; exfalso; have h4 := h3.2; (try dsimp only at *); omega) | (intro h1; exfalso; have h4 := h1.2; (try dsimp only at *); omega) | (intro x h1 h2; exfalso; have h4 := h2.2; (try dsimp only at *); omega) | (intro x h1 h2; exact ⟨_, rfl, h2⟩) | (intro x h1 h2; have h4 := h2.1; have h5 := h2.2; exfalso; omega) | (intro x h1 h2; exact h2.1) | (intro x h1 h2; rcases h2.1 with h3 | h3; exact h3; exfalso; omega) | (intro x h1 h2; rcases h2 with h3 | h3; exact h3; exfalso; omega))
    refine WL.nil (WX.then_normal (WC.seq (WC.region (WL.move rfl rfl (?_)))))
    refine WL.call eg_14 rfl rfl (hBc 5 _) ?_
    rintro v w8 ⟨⟨g8, rfl, hq8, hg81, hg82⟩, k8⟩
    have zs_k8 := k8.size
    replace hb := hb.pure k8
    replace hw := hw.pure k8
    replace hR7 := hR7.pure k8
    have zw8 := hw.size
    refine WL.call eg_13 rfl rfl (WriteU hR7 (fun x hx => by omega) (crash_up s []) (show inS (crashS s []) 0 0 from by unfold inS; show 0 ≤ (0 : Int) ∧ (0 : Int) < (s.dn : Int) ∧ 0 ≤ (0 : Int) ∧ (0 : Int) < (s.sn : Int); rw [hdn, hsn]; decide) (show goneS s 0 = false from hA.g0) hq8 (hBl 5) (by show 0 ≤ 100000; decide)) ?_
    rintro v w9 ⟨rfl, hR9, k9⟩
    have zs_k9 := k9.size
    replace hb := hb.chg k9 (by first | (intro x h1 h2; exact h2) | (intro x h0 h1 h2; exact hS x h1 h2) | (intro x h0 h1 h2; have h3 : _ = _ := h2; subst h3; exact hSR h1.1) | (intro x h1 h2; have h3 : _ = _ := h2; subst h3; assumption) | (intro x h1 h2; have h3 : _ = _ := h2; exfalso; omega) | (intro b h1 h2 h3; have h4 : _ = _ := h3; (try dsimp only at h2); exfalso; omega) | (intro h1; have h2 : _ = _ := h1; exfalso; omega) | (intro h1; have h2 : _ ≤ _ := h1; exfalso; omega) | (intros; exfalso; (try dsimp only at *); omega) | (intro b h1 h2 h3; exfalso; have h4 := h3.2; (try dsimp only at *); omega) | (intro h1; exfalso; have h4 := h1.2; (try dsimp only at *); omega) | (intro x h1 h2; exfalso; have h4 := h2.2; (try dsimp only at *); omega) | (intro x h1 h2; exact ⟨_, rfl, h2⟩) | (intro x h1 h2; have h4 := h2.1; have h5 := h2.2; exfalso; omega) | (intro x h1 h2; exact h2.1) | (intro x h1 h2; rcases h2.1 with h3 | h3; exact h3; exfalso; omega) | (intro x h1 h2; rcases h2 with h3 | h3; exact h3; exfalso; omega))
    replace hw := hw.chg k9 (by first | (intro x h1 h2; exact h2) | (intro x h0 h1 h2; exact hS x h1 h2) | (intro x h0 h1 h2; have h3 : _ = _ := h2; subst h3; exact hSR h1.1) | (intro x h1 h2; have h3 : _ = _ := h2; subst h3; assumption) | (intro x h1 h2; have h3 : _ = _ := h2; exfalso; omega) | (intro b h1 h2 h3; have h4 : _ = _ := h3; (try dsimp only at h2); exfalso; omega) | (intro h1; have h2 : _ = _ := h1; exfalso; omega) | (intro h1; have h2 : _ ≤ _ := h1; exfalso; omega) | (intros; exfalso; (try dsimp only at *); omega) | (intro b h1 h2 h3; exfalso; have h4 := h3.2; (try dsimp only at *); omega) | (intro h1; exfalso; have h4 := h1.2; (try dsimp only at *); omega) | (intro x h1 h2; exfalso; have h4 := h2.2; (try dsimp only at *); omega) | (intro x h1 h2; exact ⟨_, rfl, h2⟩) | (intro x h1 h2; have h4 := h2.1; have h5 := h2.2; exfalso; omega) | (intro x h1 h2; exact h2.1) | (intro x h1 h2; rcases h2.1 with h3 | h3; exact h3; exfalso; omega) | (intro x h1 h2; rcases h2 with h3 | h3; exact h3; exfalso; omega))
    refine WL.eqlT rfl rfl rfl (by first | rfl | omega | decide) ?_
    refine WL.move rfl rfl (WL.want rfl rfl rfl (WL.move rfl rfl (WL.want rfl rfl rfl (?_))))
    refine WL.call eg_15 rfl rfl (FlushU hR9 (addS_up (crash_up s []) _ _)) ?_
    rintro v w10 ⟨rfl, hR10, k10⟩
    have zs_k10 := k10.size
    replace hb := hb.chg k10 (by first | (intro x h1 h2; exact h2) | (intro x h0 h1 h2; exact hS x h1 h2) | (intro x h0 h1 h2; have h3 : _ = _ := h2; subst h3; exact hSR h1.1) | (intro x h1 h2; have h3 : _ = _ := h2; subst h3; assumption) | (intro x h1 h2; have h3 : _ = _ := h2; exfalso; omega) | (intro b h1 h2 h3; have h4 : _ = _ := h3; (try dsimp only at h2); exfalso; omega) | (intro h1; have h2 : _ = _ := h1; exfalso; omega) | (intro h1; have h2 : _ ≤ _ := h1; exfalso; omega) | (intros; exfalso; (try dsimp only at *); omega) | (intro b h1 h2 h3; exfalso; have h4 := h3.2; (try dsimp only at *); omega) | (intro h1; exfalso; have h4 := h1.2; (try dsimp only at *); omega) | (intro x h1 h2; exfalso; have h4 := h2.2; (try dsimp only at *); omega) | (intro x h1 h2; exact ⟨_, rfl, h2⟩) | (intro x h1 h2; have h4 := h2.1; have h5 := h2.2; exfalso; omega) | (intro x h1 h2; exact h2.1) | (intro x h1 h2; rcases h2.1 with h3 | h3; exact h3; exfalso; omega) | (intro x h1 h2; rcases h2 with h3 | h3; exact h3; exfalso; omega))
    replace hw := hw.chg k10 (by first | (intro x h1 h2; exact h2) | (intro x h0 h1 h2; exact hS x h1 h2) | (intro x h0 h1 h2; have h3 : _ = _ := h2; subst h3; exact hSR h1.1) | (intro x h1 h2; have h3 : _ = _ := h2; subst h3; assumption) | (intro x h1 h2; have h3 : _ = _ := h2; exfalso; omega) | (intro b h1 h2 h3; have h4 : _ = _ := h3; (try dsimp only at h2); exfalso; omega) | (intro h1; have h2 : _ = _ := h1; exfalso; omega) | (intro h1; have h2 : _ ≤ _ := h1; exfalso; omega) | (intros; exfalso; (try dsimp only at *); omega) | (intro b h1 h2 h3; exfalso; have h4 := h3.2; (try dsimp only at *); omega) | (intro h1; exfalso; have h4 := h1.2; (try dsimp only at *); omega) | (intro x h1 h2; exfalso; have h4 := h2.2; (try dsimp only at *); omega) | (intro x h1 h2; exact ⟨_, rfl, h2⟩) | (intro x h1 h2; have h4 := h2.1; have h5 := h2.2; exfalso; omega) | (intro x h1 h2; exact h2.1) | (intro x h1 h2; rcases h2.1 with h3 | h3; exact h3; exfalso; omega) | (intro x h1 h2; rcases h2 with h3 | h3; exact h3; exfalso; omega))
    refine WL.want rfl rfl rfl (?_)
    refine WL.eqlT rfl rfl rfl (by first | rfl | omega | decide) ?_
    refine WL.pickT rfl rfl rfl (WL.assign rfl rfl (WL.nil (WX.then_normal (WC.ret (?_)))))
    refine WX.ret1 (.inl rfl) Try.results6 rfl ?_
    exact ⟨_, rfl, rfl, hw⟩
end Go.Proofs.Ytdjlfbadcijjaaa
