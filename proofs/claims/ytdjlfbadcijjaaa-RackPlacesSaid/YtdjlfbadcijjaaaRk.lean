import Derived.Test.YtdjlfbadcijjaaaRj
namespace Go.Proofs.Ytdjlfbadcijjaaa
open Go.RowKit Go.HL

theorem tmod_two (x : Int) : x.tmod 2 ≠ 0 ↔ x % 2 = 1 := by
  constructor
  · intro h
    rcases Int.emod_two_eq x with h1 | h1
    · exact absurd (Int.tmod_eq_zero_of_dvd (Int.dvd_of_emod_eq_zero h1)) h
    · exact h1
  · intro h h1
    have h2 := Int.emod_eq_zero_of_dvd (Int.dvd_of_tmod_eq_zero h1)
    omega
/-- of those with which a sector was written the last that is kept -/
def wantL (B : Int → List UInt8) (l0 l1 : List Int) : Nat → List UInt8
  | 0 => B (-1)
  | i + 1 => if keep l1 i = true then B (l0.getD i 0) else wantL B l0 l1 i
theorem wantL_len {B : Int → List UInt8} (h : ∀ f, (B f).length = 128) (l0 l1 : List Int) (i : Nat) : (wantL B l0 l1 i).length = 128 := by
  induction i with
  | zero => exact h _
  | succ i ih =>
    simp only [wantL]
    split
    · exact h _
    · exact ih
theorem picks_last {B : Int → List UInt8} {l0 l1 : List Int} {ws l : List (Pl × List UInt8)} (h0 : (mget l (0, 0)).getD zeros = B (-1)) (hw : ∀ j, j < ws.length → ws[j]? = some ((0, 0), B (l0.getD j 0))) : ∀ i, i ≤ ws.length → (mget (puts (keep l1) ws l i) (0, 0)).getD zeros = wantL B l0 l1 i := by
  intro i
  induction i with
  | zero => intro _; exact h0
  | succ i ih =>
    intro hi
    rw [mget_puts (hw i (by omega)), wantL]
    by_cases h1 : keep l1 i = true
    · rw [if_pos ⟨h1, rfl⟩, if_pos h1]
      rfl
    · rw [if_neg (fun h => h1 h.1), if_neg h1]
      exact ih (by omega)
set_option maxHeartbeats 4000000 in
theorem rackPicks_calls {w : World} {a0 a1 : Option Addr} {c0 c1 : Nat} {l0 l1 : List Int} (hf : RSl (· < w.heap.size) w ei a0 c0 l0) (hp : RSl (· < w.heap.size) w ei a1 c1 l1) (hl1 : l1.length * 8 ≤ 140737488351232) :
    Calls Try.prog 4 [.slice a0 l0.length c0, .slice a1 l1.length c1].toArray w (Ret fun v w' => v = .bool true ∧ Chg Nob w w') := by
  have hw := Chg.refl Nob w
  obtain ⟨B, hBl, hBc⟩ := bytes_all
  obtain ⟨s0, sd, sn, u0, sg, sh, sl, sw, hNew⟩ := new_all 3 1 (by decide) (by decide)
  have sw0 : s0.waits.length = 0 := by rw [sw]; rfl
  have i00 : inS s0 0 0 := by unfold inS; rw [sd, sn]; decide
  clear sl sw
  refine Calls.of_WC Try.func4 rfl Try.ntmps4 (by simp) ?_
  refine WC.seq (WC.region (WL.assign rfl rfl (WL.nil (WX.then_normal (WC.seq (WC.seq (WC.region (?_))))))))
  refine WL.call eg_11 rfl rfl (known_calls _) ?_
  rintro v w1 ⟨rfl, k1⟩
  have zs_k1 := k1.size
  replace hf := hf.pure k1
  replace hp := hp.pure k1
  replace hw := hw.pure k1
  refine WL.not rfl rfl (WL.nil (WX.then_normal (WC.cond_false rfl (WC.skip (WX.then_normal (WC.seq (WC.region (?_))))))))
  refine WL.call eg_12 rfl rfl (hNew _) ?_
  rintro v w1 ⟨⟨R, rfl, hR⟩, k1⟩
  replace hR := hR.mono (A' := (w.heap.size ≤ ·)) (fun x hx => by have := hw.size; omega)
  have zs_k1 := k1.size
  replace hf := hf.pure k1
  replace hp := hp.pure k1
  replace hw := hw.pure k1
  refine WL.move rfl rfl (WL.extract rfl rfl rfl (WL.extract rfl rfl rfl (WL.assign rfl rfl (WL.assign rfl rfl (WL.nil (WX.then_normal (WC.seq (?_))))))))
  refine WC.seq (WC.region (WL.move rfl rfl (?_)))
  refine WL.neqF rfl rfl rfl (by first | rfl | omega | decide) ?_
  refine WL.move rfl rfl (WL.want rfl rfl rfl (WL.move rfl rfl (WL.want rfl rfl rfl (?_))))
  refine WL.call eg_14 rfl rfl (hBc (-1) _) ?_
  rintro v w2 ⟨⟨g, rfl, hq, hg1, hg2⟩, k2⟩
  have zw := hw.size
  have zs_k2 := k2.size
  replace hf := hf.pure k2
  replace hp := hp.pure k2
  replace hw := hw.pure k2
  replace hR := hR.pure k2
  refine WL.want rfl rfl rfl (?_)
  refine WL.call eg_13 rfl rfl (WriteU hR (fun x hx => by omega) u0 i00 (sg 0) hq (hBl _) (by omega)) ?_
  rintro v w3 ⟨rfl, hR3, k3⟩
  have zs_k3 := k3.size
  replace hf := hf.chg k3 (by first | (intro x h1 h2; exact h2) | (intro x h0 h1 h2; exact hS x h1 h2) | (intro x h0 h1 h2; have h3 : _ = _ := h2; subst h3; exact hSR h1.1) | (intro x h1 h2; have h3 : _ = _ := h2; subst h3; assumption) | (intro x h1 h2; have h3 : _ = _ := h2; exfalso; omega) | (intro b h1 h2 h3; have h4 : _ = _ := h3; (try dsimp only at h2); exfalso; omega) | (intro h1; have h2 : _ = _ := h1; exfalso; omega) | (intros; exfalso; (try dsimp only at *); omega) | (intro b h1 h2 h3; exfalso; have h4 := h3.2; (try dsimp only at *); omega) | (intro h1; exfalso; have h4 := h1.2; (try dsimp only at *); omega) | (intro x h1 h2; exfalso; have h4 := h2.2; (try dsimp only at *); omega) | (intro x h1 h2; exact ⟨_, rfl, h2⟩) | (intro x h1 h2; exact h2.1) | (intro x h1 h2; rcases h2.1 with h3 | h3; exact h3; exfalso; omega) | (intro x h1 h2; rcases h2 with h3 | h3; exact h3; exfalso; omega))
  replace hp := hp.chg k3 (by first | (intro x h1 h2; exact h2) | (intro x h0 h1 h2; exact hS x h1 h2) | (intro x h0 h1 h2; have h3 : _ = _ := h2; subst h3; exact hSR h1.1) | (intro x h1 h2; have h3 : _ = _ := h2; subst h3; assumption) | (intro x h1 h2; have h3 : _ = _ := h2; exfalso; omega) | (intro b h1 h2 h3; have h4 : _ = _ := h3; (try dsimp only at h2); exfalso; omega) | (intro h1; have h2 : _ = _ := h1; exfalso; omega) | (intros; exfalso; (try dsimp only at *); omega) | (intro b h1 h2 h3; exfalso; have h4 := h3.2; (try dsimp only at *); omega) | (intro h1; exfalso; have h4 := h1.2; (try dsimp only at *); omega) | (intro x h1 h2; exfalso; have h4 := h2.2; (try dsimp only at *); omega) | (intro x h1 h2; exact ⟨_, rfl, h2⟩) | (intro x h1 h2; exact h2.1) | (intro x h1 h2; rcases h2.1 with h3 | h3; exact h3; exfalso; omega) | (intro x h1 h2; rcases h2 with h3 | h3; exact h3; exfalso; omega))
  replace hw := hw.chg k3 (by first | (intro x h1 h2; exact h2) | (intro x h0 h1 h2; exact hS x h1 h2) | (intro x h0 h1 h2; have h3 : _ = _ := h2; subst h3; exact hSR h1.1) | (intro x h1 h2; have h3 : _ = _ := h2; subst h3; assumption) | (intro x h1 h2; have h3 : _ = _ := h2; exfalso; omega) | (intro b h1 h2 h3; have h4 : _ = _ := h3; (try dsimp only at h2); exfalso; omega) | (intro h1; have h2 : _ = _ := h1; exfalso; omega) | (intros; exfalso; (try dsimp only at *); omega) | (intro b h1 h2 h3; exfalso; have h4 := h3.2; (try dsimp only at *); omega) | (intro h1; exfalso; have h4 := h1.2; (try dsimp only at *); omega) | (intro x h1 h2; exfalso; have h4 := h2.2; (try dsimp only at *); omega) | (intro x h1 h2; exact ⟨_, rfl, h2⟩) | (intro x h1 h2; exact h2.1) | (intro x h1 h2; rcases h2.1 with h3 | h3; exact h3; exfalso; omega) | (intro x h1 h2; rcases h2 with h3 | h3; exact h3; exfalso; omega))
  refine WL.want rfl rfl rfl (?_)
  refine WL.neqF rfl rfl rfl (by first | rfl | omega | decide) ?_
  refine WL.pickF rfl rfl rfl (WL.move rfl rfl (WL.want rfl rfl rfl (WL.move rfl rfl (WL.want rfl rfl rfl (?_)))))
  refine WL.call eg_15 rfl rfl (FlushU hR3 (addS_up u0 _ _)) ?_
  rintro v w4 ⟨rfl, hR4, k4⟩
  have zs_k4 := k4.size
  replace hf := hf.chg k4 (by first | (intro x h1 h2; exact h2) | (intro x h0 h1 h2; exact hS x h1 h2) | (intro x h0 h1 h2; have h3 : _ = _ := h2; subst h3; exact hSR h1.1) | (intro x h1 h2; have h3 : _ = _ := h2; subst h3; assumption) | (intro x h1 h2; have h3 : _ = _ := h2; exfalso; omega) | (intro b h1 h2 h3; have h4 : _ = _ := h3; (try dsimp only at h2); exfalso; omega) | (intro h1; have h2 : _ = _ := h1; exfalso; omega) | (intros; exfalso; (try dsimp only at *); omega) | (intro b h1 h2 h3; exfalso; have h4 := h3.2; (try dsimp only at *); omega) | (intro h1; exfalso; have h4 := h1.2; (try dsimp only at *); omega) | (intro x h1 h2; exfalso; have h4 := h2.2; (try dsimp only at *); omega) | (intro x h1 h2; exact ⟨_, rfl, h2⟩) | (intro x h1 h2; exact h2.1) | (intro x h1 h2; rcases h2.1 with h3 | h3; exact h3; exfalso; omega) | (intro x h1 h2; rcases h2 with h3 | h3; exact h3; exfalso; omega))
  replace hp := hp.chg k4 (by first | (intro x h1 h2; exact h2) | (intro x h0 h1 h2; exact hS x h1 h2) | (intro x h0 h1 h2; have h3 : _ = _ := h2; subst h3; exact hSR h1.1) | (intro x h1 h2; have h3 : _ = _ := h2; subst h3; assumption) | (intro x h1 h2; have h3 : _ = _ := h2; exfalso; omega) | (intro b h1 h2 h3; have h4 : _ = _ := h3; (try dsimp only at h2); exfalso; omega) | (intro h1; have h2 : _ = _ := h1; exfalso; omega) | (intros; exfalso; (try dsimp only at *); omega) | (intro b h1 h2 h3; exfalso; have h4 := h3.2; (try dsimp only at *); omega) | (intro h1; exfalso; have h4 := h1.2; (try dsimp only at *); omega) | (intro x h1 h2; exfalso; have h4 := h2.2; (try dsimp only at *); omega) | (intro x h1 h2; exact ⟨_, rfl, h2⟩) | (intro x h1 h2; exact h2.1) | (intro x h1 h2; rcases h2.1 with h3 | h3; exact h3; exfalso; omega) | (intro x h1 h2; rcases h2 with h3 | h3; exact h3; exfalso; omega))
  replace hw := hw.chg k4 (by first | (intro x h1 h2; exact h2) | (intro x h0 h1 h2; exact hS x h1 h2) | (intro x h0 h1 h2; have h3 : _ = _ := h2; subst h3; exact hSR h1.1) | (intro x h1 h2; have h3 : _ = _ := h2; subst h3; assumption) | (intro x h1 h2; have h3 : _ = _ := h2; exfalso; omega) | (intro b h1 h2 h3; have h4 : _ = _ := h3; (try dsimp only at h2); exfalso; omega) | (intro h1; have h2 : _ = _ := h1; exfalso; omega) | (intros; exfalso; (try dsimp only at *); omega) | (intro b h1 h2 h3; exfalso; have h4 := h3.2; (try dsimp only at *); omega) | (intro h1; exfalso; have h4 := h1.2; (try dsimp only at *); omega) | (intro x h1 h2; exfalso; have h4 := h2.2; (try dsimp only at *); omega) | (intro x h1 h2; exact ⟨_, rfl, h2⟩) | (intro x h1 h2; exact h2.1) | (intro x h1 h2; rcases h2.1 with h3 | h3; exact h3; exfalso; omega) | (intro x h1 h2; rcases h2 with h3 | h3; exact h3; exfalso; omega))
  have hL : lastS (allS (addS s0 (0, 0) (B (-1)))) (0, 0) = B (-1) := by rw [allS_last, addS_held, if_pos rfl]
  have us := allS_up (addS_up u0 (0, 0) (B (-1)))
  have sw3 : (allS (addS s0 (0, 0) (B (-1)))).waits = [] := rfl
  have sd3 : (allS (addS s0 (0, 0) (B (-1)))).dn = 3 := sd
  have sn3 : (allS (addS s0 (0, 0) (B (-1)))).sn = 1 := sn
  have sg3 : ∀ d, goneS (allS (addS s0 (0, 0) (B (-1)))) d = false := sg
  obtain ⟨s3, es3⟩ : ∃ s3, s3 = allS (addS s0 (0, 0) (B (-1))) := ⟨_, rfl⟩
  rw [← es3] at hR4 hL us sw3 sd3 sn3 sg3
  clear es3
  refine WL.want rfl rfl rfl (?_)
  refine WL.neqF rfl rfl rfl (by first | rfl | omega | decide) ?_
  refine WL.pickF rfl rfl rfl (WL.nil (WX.then_normal (WC.cond_false rfl (WC.skip (WX.then_normal (WC.seq (WC.region (?_))))))))
  replace hR4 := hR4.old
  have zw4 := hw.size
  refine WL.call eg_14 rfl rfl (hBc (-1) _) ?_
  rintro v w2 ⟨⟨gw, rfl, hg, hgw1, hgw2⟩, k2⟩
  have zs_k2 := k2.size
  replace hf := hf.pure k2
  replace hp := hp.pure k2
  replace hw := hw.pure k2
  replace hR4 := hR4.pure k2
  replace hR4 := hR4.mono (A' := fun x => w.heap.size ≤ x ∧ x ≠ gw) (fun x hx => ⟨hx.1, by omega⟩)
  refine WL.assign rfl rfl (WL.nil (WX.then_normal (WC.seq (WC.seq (WC.region (WL.assign rfl rfl (WL.nil (?_))))))))
  refine WX.then_normal (WC.block (?_))
  refine WC.loop (σ := Nat × Nat) (fun q => [(0, .slice a0 l0.length c0), (1, .slice a1 l1.length c1), (5, ptr R), (7, .slice (some ⟨q.2, 0, none⟩) (wantL B l0 l1 q.1).length 128), (8, vi (q.1 : Int))]) (fun q w' => (q.1 ≤ 40 ∧ q.1 ≤ l0.length) ∧ RSl (· < w.heap.size) w' ei a0 c0 l0 ∧ RSl (· < w.heap.size) w' ei a1 c1 l1 ∧ Chg Nob w w' ∧ RSl (· = q.2) w' eb (some ⟨q.2, 0, none⟩) 128 (wantL B l0 l1 q.1) ∧ (w.heap.size ≤ q.2 ∧ q.2 < w'.heap.size) ∧ ∃ s : RA, s.dn = 3 ∧ s.sn = 1 ∧ Up s ∧ (∀ d, goneS s d = false) ∧ lastS s (0, 0) = B (-1) ∧ s.waits.length = q.1 ∧ (∀ j, j < s.waits.length → s.waits[j]? = some ((0, 0), B (l0.getD j 0))) ∧ RK (fun x => w.heap.size ≤ x ∧ x ≠ q.2) w' R s) (fun q => 40 - q.1) (0, gw) ⟨rfl, rfl, rfl, rfl, rfl, trivial⟩ ⟨⟨by omega, by omega⟩, hf, hp, hw, hg.rsl, ⟨by omega, by omega⟩, s3, sd3, sn3, us, sg3, hL, by rw [sw3]; rfl, (fun j hj => by rw [sw3] at hj; cases hj), hR4⟩ ?_
  clear hf hp hw hR4 u0 sg sh sw0 sd sn hNew hg hgw1 hgw2 hL us sw3 sd3 sn3 sg3 i00
  rintro ⟨i, gw⟩ w1 ⟨⟨hi, hi2⟩, hf, hp, hw, hg, ⟨hgw1, hgw2⟩, s, sd, sn, us, sg, sl, sw, swj, hR⟩
  simp only at hi hi2 hg hgw1 hgw2 sw hR
  dsimp only
  have i00 : inS s 0 0 := by unfold inS; rw [sd, sn]; decide
  have zw := hw.size
  have hwl := wantL_len hBl l0 l1 i
  refine WC.seq (WC.seq (WC.region (WL.move rfl rfl (WL.move rfl rfl (WL.len Try.underlying22 rfl rfl (?_))))))
  refine WL.lss? rfl rfl rfl (fun h33 => ?_) (fun h33 => ?_)
  ·
    refine WL.move rfl rfl (WL.want rfl rfl rfl (WL.move rfl rfl (WL.want rfl rfl rfl (?_))))
    refine WL.lss? rfl rfl rfl (fun h36 => ?_) (fun h36 => ?_)
    ·
      refine WL.pickT rfl rfl rfl (WL.nil (WX.then_normal (WC.cond_true rfl (WC.skip (WX.then_normal (WC.seq (WC.block (?_))))))))
      refine WC.seq (WC.seq (WC.region (WL.move rfl rfl (WL.move rfl rfl (WL.move rfl rfl (?_))))))
      obtain ⟨f, hx⟩ : ∃ f, l0[i]? = some f := ⟨_, List.getElem?_eq_getElem (by omega)⟩
      have hfD : l0.getD i 0 = f := by rw [List.getD_eq_getElem?_getD, hx]; rfl
      refine WL.indexT Try.underlying22 Try.sizeOf3 hf rfl rfl ⟨hx, rfl⟩ rfl ?_
      intro b_1 o_1 hc_1
      refine WL.load Try.isAgg3 rfl (hc_1 0 _ rfl) rfl (?_)
      refine WL.call eg_14 rfl rfl (hBc f _) ?_
      rintro v w2 ⟨⟨g, rfl, hq, hg1, hg2⟩, k2⟩
      have zs_k2 := k2.size
      replace hf := hf.pure k2
      replace hp := hp.pure k2
      replace hw := hw.pure k2
      replace hg := hg.pure k2
      replace hR := hR.pure k2
      refine WL.call eg_13 rfl rfl (WriteU hR (fun x hx => by omega) us i00 (sg 0) hq (hBl f) (by omega)) ?_
      rintro v w3 ⟨rfl, hR3, k3⟩
      have zs_k3 := k3.size
      replace hf := hf.chg k3 (by first | (intro x h1 h2; exact h2) | (intro x h0 h1 h2; exact hS x h1 h2) | (intro x h0 h1 h2; have h3 : _ = _ := h2; subst h3; exact hSR h1.1) | (intro x h1 h2; have h3 : _ = _ := h2; subst h3; assumption) | (intro x h1 h2; have h3 : _ = _ := h2; exfalso; omega) | (intro b h1 h2 h3; have h4 : _ = _ := h3; (try dsimp only at h2); exfalso; omega) | (intro h1; have h2 : _ = _ := h1; exfalso; omega) | (intros; exfalso; (try dsimp only at *); omega) | (intro b h1 h2 h3; exfalso; have h4 := h3.2; (try dsimp only at *); omega) | (intro h1; exfalso; have h4 := h1.2; (try dsimp only at *); omega) | (intro x h1 h2; exfalso; have h4 := h2.2; (try dsimp only at *); omega) | (intro x h1 h2; exact ⟨_, rfl, h2⟩) | (intro x h1 h2; exact h2.1) | (intro x h1 h2; rcases h2.1 with h3 | h3; exact h3; exfalso; omega) | (intro x h1 h2; rcases h2 with h3 | h3; exact h3; exfalso; omega))
      replace hp := hp.chg k3 (by first | (intro x h1 h2; exact h2) | (intro x h0 h1 h2; exact hS x h1 h2) | (intro x h0 h1 h2; have h3 : _ = _ := h2; subst h3; exact hSR h1.1) | (intro x h1 h2; have h3 : _ = _ := h2; subst h3; assumption) | (intro x h1 h2; have h3 : _ = _ := h2; exfalso; omega) | (intro b h1 h2 h3; have h4 : _ = _ := h3; (try dsimp only at h2); exfalso; omega) | (intro h1; have h2 : _ = _ := h1; exfalso; omega) | (intros; exfalso; (try dsimp only at *); omega) | (intro b h1 h2 h3; exfalso; have h4 := h3.2; (try dsimp only at *); omega) | (intro h1; exfalso; have h4 := h1.2; (try dsimp only at *); omega) | (intro x h1 h2; exfalso; have h4 := h2.2; (try dsimp only at *); omega) | (intro x h1 h2; exact ⟨_, rfl, h2⟩) | (intro x h1 h2; exact h2.1) | (intro x h1 h2; rcases h2.1 with h3 | h3; exact h3; exfalso; omega) | (intro x h1 h2; rcases h2 with h3 | h3; exact h3; exfalso; omega))
      replace hw := hw.chg k3 (by first | (intro x h1 h2; exact h2) | (intro x h0 h1 h2; exact hS x h1 h2) | (intro x h0 h1 h2; have h3 : _ = _ := h2; subst h3; exact hSR h1.1) | (intro x h1 h2; have h3 : _ = _ := h2; subst h3; assumption) | (intro x h1 h2; have h3 : _ = _ := h2; exfalso; omega) | (intro b h1 h2 h3; have h4 : _ = _ := h3; (try dsimp only at h2); exfalso; omega) | (intro h1; have h2 : _ = _ := h1; exfalso; omega) | (intros; exfalso; (try dsimp only at *); omega) | (intro b h1 h2 h3; exfalso; have h4 := h3.2; (try dsimp only at *); omega) | (intro h1; exfalso; have h4 := h1.2; (try dsimp only at *); omega) | (intro x h1 h2; exfalso; have h4 := h2.2; (try dsimp only at *); omega) | (intro x h1 h2; exact ⟨_, rfl, h2⟩) | (intro x h1 h2; exact h2.1) | (intro x h1 h2; rcases h2.1 with h3 | h3; exact h3; exfalso; omega) | (intro x h1 h2; rcases h2 with h3 | h3; exact h3; exfalso; omega))
      replace hg := hg.chg k3 (by first | (intro x h1 h2; exact h2) | (intro x h0 h1 h2; exact hS x h1 h2) | (intro x h0 h1 h2; have h3 : _ = _ := h2; subst h3; exact hSR h1.1) | (intro x h1 h2; have h3 : _ = _ := h2; subst h3; assumption) | (intro x h1 h2; have h3 : _ = _ := h2; exfalso; omega) | (intro b h1 h2 h3; have h4 : _ = _ := h3; (try dsimp only at h2); exfalso; omega) | (intro h1; have h2 : _ = _ := h1; exfalso; omega) | (intros; exfalso; (try dsimp only at *); omega) | (intro b h1 h2 h3; exfalso; have h4 := h3.2; (try dsimp only at *); omega) | (intro h1; exfalso; have h4 := h1.2; (try dsimp only at *); omega) | (intro x h1 h2; exfalso; have h4 := h2.2; (try dsimp only at *); omega) | (intro x h1 h2; exact ⟨_, rfl, h2⟩) | (intro x h1 h2; exact h2.1) | (intro x h1 h2; rcases h2.1 with h3 | h3; exact h3; exfalso; omega) | (intro x h1 h2; rcases h2 with h3 | h3; exact h3; exfalso; omega))
      have us3 := addS_up us (0, 0) (B f)
      have sl3 : lastS (addS s (0, 0) (B f)) (0, 0) = B (-1) := sl
      have sw3 : (addS s (0, 0) (B f)).waits.length = i + 1 := by
        show (s.waits ++ [_]).length = i + 1
        rw [List.length_append, sw]
        rfl
      have swj3 : ∀ j, j < (addS s (0, 0) (B f)).waits.length → (addS s (0, 0) (B f)).waits[j]? = some ((0, 0), B (l0.getD j 0)) := by
        intro j hj
        show (s.waits ++ [((0, 0), B f)])[j]? = _
        rcases Nat.lt_or_ge j s.waits.length with h1 | h1
        ·
          rw [List.getElem?_append_left h1]
          exact swj j h1
        ·
          have h2 : j = i := by omega
          subst h2
          rw [List.getElem?_append_right h1, sw, Nat.sub_self, hfD]
          rfl
      have sd3 : (addS s (0, 0) (B f)).dn = 3 := sd
      have sn3 : (addS s (0, 0) (B f)).sn = 1 := sn
      have sg3 : ∀ d, goneS (addS s (0, 0) (B f)) d = false := sg
      obtain ⟨s3, es3⟩ : ∃ s3, s3 = addS s (0, 0) (B f) := ⟨_, rfl⟩
      rw [← es3] at hR3 us3 sl3 sw3 swj3 sd3 sn3 sg3
      clear es3
      refine WL.neqF rfl rfl rfl (by first | rfl | omega | decide) ?_
      refine WL.nil (WX.then_normal (WC.cond_false rfl (WC.skip (WX.then_normal (WC.seq (WC.region (WL.move rfl rfl (?_))))))))
      refine WL.move rfl rfl (WL.len Try.underlying22 rfl rfl (?_))
      refine WL.lss? rfl rfl rfl (fun h51 => ?_) (fun h51 => ?_)
      ·
        refine WL.move rfl rfl (WL.want rfl rfl rfl (WL.move rfl rfl (WL.want rfl rfl rfl (WL.move rfl rfl (WL.want rfl rfl rfl (?_))))))
        obtain ⟨y, hy⟩ : ∃ y, l1[i]? = some y := ⟨_, List.getElem?_eq_getElem (by omega)⟩
        refine WL.indexT Try.underlying22 Try.sizeOf3 hp rfl rfl ⟨hy, rfl⟩ rfl ?_
        intro b_2 o_2 hc_2
        refine WL.want rfl rfl rfl (WL.load Try.isAgg3 rfl (hc_2 0 _ rfl) rfl (WL.want rfl rfl rfl (?_)))
        refine WL.remk rfl rfl (by decide) rfl ?_
        refine WL.want rfl rfl rfl (?_)
        refine WL.neq? rfl rfl rfl (fun h58 => ?_) (fun h58 => ?_)
        ·
          refine WL.pickT rfl rfl rfl (WL.nil (WX.then_normal (WC.cond_true rfl (WC.region (WL.move rfl rfl (WL.move rfl rfl (?_)))))))
          refine WL.indexT Try.underlying22 Try.sizeOf3 hf rfl rfl ⟨hx, rfl⟩ rfl ?_
          intro b_3 o_3 hc_3
          refine WL.load Try.isAgg3 rfl (hc_3 0 _ rfl) rfl (?_)
          replace hR3 := hR3.old
          have zw5 := hw.size
          refine WL.call eg_14 rfl rfl (hBc f _) ?_
          rintro v w5 ⟨⟨g5, rfl, hg5, hg51, hg52⟩, k5⟩
          have zs_k5 := k5.size
          replace hf := hf.pure k5
          replace hp := hp.pure k5
          replace hw := hw.pure k5
          replace hR3 := hR3.pure k5
          replace hR3 := hR3.mono (A' := fun x => w.heap.size ≤ x ∧ x ≠ g5) (fun x hx => ⟨hx.1.1, by omega⟩)
          refine WL.assign rfl rfl (WL.nil (WX.block_normal (WX.then_normal (WC.region (WL.move rfl rfl (WL.add64 rfl rfl (by first | omega | (constructor <;> omega)) rfl (WL.assign rfl rfl (?_))))))))
          refine WL.nil (?_)
          first
            | (have hy1 : y.tmod 2 ≠ 0 := h58
               have hwn : wantL B l0 l1 (i + 1) = B f := by rw [wantL, if_pos (by simp [keep, hy, (tmod_two y).1 hy1]), hfD]
               exact WX.loop_next (i + 1, g5) ⟨rfl, rfl, rfl, by rw [hwn]; rfl, rfl, trivial⟩ ⟨⟨by show i + 1 ≤ 40; omega, by show i + 1 ≤ l0.length; omega⟩, hf, hp, hw, by rw [hwn]; exact hg5.rsl, ⟨by show _ ≤ g5; omega, by show g5 < _; omega⟩, s3, sd3, sn3, us3, sg3, sl3, sw3, swj3, hR3⟩ (by show 40 - (i + 1) < 40 - i; omega))
            | (have hy0 : y.tmod 2 = 0 := h58
               have hy1 : ¬ y % 2 = 1 := fun h => (tmod_two y).2 h hy0
               have hwn : wantL B l0 l1 (i + 1) = wantL B l0 l1 i := by rw [wantL, if_neg (by simp [keep, hy, hy1])]
               exact WX.loop_next (i + 1, gw) ⟨rfl, rfl, rfl, by rw [hwn]; rfl, rfl, trivial⟩ ⟨⟨by show i + 1 ≤ 40; omega, by show i + 1 ≤ l0.length; omega⟩, hf, hp, hw, by rw [hwn]; exact hg, ⟨by show _ ≤ gw; omega, by show gw < _; omega⟩, s3, sd3, sn3, us3, sg3, sl3, sw3, swj3, hR3⟩ (by show 40 - (i + 1) < 40 - i; omega))
            | (have hy : l1[i]? = none := List.getElem?_eq_none (by omega)
               have hwn : wantL B l0 l1 (i + 1) = wantL B l0 l1 i := by rw [wantL, if_neg (by simp [keep, hy])]
               exact WX.loop_next (i + 1, gw) ⟨rfl, rfl, rfl, by rw [hwn]; rfl, rfl, trivial⟩ ⟨⟨by show i + 1 ≤ 40; omega, by show i + 1 ≤ l0.length; omega⟩, hf, hp, hw, by rw [hwn]; exact hg, ⟨by show _ ≤ gw; omega, by show gw < _; omega⟩, s3, sd3, sn3, us3, sg3, sl3, sw3, swj3, hR3⟩ (by show 40 - (i + 1) < 40 - i; omega))
        ·
          refine WL.pickT rfl rfl rfl (WL.nil (WX.then_normal (WC.cond_false rfl (WC.skip (WX.block_normal (WX.then_normal (WC.region (?_))))))))
          refine WL.move rfl rfl (WL.add64 rfl rfl (by first | omega | (constructor <;> omega)) rfl (WL.assign rfl rfl (WL.nil (?_))))
          first
            | (have hy1 : y.tmod 2 ≠ 0 := h58
               have hwn : wantL B l0 l1 (i + 1) = B f := by rw [wantL, if_pos (by simp [keep, hy, (tmod_two y).1 hy1]), hfD]
               exact WX.loop_next (i + 1, g5) ⟨rfl, rfl, rfl, by rw [hwn]; rfl, rfl, trivial⟩ ⟨⟨by show i + 1 ≤ 40; omega, by show i + 1 ≤ l0.length; omega⟩, hf, hp, hw, by rw [hwn]; exact hg5.rsl, ⟨by show _ ≤ g5; omega, by show g5 < _; omega⟩, s3, sd3, sn3, us3, sg3, sl3, sw3, swj3, hR3⟩ (by show 40 - (i + 1) < 40 - i; omega))
            | (have hy0 : y.tmod 2 = 0 := h58
               have hy1 : ¬ y % 2 = 1 := fun h => (tmod_two y).2 h hy0
               have hwn : wantL B l0 l1 (i + 1) = wantL B l0 l1 i := by rw [wantL, if_neg (by simp [keep, hy, hy1])]
               exact WX.loop_next (i + 1, gw) ⟨rfl, rfl, rfl, by rw [hwn]; rfl, rfl, trivial⟩ ⟨⟨by show i + 1 ≤ 40; omega, by show i + 1 ≤ l0.length; omega⟩, hf, hp, hw, by rw [hwn]; exact hg, ⟨by show _ ≤ gw; omega, by show gw < _; omega⟩, s3, sd3, sn3, us3, sg3, sl3, sw3, swj3, hR3⟩ (by show 40 - (i + 1) < 40 - i; omega))
            | (have hy : l1[i]? = none := List.getElem?_eq_none (by omega)
               have hwn : wantL B l0 l1 (i + 1) = wantL B l0 l1 i := by rw [wantL, if_neg (by simp [keep, hy])]
               exact WX.loop_next (i + 1, gw) ⟨rfl, rfl, rfl, by rw [hwn]; rfl, rfl, trivial⟩ ⟨⟨by show i + 1 ≤ 40; omega, by show i + 1 ≤ l0.length; omega⟩, hf, hp, hw, by rw [hwn]; exact hg, ⟨by show _ ≤ gw; omega, by show gw < _; omega⟩, s3, sd3, sn3, us3, sg3, sl3, sw3, swj3, hR3⟩ (by show 40 - (i + 1) < 40 - i; omega))
      ·
        refine WL.move rfl rfl (WL.pass rfl rfl rfl rfl (WL.pass rfl rfl rfl rfl (WL.pass rfl rfl rfl rfl (WL.pass rfl rfl rfl rfl (WL.pass rfl rfl rfl rfl (WL.pass rfl rfl rfl rfl (WL.pickF rfl rfl rfl (?_))))))))
        refine WL.nil (WX.then_normal (WC.cond_false rfl (WC.skip (WX.block_normal (WX.then_normal (WC.region (WL.move rfl rfl (?_))))))))
        refine WL.add64 rfl rfl (by first | omega | (constructor <;> omega)) rfl (WL.assign rfl rfl (WL.nil (?_)))
        first
          | (have hy1 : y.tmod 2 ≠ 0 := h58
             have hwn : wantL B l0 l1 (i + 1) = B f := by rw [wantL, if_pos (by simp [keep, hy, (tmod_two y).1 hy1]), hfD]
             exact WX.loop_next (i + 1, g5) ⟨rfl, rfl, rfl, by rw [hwn]; rfl, rfl, trivial⟩ ⟨⟨by show i + 1 ≤ 40; omega, by show i + 1 ≤ l0.length; omega⟩, hf, hp, hw, by rw [hwn]; exact hg5.rsl, ⟨by show _ ≤ g5; omega, by show g5 < _; omega⟩, s3, sd3, sn3, us3, sg3, sl3, sw3, swj3, hR3⟩ (by show 40 - (i + 1) < 40 - i; omega))
          | (have hy0 : y.tmod 2 = 0 := h58
             have hy1 : ¬ y % 2 = 1 := fun h => (tmod_two y).2 h hy0
             have hwn : wantL B l0 l1 (i + 1) = wantL B l0 l1 i := by rw [wantL, if_neg (by simp [keep, hy, hy1])]
             exact WX.loop_next (i + 1, gw) ⟨rfl, rfl, rfl, by rw [hwn]; rfl, rfl, trivial⟩ ⟨⟨by show i + 1 ≤ 40; omega, by show i + 1 ≤ l0.length; omega⟩, hf, hp, hw, by rw [hwn]; exact hg, ⟨by show _ ≤ gw; omega, by show gw < _; omega⟩, s3, sd3, sn3, us3, sg3, sl3, sw3, swj3, hR3⟩ (by show 40 - (i + 1) < 40 - i; omega))
          | (have hy : l1[i]? = none := List.getElem?_eq_none (by omega)
             have hwn : wantL B l0 l1 (i + 1) = wantL B l0 l1 i := by rw [wantL, if_neg (by simp [keep, hy])]
             exact WX.loop_next (i + 1, gw) ⟨rfl, rfl, rfl, by rw [hwn]; rfl, rfl, trivial⟩ ⟨⟨by show i + 1 ≤ 40; omega, by show i + 1 ≤ l0.length; omega⟩, hf, hp, hw, by rw [hwn]; exact hg, ⟨by show _ ≤ gw; omega, by show gw < _; omega⟩, s3, sd3, sn3, us3, sg3, sl3, sw3, swj3, hR3⟩ (by show 40 - (i + 1) < 40 - i; omega))
    ·
      refine WL.pickT rfl rfl rfl (WL.nil (WX.then_normal (WC.cond_false rfl (WC.exit (WX.then_exit (WX.then_exit (WX.block_here (?_))))))))
      refine WX.then_normal (WC.seq (WC.region (WL.move rfl rfl (?_))))
      replace hR := hR.old
      refine WL.build (e := ei) [] Try.underlying22 Try.sizeOf3 Try.zeroValue3 rfl rfl rfl (by first | (simp [Value.cells]; done) | (simp [Value.cells] <;> rfl) | (simp [Value.cells, eb, ei, es, ebool, e32, e64]; done)) (by decide) rfl ?_
      intro a_hb0 w_hb0 hb0 l_hb0 z_hb0 k_hb0
      have zs_k_hb0 := k_hb0.size
      replace hf := hf.pure k_hb0
      replace hp := hp.pure k_hb0
      replace hw := hw.pure k_hb0
      replace hg := hg.pure k_hb0
      replace hR := hR.pure k_hb0
      refine WL.move rfl rfl (?_)
      refine WL.append (e := ei) info_3 rfl Try.underlying22 rfl rfl hb0 (hp.src Try.underlying22) (by (try simp only [List.length_append, List.length_cons, List.length_nil] at *); omega) (by intro b hb; first | (apply hS; omega) | ((try dsimp only); omega)) rfl ?_
      intro a_hb1 c_hb1 w_hb1 hb1 g_hb1 n_hb1
      have z_hb1 := g_hb1.chg.size
      have zs_g_hb1_chg := g_hb1.chg.size
      replace hf := hf.chg g_hb1.chg (by first | (intro x h1 h2; exact h2) | (intro x h0 h1 h2; exact hS x h1 h2) | (intro x h0 h1 h2; have h3 : _ = _ := h2; subst h3; exact hSR h1.1) | (intro x h1 h2; have h3 : _ = _ := h2; subst h3; assumption) | (intro x h1 h2; have h3 : _ = _ := h2; exfalso; omega) | (intro b h1 h2 h3; have h4 : _ = _ := h3; (try dsimp only at h2); exfalso; omega) | (intro h1; have h2 : _ = _ := h1; exfalso; omega) | (intros; exfalso; (try dsimp only at *); omega) | (intro b h1 h2 h3; exfalso; have h4 := h3.2; (try dsimp only at *); omega) | (intro h1; exfalso; have h4 := h1.2; (try dsimp only at *); omega) | (intro x h1 h2; exfalso; have h4 := h2.2; (try dsimp only at *); omega) | (intro x h1 h2; exact ⟨_, rfl, h2⟩) | (intro x h1 h2; exact h2.1) | (intro x h1 h2; rcases h2.1 with h3 | h3; exact h3; exfalso; omega) | (intro x h1 h2; rcases h2 with h3 | h3; exact h3; exfalso; omega))
      replace hp := hp.chg g_hb1.chg (by first | (intro x h1 h2; exact h2) | (intro x h0 h1 h2; exact hS x h1 h2) | (intro x h0 h1 h2; have h3 : _ = _ := h2; subst h3; exact hSR h1.1) | (intro x h1 h2; have h3 : _ = _ := h2; subst h3; assumption) | (intro x h1 h2; have h3 : _ = _ := h2; exfalso; omega) | (intro b h1 h2 h3; have h4 : _ = _ := h3; (try dsimp only at h2); exfalso; omega) | (intro h1; have h2 : _ = _ := h1; exfalso; omega) | (intros; exfalso; (try dsimp only at *); omega) | (intro b h1 h2 h3; exfalso; have h4 := h3.2; (try dsimp only at *); omega) | (intro h1; exfalso; have h4 := h1.2; (try dsimp only at *); omega) | (intro x h1 h2; exfalso; have h4 := h2.2; (try dsimp only at *); omega) | (intro x h1 h2; exact ⟨_, rfl, h2⟩) | (intro x h1 h2; exact h2.1) | (intro x h1 h2; rcases h2.1 with h3 | h3; exact h3; exfalso; omega) | (intro x h1 h2; rcases h2 with h3 | h3; exact h3; exfalso; omega))
      replace hw := hw.chg g_hb1.chg (by first | (intro x h1 h2; exact h2) | (intro x h0 h1 h2; exact hS x h1 h2) | (intro x h0 h1 h2; have h3 : _ = _ := h2; subst h3; exact hSR h1.1) | (intro x h1 h2; have h3 : _ = _ := h2; subst h3; assumption) | (intro x h1 h2; have h3 : _ = _ := h2; exfalso; omega) | (intro b h1 h2 h3; have h4 : _ = _ := h3; (try dsimp only at h2); exfalso; omega) | (intro h1; have h2 : _ = _ := h1; exfalso; omega) | (intros; exfalso; (try dsimp only at *); omega) | (intro b h1 h2 h3; exfalso; have h4 := h3.2; (try dsimp only at *); omega) | (intro h1; exfalso; have h4 := h1.2; (try dsimp only at *); omega) | (intro x h1 h2; exfalso; have h4 := h2.2; (try dsimp only at *); omega) | (intro x h1 h2; exact ⟨_, rfl, h2⟩) | (intro x h1 h2; exact h2.1) | (intro x h1 h2; rcases h2.1 with h3 | h3; exact h3; exfalso; omega) | (intro x h1 h2; rcases h2 with h3 | h3; exact h3; exfalso; omega))
      replace hg := hg.chg g_hb1.chg (by first | (intro x h1 h2; exact h2) | (intro x h0 h1 h2; exact hS x h1 h2) | (intro x h0 h1 h2; have h3 : _ = _ := h2; subst h3; exact hSR h1.1) | (intro x h1 h2; have h3 : _ = _ := h2; subst h3; assumption) | (intro x h1 h2; have h3 : _ = _ := h2; exfalso; omega) | (intro b h1 h2 h3; have h4 : _ = _ := h3; (try dsimp only at h2); exfalso; omega) | (intro h1; have h2 : _ = _ := h1; exfalso; omega) | (intros; exfalso; (try dsimp only at *); omega) | (intro b h1 h2 h3; exfalso; have h4 := h3.2; (try dsimp only at *); omega) | (intro h1; exfalso; have h4 := h1.2; (try dsimp only at *); omega) | (intro x h1 h2; exfalso; have h4 := h2.2; (try dsimp only at *); omega) | (intro x h1 h2; exact ⟨_, rfl, h2⟩) | (intro x h1 h2; exact h2.1) | (intro x h1 h2; rcases h2.1 with h3 | h3; exact h3; exfalso; omega) | (intro x h1 h2; rcases h2 with h3 | h3; exact h3; exfalso; omega))
      replace hR := hR.chg g_hb1.chg (by first | (intro x h1 h2; exact h2) | (intro x h0 h1 h2; exact hS x h1 h2) | (intro x h0 h1 h2; have h3 : _ = _ := h2; subst h3; exact hSR h1.1) | (intro x h1 h2; have h3 : _ = _ := h2; subst h3; assumption) | (intro x h1 h2; have h3 : _ = _ := h2; exfalso; omega) | (intro b h1 h2 h3; have h4 : _ = _ := h3; (try dsimp only at h2); exfalso; omega) | (intro h1; have h2 : _ = _ := h1; exfalso; omega) | (intros; exfalso; (try dsimp only at *); omega) | (intro b h1 h2 h3; exfalso; have h4 := h3.2; (try dsimp only at *); omega) | (intro h1; exfalso; have h4 := h1.2; (try dsimp only at *); omega) | (intro x h1 h2; exfalso; have h4 := h2.2; (try dsimp only at *); omega) | (intro x h1 h2; exact ⟨_, rfl, h2⟩) | (intro x h1 h2; exact h2.1) | (intro x h1 h2; rcases h2.1 with h3 | h3; exact h3; exfalso; omega) | (intro x h1 h2; rcases h2 with h3 | h3; exact h3; exfalso; omega))
      rw [show ([] ++ l1 : List Int) = l1 from rfl] at hb1 ⊢
      refine WL.call eg_17 rfl rfl (Crash_calls hR hb1.rsl (fun x h1 h2 => by omega)) ?_
      rintro v w6 ⟨rfl, hR6, k6⟩
      have zs_k6 := k6.size
      replace hf := hf.chg k6 (by first | (intro x h1 h2; exact h2) | (intro x h0 h1 h2; exact hS x h1 h2) | (intro x h0 h1 h2; have h3 : _ = _ := h2; subst h3; exact hSR h1.1) | (intro x h1 h2; have h3 : _ = _ := h2; subst h3; assumption) | (intro x h1 h2; have h3 : _ = _ := h2; exfalso; omega) | (intro b h1 h2 h3; have h4 : _ = _ := h3; (try dsimp only at h2); exfalso; omega) | (intro h1; have h2 : _ = _ := h1; exfalso; omega) | (intros; exfalso; (try dsimp only at *); omega) | (intro b h1 h2 h3; exfalso; have h4 := h3.2; (try dsimp only at *); omega) | (intro h1; exfalso; have h4 := h1.2; (try dsimp only at *); omega) | (intro x h1 h2; exfalso; have h4 := h2.2; (try dsimp only at *); omega) | (intro x h1 h2; exact ⟨_, rfl, h2⟩) | (intro x h1 h2; exact h2.1) | (intro x h1 h2; rcases h2.1 with h3 | h3; exact h3; exfalso; omega) | (intro x h1 h2; rcases h2 with h3 | h3; exact h3; exfalso; omega))
      replace hp := hp.chg k6 (by first | (intro x h1 h2; exact h2) | (intro x h0 h1 h2; exact hS x h1 h2) | (intro x h0 h1 h2; have h3 : _ = _ := h2; subst h3; exact hSR h1.1) | (intro x h1 h2; have h3 : _ = _ := h2; subst h3; assumption) | (intro x h1 h2; have h3 : _ = _ := h2; exfalso; omega) | (intro b h1 h2 h3; have h4 : _ = _ := h3; (try dsimp only at h2); exfalso; omega) | (intro h1; have h2 : _ = _ := h1; exfalso; omega) | (intros; exfalso; (try dsimp only at *); omega) | (intro b h1 h2 h3; exfalso; have h4 := h3.2; (try dsimp only at *); omega) | (intro h1; exfalso; have h4 := h1.2; (try dsimp only at *); omega) | (intro x h1 h2; exfalso; have h4 := h2.2; (try dsimp only at *); omega) | (intro x h1 h2; exact ⟨_, rfl, h2⟩) | (intro x h1 h2; exact h2.1) | (intro x h1 h2; rcases h2.1 with h3 | h3; exact h3; exfalso; omega) | (intro x h1 h2; rcases h2 with h3 | h3; exact h3; exfalso; omega))
      replace hw := hw.chg k6 (by first | (intro x h1 h2; exact h2) | (intro x h0 h1 h2; exact hS x h1 h2) | (intro x h0 h1 h2; have h3 : _ = _ := h2; subst h3; exact hSR h1.1) | (intro x h1 h2; have h3 : _ = _ := h2; subst h3; assumption) | (intro x h1 h2; have h3 : _ = _ := h2; exfalso; omega) | (intro b h1 h2 h3; have h4 : _ = _ := h3; (try dsimp only at h2); exfalso; omega) | (intro h1; have h2 : _ = _ := h1; exfalso; omega) | (intros; exfalso; (try dsimp only at *); omega) | (intro b h1 h2 h3; exfalso; have h4 := h3.2; (try dsimp only at *); omega) | (intro h1; exfalso; have h4 := h1.2; (try dsimp only at *); omega) | (intro x h1 h2; exfalso; have h4 := h2.2; (try dsimp only at *); omega) | (intro x h1 h2; exact ⟨_, rfl, h2⟩) | (intro x h1 h2; exact h2.1) | (intro x h1 h2; rcases h2.1 with h3 | h3; exact h3; exfalso; omega) | (intro x h1 h2; rcases h2 with h3 | h3; exact h3; exfalso; omega))
      replace hg := hg.chg k6 (by first | (intro x h1 h2; exact h2) | (intro x h0 h1 h2; exact hS x h1 h2) | (intro x h0 h1 h2; have h3 : _ = _ := h2; subst h3; exact hSR h1.1) | (intro x h1 h2; have h3 : _ = _ := h2; subst h3; assumption) | (intro x h1 h2; have h3 : _ = _ := h2; exfalso; omega) | (intro b h1 h2 h3; have h4 : _ = _ := h3; (try dsimp only at h2); exfalso; omega) | (intro h1; have h2 : _ = _ := h1; exfalso; omega) | (intros; exfalso; (try dsimp only at *); omega) | (intro b h1 h2 h3; exfalso; have h4 := h3.2; (try dsimp only at *); omega) | (intro h1; exfalso; have h4 := h1.2; (try dsimp only at *); omega) | (intro x h1 h2; exfalso; have h4 := h2.2; (try dsimp only at *); omega) | (intro x h1 h2; exact ⟨_, rfl, h2⟩) | (intro x h1 h2; exact h2.1) | (intro x h1 h2; rcases h2.1 with h3 | h3; exact h3; exfalso; omega) | (intro x h1 h2; rcases h2 with h3 | h3; exact h3; exfalso; omega))
      have hL6 : heldS (crashS s l1) (0, 0) = wantL B l0 l1 i := by
        rw [crash_held]
        show (mget (puts (keep l1) s.waits s.last s.waits.length) (0, 0)).getD zeros = _
        rw [picks_last sl swj _ (Nat.le_refl _), sw]
      have us6 := crash_up s l1
      have sw6 : (crashS s l1).waits.length = 0 := rfl
      have i006 : inS (crashS s l1) 0 0 := i00
      have sg6 : ∀ d, goneS (crashS s l1) d = false := sg
      obtain ⟨s6, es6⟩ : ∃ s6, s6 = crashS s l1 := ⟨_, rfl⟩
      rw [← es6] at hR6 hL6 us6 sw6 i006 sg6
      clear es6
      refine WL.nil (WX.then_normal (WC.seq (WC.region (WL.move rfl rfl (?_)))))
      refine WL.call eg_16 rfl rfl (ReadU hR6 us6 i006 (sg6 0)) ?_
      rintro v w7 ⟨⟨r, rfl, hx, hq⟩, k7⟩
      rw [hL6] at hx
      have zs_k7 := k7.size
      replace hf := hf.pure k7
      replace hp := hp.pure k7
      replace hw := hw.pure k7
      replace hg := hg.pure k7
      replace hR6 := hR6.pure k7
      refine WL.move rfl rfl (WL.extract rfl rfl rfl (?_))
      refine WL.extract rfl rfl rfl ?_
      refine WL.assign rfl rfl (WL.assign rfl rfl (WL.nil (WX.then_normal (WC.seq (WC.region (WL.move rfl rfl (?_)))))))
      refine WL.eqlT rfl rfl rfl (by first | rfl | omega | decide) ?_
      refine WL.move rfl rfl (WL.want rfl rfl rfl (WL.move rfl rfl (WL.want rfl rfl rfl (WL.toStr Try.underlying30 Try.underlying5 Try.underlying9 hq rfl rfl (WL.want rfl rfl rfl (WL.move rfl rfl (WL.want rfl rfl rfl (?_))))))))
      refine WL.toStr Try.underlying30 Try.underlying5 Try.underlying9 hg rfl rfl (WL.want rfl rfl rfl (?_))
      refine WL.seqlT rfl rfl rfl ((by rw [hx])) ?_
      refine WL.pickT rfl rfl rfl (WL.move rfl rfl (WL.want rfl rfl rfl (WL.move rfl rfl (WL.want rfl rfl rfl (?_)))))
      refine WL.call eg_18 rfl rfl (Pending_calls hR6) ?_
      rintro v w8 ⟨rfl, k8⟩
      rw [sw6]
      have zs_k8 := k8.size
      replace hf := hf.pure k8
      replace hp := hp.pure k8
      replace hw := hw.pure k8
      replace hg := hg.pure k8
      replace hR6 := hR6.pure k8
      replace hq := hq.pure k8
      refine WL.want rfl rfl rfl (?_)
      refine WL.eqlT rfl rfl rfl (by first | rfl | omega | decide) ?_
      refine WL.pickT rfl rfl rfl (WL.assign rfl rfl (WL.nil (WX.then_normal (WC.ret (?_)))))
      refine WX.ret1 (.inl rfl) Try.results4 rfl ?_
      exact ⟨_, rfl, rfl, hw⟩
  ·
    refine WL.move rfl rfl (WL.pass rfl rfl rfl rfl (WL.pass rfl rfl rfl rfl (WL.pickF rfl rfl rfl (WL.nil (WX.then_normal (WC.cond_false rfl (WC.exit (?_))))))))
    refine WX.then_exit (WX.then_exit (WX.block_here (WX.then_normal (WC.seq (WC.region (WL.move rfl rfl (?_)))))))
    replace hR := hR.old
    refine WL.build (e := ei) [] Try.underlying22 Try.sizeOf3 Try.zeroValue3 rfl rfl rfl (by first | (simp [Value.cells]; done) | (simp [Value.cells] <;> rfl) | (simp [Value.cells, eb, ei, es, ebool, e32, e64]; done)) (by decide) rfl ?_
    intro a_hb0 w_hb0 hb0 l_hb0 z_hb0 k_hb0
    have zs_k_hb0 := k_hb0.size
    replace hf := hf.pure k_hb0
    replace hp := hp.pure k_hb0
    replace hw := hw.pure k_hb0
    replace hg := hg.pure k_hb0
    replace hR := hR.pure k_hb0
    refine WL.move rfl rfl (?_)
    refine WL.append (e := ei) info_3 rfl Try.underlying22 rfl rfl hb0 (hp.src Try.underlying22) (by (try simp only [List.length_append, List.length_cons, List.length_nil] at *); omega) (by intro b hb; first | (apply hS; omega) | ((try dsimp only); omega)) rfl ?_
    intro a_hb1 c_hb1 w_hb1 hb1 g_hb1 n_hb1
    have z_hb1 := g_hb1.chg.size
    have zs_g_hb1_chg := g_hb1.chg.size
    replace hf := hf.chg g_hb1.chg (by first | (intro x h1 h2; exact h2) | (intro x h0 h1 h2; exact hS x h1 h2) | (intro x h0 h1 h2; have h3 : _ = _ := h2; subst h3; exact hSR h1.1) | (intro x h1 h2; have h3 : _ = _ := h2; subst h3; assumption) | (intro x h1 h2; have h3 : _ = _ := h2; exfalso; omega) | (intro b h1 h2 h3; have h4 : _ = _ := h3; (try dsimp only at h2); exfalso; omega) | (intro h1; have h2 : _ = _ := h1; exfalso; omega) | (intros; exfalso; (try dsimp only at *); omega) | (intro b h1 h2 h3; exfalso; have h4 := h3.2; (try dsimp only at *); omega) | (intro h1; exfalso; have h4 := h1.2; (try dsimp only at *); omega) | (intro x h1 h2; exfalso; have h4 := h2.2; (try dsimp only at *); omega) | (intro x h1 h2; exact ⟨_, rfl, h2⟩) | (intro x h1 h2; exact h2.1) | (intro x h1 h2; rcases h2.1 with h3 | h3; exact h3; exfalso; omega) | (intro x h1 h2; rcases h2 with h3 | h3; exact h3; exfalso; omega))
    replace hp := hp.chg g_hb1.chg (by first | (intro x h1 h2; exact h2) | (intro x h0 h1 h2; exact hS x h1 h2) | (intro x h0 h1 h2; have h3 : _ = _ := h2; subst h3; exact hSR h1.1) | (intro x h1 h2; have h3 : _ = _ := h2; subst h3; assumption) | (intro x h1 h2; have h3 : _ = _ := h2; exfalso; omega) | (intro b h1 h2 h3; have h4 : _ = _ := h3; (try dsimp only at h2); exfalso; omega) | (intro h1; have h2 : _ = _ := h1; exfalso; omega) | (intros; exfalso; (try dsimp only at *); omega) | (intro b h1 h2 h3; exfalso; have h4 := h3.2; (try dsimp only at *); omega) | (intro h1; exfalso; have h4 := h1.2; (try dsimp only at *); omega) | (intro x h1 h2; exfalso; have h4 := h2.2; (try dsimp only at *); omega) | (intro x h1 h2; exact ⟨_, rfl, h2⟩) | (intro x h1 h2; exact h2.1) | (intro x h1 h2; rcases h2.1 with h3 | h3; exact h3; exfalso; omega) | (intro x h1 h2; rcases h2 with h3 | h3; exact h3; exfalso; omega))
    replace hw := hw.chg g_hb1.chg (by first | (intro x h1 h2; exact h2) | (intro x h0 h1 h2; exact hS x h1 h2) | (intro x h0 h1 h2; have h3 : _ = _ := h2; subst h3; exact hSR h1.1) | (intro x h1 h2; have h3 : _ = _ := h2; subst h3; assumption) | (intro x h1 h2; have h3 : _ = _ := h2; exfalso; omega) | (intro b h1 h2 h3; have h4 : _ = _ := h3; (try dsimp only at h2); exfalso; omega) | (intro h1; have h2 : _ = _ := h1; exfalso; omega) | (intros; exfalso; (try dsimp only at *); omega) | (intro b h1 h2 h3; exfalso; have h4 := h3.2; (try dsimp only at *); omega) | (intro h1; exfalso; have h4 := h1.2; (try dsimp only at *); omega) | (intro x h1 h2; exfalso; have h4 := h2.2; (try dsimp only at *); omega) | (intro x h1 h2; exact ⟨_, rfl, h2⟩) | (intro x h1 h2; exact h2.1) | (intro x h1 h2; rcases h2.1 with h3 | h3; exact h3; exfalso; omega) | (intro x h1 h2; rcases h2 with h3 | h3; exact h3; exfalso; omega))
    replace hg := hg.chg g_hb1.chg (by first | (intro x h1 h2; exact h2) | (intro x h0 h1 h2; exact hS x h1 h2) | (intro x h0 h1 h2; have h3 : _ = _ := h2; subst h3; exact hSR h1.1) | (intro x h1 h2; have h3 : _ = _ := h2; subst h3; assumption) | (intro x h1 h2; have h3 : _ = _ := h2; exfalso; omega) | (intro b h1 h2 h3; have h4 : _ = _ := h3; (try dsimp only at h2); exfalso; omega) | (intro h1; have h2 : _ = _ := h1; exfalso; omega) | (intros; exfalso; (try dsimp only at *); omega) | (intro b h1 h2 h3; exfalso; have h4 := h3.2; (try dsimp only at *); omega) | (intro h1; exfalso; have h4 := h1.2; (try dsimp only at *); omega) | (intro x h1 h2; exfalso; have h4 := h2.2; (try dsimp only at *); omega) | (intro x h1 h2; exact ⟨_, rfl, h2⟩) | (intro x h1 h2; exact h2.1) | (intro x h1 h2; rcases h2.1 with h3 | h3; exact h3; exfalso; omega) | (intro x h1 h2; rcases h2 with h3 | h3; exact h3; exfalso; omega))
    replace hR := hR.chg g_hb1.chg (by first | (intro x h1 h2; exact h2) | (intro x h0 h1 h2; exact hS x h1 h2) | (intro x h0 h1 h2; have h3 : _ = _ := h2; subst h3; exact hSR h1.1) | (intro x h1 h2; have h3 : _ = _ := h2; subst h3; assumption) | (intro x h1 h2; have h3 : _ = _ := h2; exfalso; omega) | (intro b h1 h2 h3; have h4 : _ = _ := h3; (try dsimp only at h2); exfalso; omega) | (intro h1; have h2 : _ = _ := h1; exfalso; omega) | (intros; exfalso; (try dsimp only at *); omega) | (intro b h1 h2 h3; exfalso; have h4 := h3.2; (try dsimp only at *); omega) | (intro h1; exfalso; have h4 := h1.2; (try dsimp only at *); omega) | (intro x h1 h2; exfalso; have h4 := h2.2; (try dsimp only at *); omega) | (intro x h1 h2; exact ⟨_, rfl, h2⟩) | (intro x h1 h2; exact h2.1) | (intro x h1 h2; rcases h2.1 with h3 | h3; exact h3; exfalso; omega) | (intro x h1 h2; rcases h2 with h3 | h3; exact h3; exfalso; omega))
    rw [show ([] ++ l1 : List Int) = l1 from rfl] at hb1 ⊢
    refine WL.call eg_17 rfl rfl (Crash_calls hR hb1.rsl (fun x h1 h2 => by omega)) ?_
    rintro v w6 ⟨rfl, hR6, k6⟩
    have zs_k6 := k6.size
    replace hf := hf.chg k6 (by first | (intro x h1 h2; exact h2) | (intro x h0 h1 h2; exact hS x h1 h2) | (intro x h0 h1 h2; have h3 : _ = _ := h2; subst h3; exact hSR h1.1) | (intro x h1 h2; have h3 : _ = _ := h2; subst h3; assumption) | (intro x h1 h2; have h3 : _ = _ := h2; exfalso; omega) | (intro b h1 h2 h3; have h4 : _ = _ := h3; (try dsimp only at h2); exfalso; omega) | (intro h1; have h2 : _ = _ := h1; exfalso; omega) | (intros; exfalso; (try dsimp only at *); omega) | (intro b h1 h2 h3; exfalso; have h4 := h3.2; (try dsimp only at *); omega) | (intro h1; exfalso; have h4 := h1.2; (try dsimp only at *); omega) | (intro x h1 h2; exfalso; have h4 := h2.2; (try dsimp only at *); omega) | (intro x h1 h2; exact ⟨_, rfl, h2⟩) | (intro x h1 h2; exact h2.1) | (intro x h1 h2; rcases h2.1 with h3 | h3; exact h3; exfalso; omega) | (intro x h1 h2; rcases h2 with h3 | h3; exact h3; exfalso; omega))
    replace hp := hp.chg k6 (by first | (intro x h1 h2; exact h2) | (intro x h0 h1 h2; exact hS x h1 h2) | (intro x h0 h1 h2; have h3 : _ = _ := h2; subst h3; exact hSR h1.1) | (intro x h1 h2; have h3 : _ = _ := h2; subst h3; assumption) | (intro x h1 h2; have h3 : _ = _ := h2; exfalso; omega) | (intro b h1 h2 h3; have h4 : _ = _ := h3; (try dsimp only at h2); exfalso; omega) | (intro h1; have h2 : _ = _ := h1; exfalso; omega) | (intros; exfalso; (try dsimp only at *); omega) | (intro b h1 h2 h3; exfalso; have h4 := h3.2; (try dsimp only at *); omega) | (intro h1; exfalso; have h4 := h1.2; (try dsimp only at *); omega) | (intro x h1 h2; exfalso; have h4 := h2.2; (try dsimp only at *); omega) | (intro x h1 h2; exact ⟨_, rfl, h2⟩) | (intro x h1 h2; exact h2.1) | (intro x h1 h2; rcases h2.1 with h3 | h3; exact h3; exfalso; omega) | (intro x h1 h2; rcases h2 with h3 | h3; exact h3; exfalso; omega))
    replace hw := hw.chg k6 (by first | (intro x h1 h2; exact h2) | (intro x h0 h1 h2; exact hS x h1 h2) | (intro x h0 h1 h2; have h3 : _ = _ := h2; subst h3; exact hSR h1.1) | (intro x h1 h2; have h3 : _ = _ := h2; subst h3; assumption) | (intro x h1 h2; have h3 : _ = _ := h2; exfalso; omega) | (intro b h1 h2 h3; have h4 : _ = _ := h3; (try dsimp only at h2); exfalso; omega) | (intro h1; have h2 : _ = _ := h1; exfalso; omega) | (intros; exfalso; (try dsimp only at *); omega) | (intro b h1 h2 h3; exfalso; have h4 := h3.2; (try dsimp only at *); omega) | (intro h1; exfalso; have h4 := h1.2; (try dsimp only at *); omega) | (intro x h1 h2; exfalso; have h4 := h2.2; (try dsimp only at *); omega) | (intro x h1 h2; exact ⟨_, rfl, h2⟩) | (intro x h1 h2; exact h2.1) | (intro x h1 h2; rcases h2.1 with h3 | h3; exact h3; exfalso; omega) | (intro x h1 h2; rcases h2 with h3 | h3; exact h3; exfalso; omega))
    replace hg := hg.chg k6 (by first | (intro x h1 h2; exact h2) | (intro x h0 h1 h2; exact hS x h1 h2) | (intro x h0 h1 h2; have h3 : _ = _ := h2; subst h3; exact hSR h1.1) | (intro x h1 h2; have h3 : _ = _ := h2; subst h3; assumption) | (intro x h1 h2; have h3 : _ = _ := h2; exfalso; omega) | (intro b h1 h2 h3; have h4 : _ = _ := h3; (try dsimp only at h2); exfalso; omega) | (intro h1; have h2 : _ = _ := h1; exfalso; omega) | (intros; exfalso; (try dsimp only at *); omega) | (intro b h1 h2 h3; exfalso; have h4 := h3.2; (try dsimp only at *); omega) | (intro h1; exfalso; have h4 := h1.2; (try dsimp only at *); omega) | (intro x h1 h2; exfalso; have h4 := h2.2; (try dsimp only at *); omega) | (intro x h1 h2; exact ⟨_, rfl, h2⟩) | (intro x h1 h2; exact h2.1) | (intro x h1 h2; rcases h2.1 with h3 | h3; exact h3; exfalso; omega) | (intro x h1 h2; rcases h2 with h3 | h3; exact h3; exfalso; omega))
    have hL6 : heldS (crashS s l1) (0, 0) = wantL B l0 l1 i := by
      rw [crash_held]
      show (mget (puts (keep l1) s.waits s.last s.waits.length) (0, 0)).getD zeros = _
      rw [picks_last sl swj _ (Nat.le_refl _), sw]
    have us6 := crash_up s l1
    have sw6 : (crashS s l1).waits.length = 0 := rfl
    have i006 : inS (crashS s l1) 0 0 := i00
    have sg6 : ∀ d, goneS (crashS s l1) d = false := sg
    obtain ⟨s6, es6⟩ : ∃ s6, s6 = crashS s l1 := ⟨_, rfl⟩
    rw [← es6] at hR6 hL6 us6 sw6 i006 sg6
    clear es6
    refine WL.nil (WX.then_normal (WC.seq (WC.region (WL.move rfl rfl (?_)))))
    refine WL.call eg_16 rfl rfl (ReadU hR6 us6 i006 (sg6 0)) ?_
    rintro v w7 ⟨⟨r, rfl, hx, hq⟩, k7⟩
    rw [hL6] at hx
    have zs_k7 := k7.size
    replace hf := hf.pure k7
    replace hp := hp.pure k7
    replace hw := hw.pure k7
    replace hg := hg.pure k7
    replace hR6 := hR6.pure k7
    refine WL.move rfl rfl (WL.extract rfl rfl rfl (?_))
    refine WL.extract rfl rfl rfl ?_
    refine WL.assign rfl rfl (WL.assign rfl rfl (WL.nil (WX.then_normal (WC.seq (WC.region (WL.move rfl rfl (?_)))))))
    refine WL.eqlT rfl rfl rfl (by first | rfl | omega | decide) ?_
    refine WL.move rfl rfl (WL.want rfl rfl rfl (WL.move rfl rfl (WL.want rfl rfl rfl (WL.toStr Try.underlying30 Try.underlying5 Try.underlying9 hq rfl rfl (WL.want rfl rfl rfl (WL.move rfl rfl (WL.want rfl rfl rfl (?_))))))))
    refine WL.toStr Try.underlying30 Try.underlying5 Try.underlying9 hg rfl rfl (WL.want rfl rfl rfl (?_))
    refine WL.seqlT rfl rfl rfl ((by rw [hx])) ?_
    refine WL.pickT rfl rfl rfl (WL.move rfl rfl (WL.want rfl rfl rfl (WL.move rfl rfl (WL.want rfl rfl rfl (?_)))))
    refine WL.call eg_18 rfl rfl (Pending_calls hR6) ?_
    rintro v w8 ⟨rfl, k8⟩
    rw [sw6]
    have zs_k8 := k8.size
    replace hf := hf.pure k8
    replace hp := hp.pure k8
    replace hw := hw.pure k8
    replace hg := hg.pure k8
    replace hR6 := hR6.pure k8
    replace hq := hq.pure k8
    refine WL.want rfl rfl rfl (?_)
    refine WL.eqlT rfl rfl rfl (by first | rfl | omega | decide) ?_
    refine WL.pickT rfl rfl rfl (WL.assign rfl rfl (WL.nil (WX.then_normal (WC.ret (?_)))))
    refine WX.ret1 (.inl rfl) Try.results4 rfl ?_
    exact ⟨_, rfl, rfl, hw⟩
end Go.Proofs.Ytdjlfbadcijjaaa
