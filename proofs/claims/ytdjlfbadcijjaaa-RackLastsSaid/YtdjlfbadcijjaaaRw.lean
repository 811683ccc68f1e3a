import Derived.Test.YtdjlfbadcijjaaaRv
namespace Go.Proofs.Ytdjlfbadcijjaaa
open Go.RowKit Go.HL

theorem keep0 (ps : List Int) : keep ps 0 = true ↔ 0 < ps.length ∧ ps.getD 0 0 % 2 = 1 := by
  cases ps with
  | nil => simp [keep]
  | cons x r => simp [keep]
set_option maxHeartbeats 8000000 in
theorem rackLasts_calls {w : World} {a0 a1 : Option Addr} {c0 c1 : Nat} {l0 l1 : List Int} (x0 : Int) (hf : RSl (· < w.heap.size) w ei a0 c0 l0) (hp : RSl (· < w.heap.size) w ei a1 c1 l1) (hl1 : l1.length * 8 ≤ 140737488351232) :
    Calls Try.prog 7 [.slice a0 l0.length c0, .slice a1 l1.length c1, vi x0].toArray w (Ret fun v w' => v = .bool true ∧ Chg Nob w w') := by
  have hw := Chg.refl Nob w
  obtain ⟨B, hBl, hBc⟩ := bytes_all
  obtain ⟨s0, sd, sn, u0, sg, sh, sl, sw, hNew⟩ := new_all 5 8 (by decide) (by decide)
  have hL0 : Lasts B (List.replicate 40 0) s0 := by
    refine ⟨sd, sn, u0, sg, by simp, fun d a hd ha => ?_, fun j => ?_⟩
    · rw [sh, List.getD_eq_getElem?_getD, List.getElem?_replicate, if_pos (by omega)]
      rfl
    · rw [List.getD_eq_getElem?_getD, List.getElem?_replicate]
      split
      · exact ⟨Int.le_refl _, by show (0 : Int) ≤ 100000; omega⟩
      · exact ⟨Int.le_refl _, by show (0 : Int) ≤ 100000; omega⟩
  have sw0 : s0.waits.length = 0 := by rw [sw]; rfl
  clear sl sw sh
  obtain ⟨l, hl⟩ : ∃ l, l = (B64 x0 % 5).toNat := ⟨_, rfl⟩
  have hl5 : l < 5 := by rw [hl, UInt64.toNat_mod]; exact Nat.mod_lt _ (by decide)
  refine Calls.of_WC Try.func7 rfl Try.ntmps7 (by simp) ?_
  refine WC.seq (WC.region (WL.assign rfl rfl (WL.nil (WX.then_normal (WC.seq (WC.seq (WC.region (?_))))))))
  refine WL.call eg_11 rfl rfl (known_calls _) ?_
  rintro v w1 ⟨rfl, k1⟩
  have zs_k1 := k1.size
  replace hf := hf.pure k1
  replace hp := hp.pure k1
  replace hw := hw.pure k1
  refine WL.not rfl rfl (WL.nil (WX.then_normal (WC.cond_false rfl (WC.skip (WX.then_normal (WC.seq (WC.region (?_))))))))
  refine WL.call eg_12 rfl rfl (hNew _) ?_
  rintro v w2 ⟨⟨R, rfl, hR⟩, k2⟩
  replace hR := hR.mono (A' := (w.heap.size ≤ ·)) (fun x hx => by have := hw.size; omega)
  have zs_k2 := k2.size
  replace hf := hf.pure k2
  replace hp := hp.pure k2
  replace hw := hw.pure k2
  refine WL.move rfl rfl (WL.extract rfl rfl rfl (WL.extract rfl rfl rfl (WL.assign rfl rfl (WL.assign rfl rfl (WL.nil (WX.then_normal (WC.seq (?_))))))))
  refine WC.seq (WC.region (WL.move rfl rfl (?_)))
  refine WL.neqF rfl rfl rfl (by first | rfl | omega | decide) ?_
  refine WL.nil (WX.then_normal (WC.cond_false rfl (WC.skip (WX.then_normal (WC.seq (WC.region (?_)))))))
  replace hR := hR.old
  have zw2 := hw.size
  refine WL.make (e := ei) (0 : Int) 40 40 Try.underlying22 info_3 rfl rfl rfl ⟨rfl, rfl, Nat.le_refl _⟩ (by decide) rfl ?_
  intro gl w3 hm3 k3 z3 eg
  have zs_k3 := k3.size
  replace hf := hf.pure k3
  replace hp := hp.pure k3
  replace hw := hw.pure k3
  replace hR := hR.pure k3
  have hQ : Row (· = gl) w3 3 ei (some ⟨gl, 0, none⟩) 40 (List.replicate 40 0) := ⟨fun a ea => by injection ea with ea; subst ea; rfl, hm3.own⟩
  replace hR := hR.mono (A' := fun x => w.heap.size ≤ x ∧ x ≠ gl) (fun x hx => ⟨hx.1, by omega⟩)
  have hgl : w.heap.size ≤ gl := by omega
  refine WL.assign rfl rfl (WL.nil (WX.then_normal (WC.seq (WC.seq (WC.region (WL.assign rfl rfl (WL.nil (?_))))))))
  refine WX.then_normal (WC.block (?_))
  refine WC.loop (σ := Nat × List Int) (fun q => [(0, .slice a0 l0.length c0), (1, .slice a1 l1.length c1), (2, vi x0), (7, ptr R), (9, .slice (some ⟨gl, 0, none⟩) q.2.length 40), (10, vi (q.1 : Int))]) (fun q w' => q.1 ≤ 80 ∧ RSl (· < w.heap.size) w' ei a0 c0 l0 ∧ RSl (· < w.heap.size) w' ei a1 c1 l1 ∧ Chg Nob w w' ∧ Row (· = gl) w' 3 ei (some ⟨gl, 0, none⟩) 40 q.2 ∧ gl < w'.heap.size ∧ ∃ s : RA, Lasts B q.2 s ∧ s.waits.length ≤ q.1 ∧ RK (fun x => w.heap.size ≤ x ∧ x ≠ gl) w' R s) (fun q => 80 - q.1) (0, List.replicate 40 0) ⟨rfl, rfl, rfl, rfl, rfl, rfl, trivial⟩ ⟨by show 0 ≤ 80; omega, hf, hp, hw, hQ, by omega, s0, hL0, by show _ ≤ 0; omega, hR⟩ ?_
  clear hf hp hw hR hQ u0 sg sw0 sd sn hNew hL0
  rintro ⟨i, L⟩ w1 ⟨hi, hf, hp, hw, hQ, hglw, s, hL, sw, hR⟩
  simp only at hi hQ hL sw
  dsimp only
  have zw := hw.size
  have hLl := hL.len
  refine WC.seq (WC.seq (WC.region (WL.move rfl rfl (WL.move rfl rfl (WL.len Try.underlying22 rfl rfl (?_))))))
  refine WL.lss? rfl rfl rfl (fun h29 => ?_) (fun h29 => ?_)
  ·
    refine WL.move rfl rfl (WL.want rfl rfl rfl (WL.move rfl rfl (WL.want rfl rfl rfl (?_))))
    refine WL.lss? rfl rfl rfl (fun h32 => ?_) (fun h32 => ?_)
    ·
      refine WL.pickT rfl rfl rfl (WL.nil (WX.then_normal (WC.cond_true rfl (WC.skip (WX.then_normal (WC.seq (WC.block (?_))))))))
      refine WC.seq (WC.region (WL.move rfl rfl (WL.move rfl rfl (?_))))
      obtain ⟨f, hx⟩ : ∃ f, l0[i]? = some f := ⟨_, List.getElem?_eq_getElem (by omega)⟩
      obtain ⟨k, hk⟩ : ∃ k, k = (B64 f % 100000).toNat := ⟨_, rfl⟩
      have hk5 : k < 100000 := by rw [hk, UInt64.toNat_mod]; exact Nat.mod_lt _ (by decide)
      refine WL.indexT Try.underlying22 Try.sizeOf3 hf rfl rfl ⟨hx, rfl⟩ rfl ?_
      intro b_1 o_1 hc_1
      refine WL.load Try.isAgg3 rfl (hc_1 0 _ rfl) rfl (WL.c_i64_u64 Try.underlying3 Try.underlying41 rfl rfl (WL.num rfl rfl (n_rem64 _ _ _ 100000 (by decide)) rfl (?_)))
      refine WL.c_u64_i64s (n := k) Try.underlying41 Try.underlying3 rfl ⟨hk.symm, by omega⟩ rfl ?_
      refine WL.assign rfl rfl (WL.nil (WX.then_normal (WC.seq (WC.seq (WC.region (WL.move rfl rfl (WL.move rfl rfl (?_))))))))
      refine WL.rem64i rfl rfl (by constructor <;> omega) rfl (WL.move rfl rfl (WL.mul64 rfl rfl (by first | omega | (constructor <;> omega)) rfl (WL.rem64i rfl rfl (by constructor <;> omega) rfl (WL.move rfl rfl (?_)))))
      refine WL.call eg_14 rfl rfl (hBc (k : Int) _) ?_
      rintro v w2 ⟨⟨g, rfl, hq, hg1, hg2⟩, k2⟩
      have zs_k2 := k2.size
      replace hf := hf.pure k2
      replace hp := hp.pure k2
      replace hw := hw.pure k2
      replace hQ := hQ.pure k2
      replace hR := hR.pure k2
      rw [show (i : Int) % 5 = ((i % 5 : Nat) : Int) from by omega, show (i : Int) * 3 % 8 = ((i * 3 % 8 : Nat) : Int) from by omega]
      refine WL.call eg_13 rfl rfl (WriteU (d := ((i % 5 : Nat) : Int)) (a := ((i * 3 % 8 : Nat) : Int)) hR (fun x hx => by omega) hL.up (by unfold inS; rw [hL.dn, hL.sn]; omega) (hL.gone _) hq (hBl _) (by omega)) ?_
      rintro v w3 ⟨rfl, hR3, k3⟩
      have zs_k3 := k3.size
      replace hf := hf.chg k3 (by first | (intro x h1 h2; exact h2) | (intro x h0 h1 h2; exact hS x h1 h2) | (intro x h0 h1 h2; have h3 : _ = _ := h2; subst h3; exact hSR h1.1) | (intro x h1 h2; have h3 : _ = _ := h2; subst h3; assumption) | (intro x h1 h2; have h3 : _ = _ := h2; exfalso; omega) | (intro b h1 h2 h3; have h4 : _ = _ := h3; (try dsimp only at h2); exfalso; omega) | (intro h1; have h2 : _ = _ := h1; exfalso; omega) | (intro h1; have h2 : _ ≤ _ := h1; exfalso; omega) | (intros; exfalso; (try dsimp only at *); omega) | (intro b h1 h2 h3; exfalso; have h4 := h3.2; (try dsimp only at *); omega) | (intro h1; exfalso; have h4 := h1.2; (try dsimp only at *); omega) | (intro x h1 h2; exfalso; have h4 := h2.2; (try dsimp only at *); omega) | (intro x h1 h2; exact ⟨_, rfl, h2⟩) | (intro x h1 h2; have h4 := h2.1; have h5 := h2.2; exfalso; omega) | (intro x h1 h2; exact h2.1) | (intro x h1 h2; rcases h2.1 with h3 | h3; exact h3; exfalso; omega) | (intro x h1 h2; rcases h2 with h3 | h3; exact h3; exfalso; omega))
      replace hp := hp.chg k3 (by first | (intro x h1 h2; exact h2) | (intro x h0 h1 h2; exact hS x h1 h2) | (intro x h0 h1 h2; have h3 : _ = _ := h2; subst h3; exact hSR h1.1) | (intro x h1 h2; have h3 : _ = _ := h2; subst h3; assumption) | (intro x h1 h2; have h3 : _ = _ := h2; exfalso; omega) | (intro b h1 h2 h3; have h4 : _ = _ := h3; (try dsimp only at h2); exfalso; omega) | (intro h1; have h2 : _ = _ := h1; exfalso; omega) | (intro h1; have h2 : _ ≤ _ := h1; exfalso; omega) | (intros; exfalso; (try dsimp only at *); omega) | (intro b h1 h2 h3; exfalso; have h4 := h3.2; (try dsimp only at *); omega) | (intro h1; exfalso; have h4 := h1.2; (try dsimp only at *); omega) | (intro x h1 h2; exfalso; have h4 := h2.2; (try dsimp only at *); omega) | (intro x h1 h2; exact ⟨_, rfl, h2⟩) | (intro x h1 h2; have h4 := h2.1; have h5 := h2.2; exfalso; omega) | (intro x h1 h2; exact h2.1) | (intro x h1 h2; rcases h2.1 with h3 | h3; exact h3; exfalso; omega) | (intro x h1 h2; rcases h2 with h3 | h3; exact h3; exfalso; omega))
      replace hw := hw.chg k3 (by first | (intro x h1 h2; exact h2) | (intro x h0 h1 h2; exact hS x h1 h2) | (intro x h0 h1 h2; have h3 : _ = _ := h2; subst h3; exact hSR h1.1) | (intro x h1 h2; have h3 : _ = _ := h2; subst h3; assumption) | (intro x h1 h2; have h3 : _ = _ := h2; exfalso; omega) | (intro b h1 h2 h3; have h4 : _ = _ := h3; (try dsimp only at h2); exfalso; omega) | (intro h1; have h2 : _ = _ := h1; exfalso; omega) | (intro h1; have h2 : _ ≤ _ := h1; exfalso; omega) | (intros; exfalso; (try dsimp only at *); omega) | (intro b h1 h2 h3; exfalso; have h4 := h3.2; (try dsimp only at *); omega) | (intro h1; exfalso; have h4 := h1.2; (try dsimp only at *); omega) | (intro x h1 h2; exfalso; have h4 := h2.2; (try dsimp only at *); omega) | (intro x h1 h2; exact ⟨_, rfl, h2⟩) | (intro x h1 h2; have h4 := h2.1; have h5 := h2.2; exfalso; omega) | (intro x h1 h2; exact h2.1) | (intro x h1 h2; rcases h2.1 with h3 | h3; exact h3; exfalso; omega) | (intro x h1 h2; rcases h2 with h3 | h3; exact h3; exfalso; omega))
      replace hQ := hQ.chg k3 (by first | (intro x h1 h2; exact h2) | (intro x h0 h1 h2; exact hS x h1 h2) | (intro x h0 h1 h2; have h3 : _ = _ := h2; subst h3; exact hSR h1.1) | (intro x h1 h2; have h3 : _ = _ := h2; subst h3; assumption) | (intro x h1 h2; have h3 : _ = _ := h2; exfalso; omega) | (intro b h1 h2 h3; have h4 : _ = _ := h3; (try dsimp only at h2); exfalso; omega) | (intro h1; have h2 : _ = _ := h1; exfalso; omega) | (intro h1; have h2 : _ ≤ _ := h1; exfalso; omega) | (intros; exfalso; (try dsimp only at *); omega) | (intro b h1 h2 h3; exfalso; have h4 := h3.2; (try dsimp only at *); omega) | (intro h1; exfalso; have h4 := h1.2; (try dsimp only at *); omega) | (intro x h1 h2; exfalso; have h4 := h2.2; (try dsimp only at *); omega) | (intro x h1 h2; exact ⟨_, rfl, h2⟩) | (intro x h1 h2; have h4 := h2.1; have h5 := h2.2; exfalso; omega) | (intro x h1 h2; exact h2.1) | (intro x h1 h2; rcases h2.1 with h3 | h3; exact h3; exfalso; omega) | (intro x h1 h2; rcases h2 with h3 | h3; exact h3; exfalso; omega))
      have hL3 := hL.write (d := i % 5) (a := i * 3 % 8) (by omega) (by omega) (f := (k : Int)) ⟨by omega, by omega⟩
      have sw3 : (addS s (((i % 5 : Nat) : Int), ((i * 3 % 8 : Nat) : Int)) (B k)).waits.length ≤ i + 1 := by
        show (s.waits ++ [_]).length ≤ i + 1
        rw [List.length_append]
        simpa using sw
      obtain ⟨s3, es3⟩ : ∃ s3, s3 = addS s (((i % 5 : Nat) : Int), ((i * 3 % 8 : Nat) : Int)) (B k) := ⟨_, rfl⟩
      rw [← es3] at hR3 hL3 sw3
      clear es3
      refine WL.neqF rfl rfl rfl (by first | rfl | omega | decide) ?_
      refine WL.nil (WX.then_normal (WC.cond_false rfl (WC.skip (WX.then_normal (WC.region (WL.move rfl rfl (WL.move rfl rfl (?_))))))))
      refine WL.rem64i rfl rfl (by constructor <;> omega) rfl (WL.mul64 rfl rfl (by first | omega | (constructor <;> omega)) rfl (WL.move rfl rfl (WL.mul64 rfl rfl (by first | omega | (constructor <;> omega)) rfl (WL.rem64i rfl rfl (by constructor <;> omega) rfl (WL.add64 rfl rfl (by first | omega | (constructor <;> omega)) rfl (WL.move rfl rfl (WL.add64 rfl rfl (by first | omega | (constructor <;> omega)) rfl (?_))))))))
      refine WL.index (j := i % 5 * 8 + i * 3 % 8) Try.underlying22 Try.sizeOf3 rfl rfl (by omega) (by omega) rfl ?_
      refine WL.storeRow (z := 1 + (k : Int)) ((i % 5 * 8 + i * 3 % 8)) Try.sizeOf3 hQ rfl rfl rfl (by first | (simp; done) | (show 0 + _ * 1 = _; omega)) (by omega) rfl ?_
      intro w_2 zs_2 nr_2 k_2
      have zs_k_2 := k_2.size
      replace hf := hf.chg k_2 (by first | (intro x h1 h2; exact h2) | (intro x h0 h1 h2; exact hS x h1 h2) | (intro x h0 h1 h2; have h3 : _ = _ := h2; subst h3; exact hSR h1.1) | (intro x h1 h2; have h3 : _ = _ := h2; subst h3; assumption) | (intro x h1 h2; have h3 : _ = _ := h2; exfalso; omega) | (intro b h1 h2 h3; have h4 : _ = _ := h3; (try dsimp only at h2); exfalso; omega) | (intro h1; have h2 : _ = _ := h1; exfalso; omega) | (intro h1; have h2 : _ ≤ _ := h1; exfalso; omega) | (intros; exfalso; (try dsimp only at *); omega) | (intro b h1 h2 h3; exfalso; have h4 := h3.2; (try dsimp only at *); omega) | (intro h1; exfalso; have h4 := h1.2; (try dsimp only at *); omega) | (intro x h1 h2; exfalso; have h4 := h2.2; (try dsimp only at *); omega) | (intro x h1 h2; exact ⟨_, rfl, h2⟩) | (intro x h1 h2; have h4 := h2.1; have h5 := h2.2; exfalso; omega) | (intro x h1 h2; exact h2.1) | (intro x h1 h2; rcases h2.1 with h3 | h3; exact h3; exfalso; omega) | (intro x h1 h2; rcases h2 with h3 | h3; exact h3; exfalso; omega))
      replace hp := hp.chg k_2 (by first | (intro x h1 h2; exact h2) | (intro x h0 h1 h2; exact hS x h1 h2) | (intro x h0 h1 h2; have h3 : _ = _ := h2; subst h3; exact hSR h1.1) | (intro x h1 h2; have h3 : _ = _ := h2; subst h3; assumption) | (intro x h1 h2; have h3 : _ = _ := h2; exfalso; omega) | (intro b h1 h2 h3; have h4 : _ = _ := h3; (try dsimp only at h2); exfalso; omega) | (intro h1; have h2 : _ = _ := h1; exfalso; omega) | (intro h1; have h2 : _ ≤ _ := h1; exfalso; omega) | (intros; exfalso; (try dsimp only at *); omega) | (intro b h1 h2 h3; exfalso; have h4 := h3.2; (try dsimp only at *); omega) | (intro h1; exfalso; have h4 := h1.2; (try dsimp only at *); omega) | (intro x h1 h2; exfalso; have h4 := h2.2; (try dsimp only at *); omega) | (intro x h1 h2; exact ⟨_, rfl, h2⟩) | (intro x h1 h2; have h4 := h2.1; have h5 := h2.2; exfalso; omega) | (intro x h1 h2; exact h2.1) | (intro x h1 h2; rcases h2.1 with h3 | h3; exact h3; exfalso; omega) | (intro x h1 h2; rcases h2 with h3 | h3; exact h3; exfalso; omega))
      replace hw := hw.chg k_2 (by first | (intro x h1 h2; exact h2) | (intro x h0 h1 h2; exact hS x h1 h2) | (intro x h0 h1 h2; have h3 : _ = _ := h2; subst h3; exact hSR h1.1) | (intro x h1 h2; have h3 : _ = _ := h2; subst h3; assumption) | (intro x h1 h2; have h3 : _ = _ := h2; exfalso; omega) | (intro b h1 h2 h3; have h4 : _ = _ := h3; (try dsimp only at h2); exfalso; omega) | (intro h1; have h2 : _ = _ := h1; exfalso; omega) | (intro h1; have h2 : _ ≤ _ := h1; exfalso; omega) | (intros; exfalso; (try dsimp only at *); omega) | (intro b h1 h2 h3; exfalso; have h4 := h3.2; (try dsimp only at *); omega) | (intro h1; exfalso; have h4 := h1.2; (try dsimp only at *); omega) | (intro x h1 h2; exfalso; have h4 := h2.2; (try dsimp only at *); omega) | (intro x h1 h2; exact ⟨_, rfl, h2⟩) | (intro x h1 h2; have h4 := h2.1; have h5 := h2.2; exfalso; omega) | (intro x h1 h2; exact h2.1) | (intro x h1 h2; rcases h2.1 with h3 | h3; exact h3; exfalso; omega) | (intro x h1 h2; rcases h2 with h3 | h3; exact h3; exfalso; omega))
      replace hR3 := hR3.chg k_2 (by first | (intro x h1 h2; exact h2) | (intro x h0 h1 h2; exact hS x h1 h2) | (intro x h0 h1 h2; have h3 : _ = _ := h2; subst h3; exact hSR h1.1) | (intro x h1 h2; have h3 : _ = _ := h2; subst h3; assumption) | (intro x h1 h2; have h3 : _ = _ := h2; exfalso; omega) | (intro b h1 h2 h3; have h4 : _ = _ := h3; (try dsimp only at h2); exfalso; omega) | (intro h1; have h2 : _ = _ := h1; exfalso; omega) | (intro h1; have h2 : _ ≤ _ := h1; exfalso; omega) | (intros; exfalso; (try dsimp only at *); omega) | (intro b h1 h2 h3; exfalso; have h4 := h3.2; (try dsimp only at *); omega) | (intro h1; exfalso; have h4 := h1.2; (try dsimp only at *); omega) | (intro x h1 h2; exfalso; have h4 := h2.2; (try dsimp only at *); omega) | (intro x h1 h2; exact ⟨_, rfl, h2⟩) | (intro x h1 h2; have h4 := h2.1; have h5 := h2.2; exfalso; omega) | (intro x h1 h2; exact h2.1) | (intro x h1 h2; rcases h2.1 with h3 | h3; exact h3; exfalso; omega) | (intro x h1 h2; rcases h2 with h3 | h3; exact h3; exfalso; omega))
      replace hQ := nr_2
      refine WL.nil (WX.block_normal (WX.then_normal (WC.region (WL.move rfl rfl (WL.add64 rfl rfl (by first | omega | (constructor <;> omega)) rfl (WL.assign rfl rfl (WL.nil (?_))))))))
      first
        | exact WX.loop_next (i + 1, L.set (i % 5 * 8 + i * 3 % 8) (1 + (k : Int))) ⟨rfl, rfl, rfl, rfl, by simp [List.lookup, ev, List.length_set], rfl, trivial⟩ ⟨by show i + 1 ≤ 80; omega, hf, hp, hw, hQ, by omega, s3, hL3, sw3, hR3⟩ (by show 80 - (i + 1) < 80 - i; omega)
        | exact WX.loop_next (a + 1) ⟨rfl, rfl, rfl, rfl, rfl, rfl, trivial⟩ ⟨by omega, hp, hw, hQ, hR, by omega⟩ (by omega)
        | exact WX.loop_next (d + 1) ⟨rfl, rfl, rfl, rfl, rfl, trivial⟩ ⟨by omega, hp, hw, hQ, hR, by omega⟩ (by omega)
    ·
      refine WL.pickT rfl rfl rfl (WL.nil (WX.then_normal (WC.cond_false rfl (WC.exit (WX.then_exit (WX.then_exit (WX.block_here (?_))))))))
      refine WX.then_normal (WC.seq (WC.region (WL.move rfl rfl (WL.c_i64_u64 Try.underlying3 Try.underlying41 rfl rfl (WL.num rfl rfl (n_rem64 _ _ _ 5 (by decide)) rfl (?_))))))
      refine WL.c_u64_i64s (n := l) Try.underlying41 Try.underlying3 rfl ⟨hl.symm, by omega⟩ rfl ?_
      refine WL.assign rfl rfl (WL.nil (WX.then_normal (WC.seq (WC.seq (WC.region (WL.move rfl rfl (?_)))))))
      have hok := hR.ok
      refine WL.call eg_15 rfl rfl (FlushU hR hL.up) ?_
      rintro v w3 ⟨rfl, hR3, k3⟩
      have zs_k3 := k3.size
      replace hf := hf.chg k3 (by first | (intro x h1 h2; exact h2) | (intro x h0 h1 h2; exact hS x h1 h2) | (intro x h0 h1 h2; have h3 : _ = _ := h2; subst h3; exact hSR h1.1) | (intro x h1 h2; have h3 : _ = _ := h2; subst h3; assumption) | (intro x h1 h2; have h3 : _ = _ := h2; exfalso; omega) | (intro b h1 h2 h3; have h4 : _ = _ := h3; (try dsimp only at h2); exfalso; omega) | (intro h1; have h2 : _ = _ := h1; exfalso; omega) | (intro h1; have h2 : _ ≤ _ := h1; exfalso; omega) | (intros; exfalso; (try dsimp only at *); omega) | (intro b h1 h2 h3; exfalso; have h4 := h3.2; (try dsimp only at *); omega) | (intro h1; exfalso; have h4 := h1.2; (try dsimp only at *); omega) | (intro x h1 h2; exfalso; have h4 := h2.2; (try dsimp only at *); omega) | (intro x h1 h2; exact ⟨_, rfl, h2⟩) | (intro x h1 h2; have h4 := h2.1; have h5 := h2.2; exfalso; omega) | (intro x h1 h2; exact h2.1) | (intro x h1 h2; rcases h2.1 with h3 | h3; exact h3; exfalso; omega) | (intro x h1 h2; rcases h2 with h3 | h3; exact h3; exfalso; omega))
      replace hp := hp.chg k3 (by first | (intro x h1 h2; exact h2) | (intro x h0 h1 h2; exact hS x h1 h2) | (intro x h0 h1 h2; have h3 : _ = _ := h2; subst h3; exact hSR h1.1) | (intro x h1 h2; have h3 : _ = _ := h2; subst h3; assumption) | (intro x h1 h2; have h3 : _ = _ := h2; exfalso; omega) | (intro b h1 h2 h3; have h4 : _ = _ := h3; (try dsimp only at h2); exfalso; omega) | (intro h1; have h2 : _ = _ := h1; exfalso; omega) | (intro h1; have h2 : _ ≤ _ := h1; exfalso; omega) | (intros; exfalso; (try dsimp only at *); omega) | (intro b h1 h2 h3; exfalso; have h4 := h3.2; (try dsimp only at *); omega) | (intro h1; exfalso; have h4 := h1.2; (try dsimp only at *); omega) | (intro x h1 h2; exfalso; have h4 := h2.2; (try dsimp only at *); omega) | (intro x h1 h2; exact ⟨_, rfl, h2⟩) | (intro x h1 h2; have h4 := h2.1; have h5 := h2.2; exfalso; omega) | (intro x h1 h2; exact h2.1) | (intro x h1 h2; rcases h2.1 with h3 | h3; exact h3; exfalso; omega) | (intro x h1 h2; rcases h2 with h3 | h3; exact h3; exfalso; omega))
      replace hw := hw.chg k3 (by first | (intro x h1 h2; exact h2) | (intro x h0 h1 h2; exact hS x h1 h2) | (intro x h0 h1 h2; have h3 : _ = _ := h2; subst h3; exact hSR h1.1) | (intro x h1 h2; have h3 : _ = _ := h2; subst h3; assumption) | (intro x h1 h2; have h3 : _ = _ := h2; exfalso; omega) | (intro b h1 h2 h3; have h4 : _ = _ := h3; (try dsimp only at h2); exfalso; omega) | (intro h1; have h2 : _ = _ := h1; exfalso; omega) | (intro h1; have h2 : _ ≤ _ := h1; exfalso; omega) | (intros; exfalso; (try dsimp only at *); omega) | (intro b h1 h2 h3; exfalso; have h4 := h3.2; (try dsimp only at *); omega) | (intro h1; exfalso; have h4 := h1.2; (try dsimp only at *); omega) | (intro x h1 h2; exfalso; have h4 := h2.2; (try dsimp only at *); omega) | (intro x h1 h2; exact ⟨_, rfl, h2⟩) | (intro x h1 h2; have h4 := h2.1; have h5 := h2.2; exfalso; omega) | (intro x h1 h2; exact h2.1) | (intro x h1 h2; rcases h2.1 with h3 | h3; exact h3; exfalso; omega) | (intro x h1 h2; rcases h2 with h3 | h3; exact h3; exfalso; omega))
      replace hQ := hQ.chg k3 (by first | (intro x h1 h2; exact h2) | (intro x h0 h1 h2; exact hS x h1 h2) | (intro x h0 h1 h2; have h3 : _ = _ := h2; subst h3; exact hSR h1.1) | (intro x h1 h2; have h3 : _ = _ := h2; subst h3; assumption) | (intro x h1 h2; have h3 : _ = _ := h2; exfalso; omega) | (intro b h1 h2 h3; have h4 : _ = _ := h3; (try dsimp only at h2); exfalso; omega) | (intro h1; have h2 : _ = _ := h1; exfalso; omega) | (intro h1; have h2 : _ ≤ _ := h1; exfalso; omega) | (intros; exfalso; (try dsimp only at *); omega) | (intro b h1 h2 h3; exfalso; have h4 := h3.2; (try dsimp only at *); omega) | (intro h1; exfalso; have h4 := h1.2; (try dsimp only at *); omega) | (intro x h1 h2; exfalso; have h4 := h2.2; (try dsimp only at *); omega) | (intro x h1 h2; exact ⟨_, rfl, h2⟩) | (intro x h1 h2; have h4 := h2.1; have h5 := h2.2; exfalso; omega) | (intro x h1 h2; exact h2.1) | (intro x h1 h2; rcases h2.1 with h3 | h3; exact h3; exfalso; omega) | (intro x h1 h2; rcases h2 with h3 | h3; exact h3; exfalso; omega))
      refine WL.neqF rfl rfl rfl (by first | rfl | omega | decide) ?_
      refine WL.move rfl rfl (WL.want rfl rfl rfl (WL.move rfl rfl (WL.want rfl rfl rfl (?_))))
      refine WL.call eg_14 rfl rfl (hBc 5 _) ?_
      rintro v w4 ⟨⟨g4, rfl, hq4, hg41, hg42⟩, k4⟩
      have zs_k4 := k4.size
      replace hf := hf.pure k4
      replace hp := hp.pure k4
      replace hw := hw.pure k4
      replace hQ := hQ.pure k4
      replace hR3 := hR3.pure k4
      refine WL.want rfl rfl rfl (?_)
      have zw4 := hw.size
      refine WL.call eg_13 rfl rfl (WriteU (d := 2) (a := 0) hR3 (fun x hx => by omega) (allS_up hL.up) (by unfold inS; rw [show (allS s).dn = s.dn from rfl, show (allS s).sn = s.sn from rfl, hL.dn, hL.sn]; decide) (hL.gone 2) hq4 (hBl _) (by show 0 ≤ 100000; decide)) ?_
      rintro v w5 ⟨rfl, hR5, k5⟩
      have zs_k5 := k5.size
      replace hf := hf.chg k5 (by first | (intro x h1 h2; exact h2) | (intro x h0 h1 h2; exact hS x h1 h2) | (intro x h0 h1 h2; have h3 : _ = _ := h2; subst h3; exact hSR h1.1) | (intro x h1 h2; have h3 : _ = _ := h2; subst h3; assumption) | (intro x h1 h2; have h3 : _ = _ := h2; exfalso; omega) | (intro b h1 h2 h3; have h4 : _ = _ := h3; (try dsimp only at h2); exfalso; omega) | (intro h1; have h2 : _ = _ := h1; exfalso; omega) | (intro h1; have h2 : _ ≤ _ := h1; exfalso; omega) | (intros; exfalso; (try dsimp only at *); omega) | (intro b h1 h2 h3; exfalso; have h4 := h3.2; (try dsimp only at *); omega) | (intro h1; exfalso; have h4 := h1.2; (try dsimp only at *); omega) | (intro x h1 h2; exfalso; have h4 := h2.2; (try dsimp only at *); omega) | (intro x h1 h2; exact ⟨_, rfl, h2⟩) | (intro x h1 h2; have h4 := h2.1; have h5 := h2.2; exfalso; omega) | (intro x h1 h2; exact h2.1) | (intro x h1 h2; rcases h2.1 with h3 | h3; exact h3; exfalso; omega) | (intro x h1 h2; rcases h2 with h3 | h3; exact h3; exfalso; omega))
      replace hp := hp.chg k5 (by first | (intro x h1 h2; exact h2) | (intro x h0 h1 h2; exact hS x h1 h2) | (intro x h0 h1 h2; have h3 : _ = _ := h2; subst h3; exact hSR h1.1) | (intro x h1 h2; have h3 : _ = _ := h2; subst h3; assumption) | (intro x h1 h2; have h3 : _ = _ := h2; exfalso; omega) | (intro b h1 h2 h3; have h4 : _ = _ := h3; (try dsimp only at h2); exfalso; omega) | (intro h1; have h2 : _ = _ := h1; exfalso; omega) | (intro h1; have h2 : _ ≤ _ := h1; exfalso; omega) | (intros; exfalso; (try dsimp only at *); omega) | (intro b h1 h2 h3; exfalso; have h4 := h3.2; (try dsimp only at *); omega) | (intro h1; exfalso; have h4 := h1.2; (try dsimp only at *); omega) | (intro x h1 h2; exfalso; have h4 := h2.2; (try dsimp only at *); omega) | (intro x h1 h2; exact ⟨_, rfl, h2⟩) | (intro x h1 h2; have h4 := h2.1; have h5 := h2.2; exfalso; omega) | (intro x h1 h2; exact h2.1) | (intro x h1 h2; rcases h2.1 with h3 | h3; exact h3; exfalso; omega) | (intro x h1 h2; rcases h2 with h3 | h3; exact h3; exfalso; omega))
      replace hw := hw.chg k5 (by first | (intro x h1 h2; exact h2) | (intro x h0 h1 h2; exact hS x h1 h2) | (intro x h0 h1 h2; have h3 : _ = _ := h2; subst h3; exact hSR h1.1) | (intro x h1 h2; have h3 : _ = _ := h2; subst h3; assumption) | (intro x h1 h2; have h3 : _ = _ := h2; exfalso; omega) | (intro b h1 h2 h3; have h4 : _ = _ := h3; (try dsimp only at h2); exfalso; omega) | (intro h1; have h2 : _ = _ := h1; exfalso; omega) | (intro h1; have h2 : _ ≤ _ := h1; exfalso; omega) | (intros; exfalso; (try dsimp only at *); omega) | (intro b h1 h2 h3; exfalso; have h4 := h3.2; (try dsimp only at *); omega) | (intro h1; exfalso; have h4 := h1.2; (try dsimp only at *); omega) | (intro x h1 h2; exfalso; have h4 := h2.2; (try dsimp only at *); omega) | (intro x h1 h2; exact ⟨_, rfl, h2⟩) | (intro x h1 h2; have h4 := h2.1; have h5 := h2.2; exfalso; omega) | (intro x h1 h2; exact h2.1) | (intro x h1 h2; rcases h2.1 with h3 | h3; exact h3; exfalso; omega) | (intro x h1 h2; rcases h2 with h3 | h3; exact h3; exfalso; omega))
      replace hQ := hQ.chg k5 (by first | (intro x h1 h2; exact h2) | (intro x h0 h1 h2; exact hS x h1 h2) | (intro x h0 h1 h2; have h3 : _ = _ := h2; subst h3; exact hSR h1.1) | (intro x h1 h2; have h3 : _ = _ := h2; subst h3; assumption) | (intro x h1 h2; have h3 : _ = _ := h2; exfalso; omega) | (intro b h1 h2 h3; have h4 : _ = _ := h3; (try dsimp only at h2); exfalso; omega) | (intro h1; have h2 : _ = _ := h1; exfalso; omega) | (intro h1; have h2 : _ ≤ _ := h1; exfalso; omega) | (intros; exfalso; (try dsimp only at *); omega) | (intro b h1 h2 h3; exfalso; have h4 := h3.2; (try dsimp only at *); omega) | (intro h1; exfalso; have h4 := h1.2; (try dsimp only at *); omega) | (intro x h1 h2; exfalso; have h4 := h2.2; (try dsimp only at *); omega) | (intro x h1 h2; exact ⟨_, rfl, h2⟩) | (intro x h1 h2; have h4 := h2.1; have h5 := h2.2; exfalso; omega) | (intro x h1 h2; exact h2.1) | (intro x h1 h2; rcases h2.1 with h3 | h3; exact h3; exfalso; omega) | (intro x h1 h2; rcases h2 with h3 | h3; exact h3; exfalso; omega))
      refine WL.want rfl rfl rfl (?_)
      refine WL.neqF rfl rfl rfl (by first | rfl | omega | decide) ?_
      refine WL.pickF rfl rfl rfl (WL.move rfl rfl (WL.want rfl rfl rfl (WL.move rfl rfl (WL.want rfl rfl rfl (WL.move rfl rfl (WL.want rfl rfl rfl (?_)))))))
      have hok1 := hR5.ok
      have hi1 : isS (addS (allS s) (2, 0) (B 5)) (l : Int) := by
        unfold isS
        rw [show (addS (allS s) (2, 0) (B 5)).dn = s.dn from rfl, hL.dn]
        omega
      refine WL.call eg_20 rfl rfl (LoseU hR5 hi1) ?_
      rintro v w6 ⟨rfl, hR6, k6⟩
      have zs_k6 := k6.size
      replace hf := hf.chg k6 (by first | (intro x h1 h2; exact h2) | (intro x h0 h1 h2; exact hS x h1 h2) | (intro x h0 h1 h2; have h3 : _ = _ := h2; subst h3; exact hSR h1.1) | (intro x h1 h2; have h3 : _ = _ := h2; subst h3; assumption) | (intro x h1 h2; have h3 : _ = _ := h2; exfalso; omega) | (intro b h1 h2 h3; have h4 : _ = _ := h3; (try dsimp only at h2); exfalso; omega) | (intro h1; have h2 : _ = _ := h1; exfalso; omega) | (intro h1; have h2 : _ ≤ _ := h1; exfalso; omega) | (intros; exfalso; (try dsimp only at *); omega) | (intro b h1 h2 h3; exfalso; have h4 := h3.2; (try dsimp only at *); omega) | (intro h1; exfalso; have h4 := h1.2; (try dsimp only at *); omega) | (intro x h1 h2; exfalso; have h4 := h2.2; (try dsimp only at *); omega) | (intro x h1 h2; exact ⟨_, rfl, h2⟩) | (intro x h1 h2; have h4 := h2.1; have h5 := h2.2; exfalso; omega) | (intro x h1 h2; exact h2.1) | (intro x h1 h2; rcases h2.1 with h3 | h3; exact h3; exfalso; omega) | (intro x h1 h2; rcases h2 with h3 | h3; exact h3; exfalso; omega))
      replace hp := hp.chg k6 (by first | (intro x h1 h2; exact h2) | (intro x h0 h1 h2; exact hS x h1 h2) | (intro x h0 h1 h2; have h3 : _ = _ := h2; subst h3; exact hSR h1.1) | (intro x h1 h2; have h3 : _ = _ := h2; subst h3; assumption) | (intro x h1 h2; have h3 : _ = _ := h2; exfalso; omega) | (intro b h1 h2 h3; have h4 : _ = _ := h3; (try dsimp only at h2); exfalso; omega) | (intro h1; have h2 : _ = _ := h1; exfalso; omega) | (intro h1; have h2 : _ ≤ _ := h1; exfalso; omega) | (intros; exfalso; (try dsimp only at *); omega) | (intro b h1 h2 h3; exfalso; have h4 := h3.2; (try dsimp only at *); omega) | (intro h1; exfalso; have h4 := h1.2; (try dsimp only at *); omega) | (intro x h1 h2; exfalso; have h4 := h2.2; (try dsimp only at *); omega) | (intro x h1 h2; exact ⟨_, rfl, h2⟩) | (intro x h1 h2; have h4 := h2.1; have h5 := h2.2; exfalso; omega) | (intro x h1 h2; exact h2.1) | (intro x h1 h2; rcases h2.1 with h3 | h3; exact h3; exfalso; omega) | (intro x h1 h2; rcases h2 with h3 | h3; exact h3; exfalso; omega))
      replace hw := hw.chg k6 (by first | (intro x h1 h2; exact h2) | (intro x h0 h1 h2; exact hS x h1 h2) | (intro x h0 h1 h2; have h3 : _ = _ := h2; subst h3; exact hSR h1.1) | (intro x h1 h2; have h3 : _ = _ := h2; subst h3; assumption) | (intro x h1 h2; have h3 : _ = _ := h2; exfalso; omega) | (intro b h1 h2 h3; have h4 : _ = _ := h3; (try dsimp only at h2); exfalso; omega) | (intro h1; have h2 : _ = _ := h1; exfalso; omega) | (intro h1; have h2 : _ ≤ _ := h1; exfalso; omega) | (intros; exfalso; (try dsimp only at *); omega) | (intro b h1 h2 h3; exfalso; have h4 := h3.2; (try dsimp only at *); omega) | (intro h1; exfalso; have h4 := h1.2; (try dsimp only at *); omega) | (intro x h1 h2; exfalso; have h4 := h2.2; (try dsimp only at *); omega) | (intro x h1 h2; exact ⟨_, rfl, h2⟩) | (intro x h1 h2; have h4 := h2.1; have h5 := h2.2; exfalso; omega) | (intro x h1 h2; exact h2.1) | (intro x h1 h2; rcases h2.1 with h3 | h3; exact h3; exfalso; omega) | (intro x h1 h2; rcases h2 with h3 | h3; exact h3; exfalso; omega))
      replace hQ := hQ.chg k6 (by first | (intro x h1 h2; exact h2) | (intro x h0 h1 h2; exact hS x h1 h2) | (intro x h0 h1 h2; have h3 : _ = _ := h2; subst h3; exact hSR h1.1) | (intro x h1 h2; have h3 : _ = _ := h2; subst h3; assumption) | (intro x h1 h2; have h3 : _ = _ := h2; exfalso; omega) | (intro b h1 h2 h3; have h4 : _ = _ := h3; (try dsimp only at h2); exfalso; omega) | (intro h1; have h2 : _ = _ := h1; exfalso; omega) | (intro h1; have h2 : _ ≤ _ := h1; exfalso; omega) | (intros; exfalso; (try dsimp only at *); omega) | (intro b h1 h2 h3; exfalso; have h4 := h3.2; (try dsimp only at *); omega) | (intro h1; exfalso; have h4 := h1.2; (try dsimp only at *); omega) | (intro x h1 h2; exfalso; have h4 := h2.2; (try dsimp only at *); omega) | (intro x h1 h2; exact ⟨_, rfl, h2⟩) | (intro x h1 h2; have h4 := h2.1; have h5 := h2.2; exfalso; omega) | (intro x h1 h2; exact h2.1) | (intro x h1 h2; rcases h2.1 with h3 | h3; exact h3; exfalso; omega) | (intro x h1 h2; rcases h2 with h3 | h3; exact h3; exfalso; omega))
      refine WL.want rfl rfl rfl (?_)
      refine WL.neqF rfl rfl rfl (by first | rfl | omega | decide) ?_
      refine WL.pickF rfl rfl rfl (WL.nil (WX.then_normal (WC.cond_false rfl (WC.skip (WX.then_normal (WC.seq (WC.region (?_))))))))
      refine WL.move rfl rfl (?_)
      replace hR6 := hR6.old
      refine WL.build (e := ei) [] Try.underlying22 Try.sizeOf3 Try.zeroValue3 rfl rfl rfl (by first | (simp [Value.cells]; done) | (simp [Value.cells] <;> rfl) | (simp [Value.cells, eb, ei, es, ebool, e32, e64]; done)) (by decide) rfl ?_
      intro a_hb0 w_hb0 hb0 l_hb0 z_hb0 k_hb0
      have zs_k_hb0 := k_hb0.size
      replace hf := hf.pure k_hb0
      replace hp := hp.pure k_hb0
      replace hw := hw.pure k_hb0
      replace hQ := hQ.pure k_hb0
      replace hR6 := hR6.pure k_hb0
      refine WL.move rfl rfl (?_)
      refine WL.append (e := ei) info_3 rfl Try.underlying22 rfl rfl hb0 (hp.src Try.underlying22) (by (try simp only [List.length_append, List.length_cons, List.length_nil] at *); omega) (by intro b hb; first | (apply hS; omega) | ((try dsimp only); omega)) rfl ?_
      intro a_hb1 c_hb1 w_hb1 hb1 g_hb1 n_hb1
      have z_hb1 := g_hb1.chg.size
      have zs_g_hb1_chg := g_hb1.chg.size
      replace hf := hf.chg g_hb1.chg (by first | (intro x h1 h2; exact h2) | (intro x h0 h1 h2; exact hS x h1 h2) | (intro x h0 h1 h2; have h3 : _ = _ := h2; subst h3; exact hSR h1.1) | (intro x h1 h2; have h3 : _ = _ := h2; subst h3; assumption) | (intro x h1 h2; have h3 : _ = _ := h2; exfalso; omega) | (intro b h1 h2 h3; have h4 : _ = _ := h3; (try dsimp only at h2); exfalso; omega) | (intro h1; have h2 : _ = _ := h1; exfalso; omega) | (intro h1; have h2 : _ ≤ _ := h1; exfalso; omega) | (intros; exfalso; (try dsimp only at *); omega) | (intro b h1 h2 h3; exfalso; have h4 := h3.2; (try dsimp only at *); omega) | (intro h1; exfalso; have h4 := h1.2; (try dsimp only at *); omega) | (intro x h1 h2; exfalso; have h4 := h2.2; (try dsimp only at *); omega) | (intro x h1 h2; exact ⟨_, rfl, h2⟩) | (intro x h1 h2; have h4 := h2.1; have h5 := h2.2; exfalso; omega) | (intro x h1 h2; exact h2.1) | (intro x h1 h2; rcases h2.1 with h3 | h3; exact h3; exfalso; omega) | (intro x h1 h2; rcases h2 with h3 | h3; exact h3; exfalso; omega))
      replace hp := hp.chg g_hb1.chg (by first | (intro x h1 h2; exact h2) | (intro x h0 h1 h2; exact hS x h1 h2) | (intro x h0 h1 h2; have h3 : _ = _ := h2; subst h3; exact hSR h1.1) | (intro x h1 h2; have h3 : _ = _ := h2; subst h3; assumption) | (intro x h1 h2; have h3 : _ = _ := h2; exfalso; omega) | (intro b h1 h2 h3; have h4 : _ = _ := h3; (try dsimp only at h2); exfalso; omega) | (intro h1; have h2 : _ = _ := h1; exfalso; omega) | (intro h1; have h2 : _ ≤ _ := h1; exfalso; omega) | (intros; exfalso; (try dsimp only at *); omega) | (intro b h1 h2 h3; exfalso; have h4 := h3.2; (try dsimp only at *); omega) | (intro h1; exfalso; have h4 := h1.2; (try dsimp only at *); omega) | (intro x h1 h2; exfalso; have h4 := h2.2; (try dsimp only at *); omega) | (intro x h1 h2; exact ⟨_, rfl, h2⟩) | (intro x h1 h2; have h4 := h2.1; have h5 := h2.2; exfalso; omega) | (intro x h1 h2; exact h2.1) | (intro x h1 h2; rcases h2.1 with h3 | h3; exact h3; exfalso; omega) | (intro x h1 h2; rcases h2 with h3 | h3; exact h3; exfalso; omega))
      replace hw := hw.chg g_hb1.chg (by first | (intro x h1 h2; exact h2) | (intro x h0 h1 h2; exact hS x h1 h2) | (intro x h0 h1 h2; have h3 : _ = _ := h2; subst h3; exact hSR h1.1) | (intro x h1 h2; have h3 : _ = _ := h2; subst h3; assumption) | (intro x h1 h2; have h3 : _ = _ := h2; exfalso; omega) | (intro b h1 h2 h3; have h4 : _ = _ := h3; (try dsimp only at h2); exfalso; omega) | (intro h1; have h2 : _ = _ := h1; exfalso; omega) | (intro h1; have h2 : _ ≤ _ := h1; exfalso; omega) | (intros; exfalso; (try dsimp only at *); omega) | (intro b h1 h2 h3; exfalso; have h4 := h3.2; (try dsimp only at *); omega) | (intro h1; exfalso; have h4 := h1.2; (try dsimp only at *); omega) | (intro x h1 h2; exfalso; have h4 := h2.2; (try dsimp only at *); omega) | (intro x h1 h2; exact ⟨_, rfl, h2⟩) | (intro x h1 h2; have h4 := h2.1; have h5 := h2.2; exfalso; omega) | (intro x h1 h2; exact h2.1) | (intro x h1 h2; rcases h2.1 with h3 | h3; exact h3; exfalso; omega) | (intro x h1 h2; rcases h2 with h3 | h3; exact h3; exfalso; omega))
      replace hQ := hQ.chg g_hb1.chg (by first | (intro x h1 h2; exact h2) | (intro x h0 h1 h2; exact hS x h1 h2) | (intro x h0 h1 h2; have h3 : _ = _ := h2; subst h3; exact hSR h1.1) | (intro x h1 h2; have h3 : _ = _ := h2; subst h3; assumption) | (intro x h1 h2; have h3 : _ = _ := h2; exfalso; omega) | (intro b h1 h2 h3; have h4 : _ = _ := h3; (try dsimp only at h2); exfalso; omega) | (intro h1; have h2 : _ = _ := h1; exfalso; omega) | (intro h1; have h2 : _ ≤ _ := h1; exfalso; omega) | (intros; exfalso; (try dsimp only at *); omega) | (intro b h1 h2 h3; exfalso; have h4 := h3.2; (try dsimp only at *); omega) | (intro h1; exfalso; have h4 := h1.2; (try dsimp only at *); omega) | (intro x h1 h2; exfalso; have h4 := h2.2; (try dsimp only at *); omega) | (intro x h1 h2; exact ⟨_, rfl, h2⟩) | (intro x h1 h2; have h4 := h2.1; have h5 := h2.2; exfalso; omega) | (intro x h1 h2; exact h2.1) | (intro x h1 h2; rcases h2.1 with h3 | h3; exact h3; exfalso; omega) | (intro x h1 h2; rcases h2 with h3 | h3; exact h3; exfalso; omega))
      replace hR6 := hR6.chg g_hb1.chg (by first | (intro x h1 h2; exact h2) | (intro x h0 h1 h2; exact hS x h1 h2) | (intro x h0 h1 h2; have h3 : _ = _ := h2; subst h3; exact hSR h1.1) | (intro x h1 h2; have h3 : _ = _ := h2; subst h3; assumption) | (intro x h1 h2; have h3 : _ = _ := h2; exfalso; omega) | (intro b h1 h2 h3; have h4 : _ = _ := h3; (try dsimp only at h2); exfalso; omega) | (intro h1; have h2 : _ = _ := h1; exfalso; omega) | (intro h1; have h2 : _ ≤ _ := h1; exfalso; omega) | (intros; exfalso; (try dsimp only at *); omega) | (intro b h1 h2 h3; exfalso; have h4 := h3.2; (try dsimp only at *); omega) | (intro h1; exfalso; have h4 := h1.2; (try dsimp only at *); omega) | (intro x h1 h2; exfalso; have h4 := h2.2; (try dsimp only at *); omega) | (intro x h1 h2; exact ⟨_, rfl, h2⟩) | (intro x h1 h2; have h4 := h2.1; have h5 := h2.2; exfalso; omega) | (intro x h1 h2; exact h2.1) | (intro x h1 h2; rcases h2.1 with h3 | h3; exact h3; exfalso; omega) | (intro x h1 h2; rcases h2 with h3 | h3; exact h3; exfalso; omega))
      rw [show ([] ++ l1 : List Int) = l1 from rfl] at hb1 ⊢
      refine WL.call eg_17 rfl rfl (Crash_calls hR6 hb1.rsl (fun x h1 h2 => by omega)) ?_
      rintro v w7 ⟨rfl, hR7, k7⟩
      have zs_k7 := k7.size
      replace hf := hf.chg k7 (by first | (intro x h1 h2; exact h2) | (intro x h0 h1 h2; exact hS x h1 h2) | (intro x h0 h1 h2; have h3 : _ = _ := h2; subst h3; exact hSR h1.1) | (intro x h1 h2; have h3 : _ = _ := h2; subst h3; assumption) | (intro x h1 h2; have h3 : _ = _ := h2; exfalso; omega) | (intro b h1 h2 h3; have h4 : _ = _ := h3; (try dsimp only at h2); exfalso; omega) | (intro h1; have h2 : _ = _ := h1; exfalso; omega) | (intro h1; have h2 : _ ≤ _ := h1; exfalso; omega) | (intros; exfalso; (try dsimp only at *); omega) | (intro b h1 h2 h3; exfalso; have h4 := h3.2; (try dsimp only at *); omega) | (intro h1; exfalso; have h4 := h1.2; (try dsimp only at *); omega) | (intro x h1 h2; exfalso; have h4 := h2.2; (try dsimp only at *); omega) | (intro x h1 h2; exact ⟨_, rfl, h2⟩) | (intro x h1 h2; have h4 := h2.1; have h5 := h2.2; exfalso; omega) | (intro x h1 h2; exact h2.1) | (intro x h1 h2; rcases h2.1 with h3 | h3; exact h3; exfalso; omega) | (intro x h1 h2; rcases h2 with h3 | h3; exact h3; exfalso; omega))
      replace hp := hp.chg k7 (by first | (intro x h1 h2; exact h2) | (intro x h0 h1 h2; exact hS x h1 h2) | (intro x h0 h1 h2; have h3 : _ = _ := h2; subst h3; exact hSR h1.1) | (intro x h1 h2; have h3 : _ = _ := h2; subst h3; assumption) | (intro x h1 h2; have h3 : _ = _ := h2; exfalso; omega) | (intro b h1 h2 h3; have h4 : _ = _ := h3; (try dsimp only at h2); exfalso; omega) | (intro h1; have h2 : _ = _ := h1; exfalso; omega) | (intro h1; have h2 : _ ≤ _ := h1; exfalso; omega) | (intros; exfalso; (try dsimp only at *); omega) | (intro b h1 h2 h3; exfalso; have h4 := h3.2; (try dsimp only at *); omega) | (intro h1; exfalso; have h4 := h1.2; (try dsimp only at *); omega) | (intro x h1 h2; exfalso; have h4 := h2.2; (try dsimp only at *); omega) | (intro x h1 h2; exact ⟨_, rfl, h2⟩) | (intro x h1 h2; have h4 := h2.1; have h5 := h2.2; exfalso; omega) | (intro x h1 h2; exact h2.1) | (intro x h1 h2; rcases h2.1 with h3 | h3; exact h3; exfalso; omega) | (intro x h1 h2; rcases h2 with h3 | h3; exact h3; exfalso; omega))
      replace hw := hw.chg k7 (by first | (intro x h1 h2; exact h2) | (intro x h0 h1 h2; exact hS x h1 h2) | (intro x h0 h1 h2; have h3 : _ = _ := h2; subst h3; exact hSR h1.1) | (intro x h1 h2; have h3 : _ = _ := h2; subst h3; assumption) | (intro x h1 h2; have h3 : _ = _ := h2; exfalso; omega) | (intro b h1 h2 h3; have h4 : _ = _ := h3; (try dsimp only at h2); exfalso; omega) | (intro h1; have h2 : _ = _ := h1; exfalso; omega) | (intro h1; have h2 : _ ≤ _ := h1; exfalso; omega) | (intros; exfalso; (try dsimp only at *); omega) | (intro b h1 h2 h3; exfalso; have h4 := h3.2; (try dsimp only at *); omega) | (intro h1; exfalso; have h4 := h1.2; (try dsimp only at *); omega) | (intro x h1 h2; exfalso; have h4 := h2.2; (try dsimp only at *); omega) | (intro x h1 h2; exact ⟨_, rfl, h2⟩) | (intro x h1 h2; have h4 := h2.1; have h5 := h2.2; exfalso; omega) | (intro x h1 h2; exact h2.1) | (intro x h1 h2; rcases h2.1 with h3 | h3; exact h3; exfalso; omega) | (intro x h1 h2; rcases h2 with h3 | h3; exact h3; exfalso; omega))
      replace hQ := hQ.chg k7 (by first | (intro x h1 h2; exact h2) | (intro x h0 h1 h2; exact hS x h1 h2) | (intro x h0 h1 h2; have h3 : _ = _ := h2; subst h3; exact hSR h1.1) | (intro x h1 h2; have h3 : _ = _ := h2; subst h3; assumption) | (intro x h1 h2; have h3 : _ = _ := h2; exfalso; omega) | (intro b h1 h2 h3; have h4 : _ = _ := h3; (try dsimp only at h2); exfalso; omega) | (intro h1; have h2 : _ = _ := h1; exfalso; omega) | (intro h1; have h2 : _ ≤ _ := h1; exfalso; omega) | (intros; exfalso; (try dsimp only at *); omega) | (intro b h1 h2 h3; exfalso; have h4 := h3.2; (try dsimp only at *); omega) | (intro h1; exfalso; have h4 := h1.2; (try dsimp only at *); omega) | (intro x h1 h2; exfalso; have h4 := h2.2; (try dsimp only at *); omega) | (intro x h1 h2; exact ⟨_, rfl, h2⟩) | (intro x h1 h2; have h4 := h2.1; have h5 := h2.2; exfalso; omega) | (intro x h1 h2; exact h2.1) | (intro x h1 h2; rcases h2.1 with h3 | h3; exact h3; exfalso; omega) | (intro x h1 h2; rcases h2 with h3 | h3; exact h3; exfalso; omega))
      have hok4 := hR7.ok
      have hE := lasts_end hL hok (ps := l1) (l := (l : Int)) ⟨by omega, by omega⟩ rfl hok4 hok1
      have hi7 : isS (crashS (loseS (addS (allS s) (2, 0) (B 5)) (l : Int) true) l1) (l : Int) := hi1
      have hg7 : goneS (crashS (loseS (addS (allS s) (2, 0) (B 5)) (l : Int) true) l1) (l : Int) = true := by
        show goneS (loseS (addS (allS s) (2, 0) (B 5)) (l : Int) true) (l : Int) = true
        rw [loseS_gone hok1 hi1 true (by omega), if_pos rfl]
      have hin7 : inS (crashS (loseS (addS (allS s) (2, 0) (B 5)) (l : Int) true) l1) (l : Int) 1 := by
        unfold inS
        rw [show (crashS (loseS (addS (allS s) (2, 0) (B 5)) (l : Int) true) l1).dn = s.dn from rfl, show (crashS (loseS (addS (allS s) (2, 0) (B 5)) (l : Int) true) l1).sn = s.sn from rfl, hL.dn, hL.sn]
        omega
      have hw7 : (crashS (loseS (addS (allS s) (2, 0) (B 5)) (l : Int) true) l1).waits.length = 0 := rfl
      have us7 := crash_up (loseS (addS (allS s) (2, 0) (B 5)) (l : Int) true) l1
      obtain ⟨s7, es7⟩ : ∃ s7, s7 = crashS (loseS (addS (allS s) (2, 0) (B 5)) (l : Int) true) l1 := ⟨_, rfl⟩
      rw [← es7] at hR7 hok4 hE hi7 hg7 hin7 hw7 us7
      clear es7 hi1 hok1
      replace hR7 := hR7.mono (A' := fun x => w.heap.size ≤ x ∧ x ≠ gl) (fun x hx => hx.1)
      refine WL.nil (WX.then_normal (WC.seq (WC.region (WL.move rfl rfl (WL.move rfl rfl (?_))))))
      refine WL.call eg_16 rfl rfl (Read_calls hR7 (l : Int) 1) ?_
      rintro v w8 ⟨⟨r8, e8, rfl, he8, -, -, -⟩, k8⟩
      have he8' : e8 = 3 := by rw [he8]; simp [errS, hin7, hg7]
      subst he8'
      clear he8
      have zs_k8 := k8.size
      replace hf := hf.pure k8
      replace hp := hp.pure k8
      replace hw := hw.pure k8
      replace hQ := hQ.pure k8
      replace hR7 := hR7.pure k8
      refine WL.move rfl rfl (?_)
      refine WL.extract rfl rfl rfl ?_
      refine WL.extract rfl rfl rfl (WL.assign rfl rfl (WL.nil (WX.then_normal (WC.seq (WC.seq (WC.region (WL.move rfl rfl (?_))))))))
      refine WL.neqF rfl rfl rfl (by first | rfl | omega | decide) ?_
      refine WL.move rfl rfl (WL.want rfl rfl rfl (WL.move rfl rfl (WL.want rfl rfl rfl (WL.move rfl rfl (WL.want rfl rfl rfl (?_))))))
      refine WL.call eg_22 rfl rfl (Gone_calls hR7 (l : Int)) ?_
      rintro v w9 ⟨rfl, k9⟩
      rw [hg7, decide_eq_true hi7]
      have zs_k9 := k9.size
      replace hf := hf.pure k9
      replace hp := hp.pure k9
      replace hw := hw.pure k9
      replace hQ := hQ.pure k9
      replace hR7 := hR7.pure k9
      refine WL.want rfl rfl rfl (WL.not rfl rfl (WL.pickF rfl rfl rfl (WL.move rfl rfl (WL.want rfl rfl rfl (WL.move rfl rfl (WL.want rfl rfl rfl (WL.move rfl rfl (?_))))))))
      refine WL.want rfl rfl rfl (?_)
      refine WL.call eg_14 rfl rfl (hBc 1 _) ?_
      rintro v w10 ⟨⟨g10, rfl, hq10, hg101, hg102⟩, k10⟩
      have zs_k10 := k10.size
      replace hf := hf.pure k10
      replace hp := hp.pure k10
      replace hw := hw.pure k10
      replace hQ := hQ.pure k10
      replace hR7 := hR7.pure k10
      refine WL.want rfl rfl rfl (?_)
      have hE10 : writeE s7 (l : Int) 1 (B 1).length = 3 := by rw [hBl]; simp [writeE, hin7, hg7]
      have zw10 := hw.size
      refine WL.call eg_13 rfl rfl (Write_calls hR7 (l : Int) 1 (hR7.ne hq10).rsl (fun x h1 h2 => h1.2 h2) (by omega)) ?_
      rintro v w11 ⟨rfl, hR11, k11⟩
      rw [hE10]
      rw [show writeS s7 (l : Int) 1 (B 1) = s7 from by unfold writeS; rw [hE10]; rfl] at hR11
      replace hR11 := hR11.grow (fun x hx => by show w.heap.size ≤ x ∧ x ≠ gl; omega)
      have zs_k11 := k11.size
      replace hf := hf.chg k11 (by first | (intro x h1 h2; exact h2) | (intro x h0 h1 h2; exact hS x h1 h2) | (intro x h0 h1 h2; have h3 : _ = _ := h2; subst h3; exact hSR h1.1) | (intro x h1 h2; have h3 : _ = _ := h2; subst h3; assumption) | (intro x h1 h2; have h3 : _ = _ := h2; exfalso; omega) | (intro b h1 h2 h3; have h4 : _ = _ := h3; (try dsimp only at h2); exfalso; omega) | (intro h1; have h2 : _ = _ := h1; exfalso; omega) | (intro h1; have h2 : _ ≤ _ := h1; exfalso; omega) | (intros; exfalso; (try dsimp only at *); omega) | (intro b h1 h2 h3; exfalso; have h4 := h3.2; (try dsimp only at *); omega) | (intro h1; exfalso; have h4 := h1.2; (try dsimp only at *); omega) | (intro x h1 h2; exfalso; have h4 := h2.2; (try dsimp only at *); omega) | (intro x h1 h2; exact ⟨_, rfl, h2⟩) | (intro x h1 h2; have h4 := h2.1; have h5 := h2.2; exfalso; omega) | (intro x h1 h2; exact h2.1) | (intro x h1 h2; rcases h2.1 with h3 | h3; exact h3; exfalso; omega) | (intro x h1 h2; rcases h2 with h3 | h3; exact h3; exfalso; omega))
      replace hp := hp.chg k11 (by first | (intro x h1 h2; exact h2) | (intro x h0 h1 h2; exact hS x h1 h2) | (intro x h0 h1 h2; have h3 : _ = _ := h2; subst h3; exact hSR h1.1) | (intro x h1 h2; have h3 : _ = _ := h2; subst h3; assumption) | (intro x h1 h2; have h3 : _ = _ := h2; exfalso; omega) | (intro b h1 h2 h3; have h4 : _ = _ := h3; (try dsimp only at h2); exfalso; omega) | (intro h1; have h2 : _ = _ := h1; exfalso; omega) | (intro h1; have h2 : _ ≤ _ := h1; exfalso; omega) | (intros; exfalso; (try dsimp only at *); omega) | (intro b h1 h2 h3; exfalso; have h4 := h3.2; (try dsimp only at *); omega) | (intro h1; exfalso; have h4 := h1.2; (try dsimp only at *); omega) | (intro x h1 h2; exfalso; have h4 := h2.2; (try dsimp only at *); omega) | (intro x h1 h2; exact ⟨_, rfl, h2⟩) | (intro x h1 h2; have h4 := h2.1; have h5 := h2.2; exfalso; omega) | (intro x h1 h2; exact h2.1) | (intro x h1 h2; rcases h2.1 with h3 | h3; exact h3; exfalso; omega) | (intro x h1 h2; rcases h2 with h3 | h3; exact h3; exfalso; omega))
      replace hw := hw.chg k11 (by first | (intro x h1 h2; exact h2) | (intro x h0 h1 h2; exact hS x h1 h2) | (intro x h0 h1 h2; have h3 : _ = _ := h2; subst h3; exact hSR h1.1) | (intro x h1 h2; have h3 : _ = _ := h2; subst h3; assumption) | (intro x h1 h2; have h3 : _ = _ := h2; exfalso; omega) | (intro b h1 h2 h3; have h4 : _ = _ := h3; (try dsimp only at h2); exfalso; omega) | (intro h1; have h2 : _ = _ := h1; exfalso; omega) | (intro h1; have h2 : _ ≤ _ := h1; exfalso; omega) | (intros; exfalso; (try dsimp only at *); omega) | (intro b h1 h2 h3; exfalso; have h4 := h3.2; (try dsimp only at *); omega) | (intro h1; exfalso; have h4 := h1.2; (try dsimp only at *); omega) | (intro x h1 h2; exfalso; have h4 := h2.2; (try dsimp only at *); omega) | (intro x h1 h2; exact ⟨_, rfl, h2⟩) | (intro x h1 h2; have h4 := h2.1; have h5 := h2.2; exfalso; omega) | (intro x h1 h2; exact h2.1) | (intro x h1 h2; rcases h2.1 with h3 | h3; exact h3; exfalso; omega) | (intro x h1 h2; rcases h2 with h3 | h3; exact h3; exfalso; omega))
      replace hQ := hQ.chg k11 (by first | (intro x h1 h2; exact h2) | (intro x h0 h1 h2; exact hS x h1 h2) | (intro x h0 h1 h2; have h3 : _ = _ := h2; subst h3; exact hSR h1.1) | (intro x h1 h2; have h3 : _ = _ := h2; subst h3; assumption) | (intro x h1 h2; have h3 : _ = _ := h2; exfalso; omega) | (intro b h1 h2 h3; have h4 : _ = _ := h3; (try dsimp only at h2); exfalso; omega) | (intro h1; have h2 : _ = _ := h1; exfalso; omega) | (intro h1; have h2 : _ ≤ _ := h1; exfalso; omega) | (intros; exfalso; (try dsimp only at *); omega) | (intro b h1 h2 h3; exfalso; have h4 := h3.2; (try dsimp only at *); omega) | (intro h1; exfalso; have h4 := h1.2; (try dsimp only at *); omega) | (intro x h1 h2; exfalso; have h4 := h2.2; (try dsimp only at *); omega) | (intro x h1 h2; exact ⟨_, rfl, h2⟩) | (intro x h1 h2; have h4 := h2.1; have h5 := h2.2; exfalso; omega) | (intro x h1 h2; exact h2.1) | (intro x h1 h2; rcases h2.1 with h3 | h3; exact h3; exfalso; omega) | (intro x h1 h2; rcases h2 with h3 | h3; exact h3; exfalso; omega))
      refine WL.want rfl rfl rfl (?_)
      refine WL.neqF rfl rfl rfl (by first | rfl | omega | decide) ?_
      refine WL.pickF rfl rfl rfl (WL.move rfl rfl (WL.want rfl rfl rfl (WL.move rfl rfl (WL.want rfl rfl rfl (WL.move rfl rfl (WL.want rfl rfl rfl (?_)))))))
      refine WL.call eg_23 rfl rfl (ReplaceU hR11 hi7) ?_
      rintro v w12 ⟨rfl, hR12, k12⟩
      have zs_k12 := k12.size
      replace hf := hf.chg k12 (by first | (intro x h1 h2; exact h2) | (intro x h0 h1 h2; exact hS x h1 h2) | (intro x h0 h1 h2; have h3 : _ = _ := h2; subst h3; exact hSR h1.1) | (intro x h1 h2; have h3 : _ = _ := h2; subst h3; assumption) | (intro x h1 h2; have h3 : _ = _ := h2; exfalso; omega) | (intro b h1 h2 h3; have h4 : _ = _ := h3; (try dsimp only at h2); exfalso; omega) | (intro h1; have h2 : _ = _ := h1; exfalso; omega) | (intro h1; have h2 : _ ≤ _ := h1; exfalso; omega) | (intros; exfalso; (try dsimp only at *); omega) | (intro b h1 h2 h3; exfalso; have h4 := h3.2; (try dsimp only at *); omega) | (intro h1; exfalso; have h4 := h1.2; (try dsimp only at *); omega) | (intro x h1 h2; exfalso; have h4 := h2.2; (try dsimp only at *); omega) | (intro x h1 h2; exact ⟨_, rfl, h2⟩) | (intro x h1 h2; have h4 := h2.1; have h5 := h2.2; exfalso; omega) | (intro x h1 h2; exact h2.1) | (intro x h1 h2; rcases h2.1 with h3 | h3; exact h3; exfalso; omega) | (intro x h1 h2; rcases h2 with h3 | h3; exact h3; exfalso; omega))
      replace hp := hp.chg k12 (by first | (intro x h1 h2; exact h2) | (intro x h0 h1 h2; exact hS x h1 h2) | (intro x h0 h1 h2; have h3 : _ = _ := h2; subst h3; exact hSR h1.1) | (intro x h1 h2; have h3 : _ = _ := h2; subst h3; assumption) | (intro x h1 h2; have h3 : _ = _ := h2; exfalso; omega) | (intro b h1 h2 h3; have h4 : _ = _ := h3; (try dsimp only at h2); exfalso; omega) | (intro h1; have h2 : _ = _ := h1; exfalso; omega) | (intro h1; have h2 : _ ≤ _ := h1; exfalso; omega) | (intros; exfalso; (try dsimp only at *); omega) | (intro b h1 h2 h3; exfalso; have h4 := h3.2; (try dsimp only at *); omega) | (intro h1; exfalso; have h4 := h1.2; (try dsimp only at *); omega) | (intro x h1 h2; exfalso; have h4 := h2.2; (try dsimp only at *); omega) | (intro x h1 h2; exact ⟨_, rfl, h2⟩) | (intro x h1 h2; have h4 := h2.1; have h5 := h2.2; exfalso; omega) | (intro x h1 h2; exact h2.1) | (intro x h1 h2; rcases h2.1 with h3 | h3; exact h3; exfalso; omega) | (intro x h1 h2; rcases h2 with h3 | h3; exact h3; exfalso; omega))
      replace hw := hw.chg k12 (by first | (intro x h1 h2; exact h2) | (intro x h0 h1 h2; exact hS x h1 h2) | (intro x h0 h1 h2; have h3 : _ = _ := h2; subst h3; exact hSR h1.1) | (intro x h1 h2; have h3 : _ = _ := h2; subst h3; assumption) | (intro x h1 h2; have h3 : _ = _ := h2; exfalso; omega) | (intro b h1 h2 h3; have h4 : _ = _ := h3; (try dsimp only at h2); exfalso; omega) | (intro h1; have h2 : _ = _ := h1; exfalso; omega) | (intro h1; have h2 : _ ≤ _ := h1; exfalso; omega) | (intros; exfalso; (try dsimp only at *); omega) | (intro b h1 h2 h3; exfalso; have h4 := h3.2; (try dsimp only at *); omega) | (intro h1; exfalso; have h4 := h1.2; (try dsimp only at *); omega) | (intro x h1 h2; exfalso; have h4 := h2.2; (try dsimp only at *); omega) | (intro x h1 h2; exact ⟨_, rfl, h2⟩) | (intro x h1 h2; have h4 := h2.1; have h5 := h2.2; exfalso; omega) | (intro x h1 h2; exact h2.1) | (intro x h1 h2; rcases h2.1 with h3 | h3; exact h3; exfalso; omega) | (intro x h1 h2; rcases h2 with h3 | h3; exact h3; exfalso; omega))
      replace hQ := hQ.chg k12 (by first | (intro x h1 h2; exact h2) | (intro x h0 h1 h2; exact hS x h1 h2) | (intro x h0 h1 h2; have h3 : _ = _ := h2; subst h3; exact hSR h1.1) | (intro x h1 h2; have h3 : _ = _ := h2; subst h3; assumption) | (intro x h1 h2; have h3 : _ = _ := h2; exfalso; omega) | (intro b h1 h2 h3; have h4 : _ = _ := h3; (try dsimp only at h2); exfalso; omega) | (intro h1; have h2 : _ = _ := h1; exfalso; omega) | (intro h1; have h2 : _ ≤ _ := h1; exfalso; omega) | (intros; exfalso; (try dsimp only at *); omega) | (intro b h1 h2 h3; exfalso; have h4 := h3.2; (try dsimp only at *); omega) | (intro h1; exfalso; have h4 := h1.2; (try dsimp only at *); omega) | (intro x h1 h2; exfalso; have h4 := h2.2; (try dsimp only at *); omega) | (intro x h1 h2; exact ⟨_, rfl, h2⟩) | (intro x h1 h2; have h4 := h2.1; have h5 := h2.2; exfalso; omega) | (intro x h1 h2; exact h2.1) | (intro x h1 h2; rcases h2.1 with h3 | h3; exact h3; exfalso; omega) | (intro x h1 h2; rcases h2 with h3 | h3; exact h3; exfalso; omega))
      obtain ⟨s8, es8⟩ : ∃ s8, s8 = replaceS s7 (l : Int) := ⟨_, rfl⟩
      rw [← es8] at hR12 hE
      obtain ⟨ed, en, eu, eg, eh⟩ := hE
      refine WL.want rfl rfl rfl (?_)
      refine WL.neqF rfl rfl rfl (by first | rfl | omega | decide) ?_
      refine WL.pickF rfl rfl rfl (WL.move rfl rfl (WL.want rfl rfl rfl (WL.move rfl rfl (WL.want rfl rfl rfl (WL.move rfl rfl (WL.want rfl rfl rfl (?_)))))))
      refine WL.call eg_22 rfl rfl (Gone_calls hR12 (l : Int)) ?_
      rintro v w13 ⟨rfl, k13⟩
      rw [eg, Bool.and_false]
      have zs_k13 := k13.size
      replace hf := hf.pure k13
      replace hp := hp.pure k13
      replace hw := hw.pure k13
      replace hQ := hQ.pure k13
      replace hR12 := hR12.pure k13
      refine WL.pickF rfl rfl rfl (WL.nil (WX.then_normal (WC.cond_false rfl (WC.skip (WX.then_normal (WC.seq (WC.seq (?_))))))))
      refine WC.region (WL.assign rfl rfl (WL.nil (WX.then_normal (WC.block (?_)))))
      have zw13 := hw.size
      refine WC.loop (σ := Nat) (fun d => [(1, .slice a1 l1.length c1), (2, vi (l : Int)), (7, ptr R), (9, .slice (some ⟨gl, 0, none⟩) L.length 40), (12, vi (d : Int))]) (fun d w' => d ≤ 5 ∧ RSl (· < w.heap.size) w' ei a1 c1 l1 ∧ Chg Nob w w' ∧ Row (· = gl) w' 3 ei (some ⟨gl, 0, none⟩) 40 L ∧ RK (fun x => w.heap.size ≤ x ∧ x ≠ gl) w' R s8 ∧ w13.heap.size ≤ w'.heap.size) (fun d => 5 - d) 0 ⟨rfl, rfl, rfl, rfl, rfl, trivial⟩ ⟨by omega, hp, hw, hQ, hR12, Nat.le_refl _⟩ ?_
      clear hf hp hw hR12 hQ
      rintro d w1 ⟨hd, hp, hw, hQ, hR, zl⟩
      refine WC.seq (WC.seq (WC.region (WL.move rfl rfl (?_))))
      refine WL.lss? rfl rfl rfl (fun h121 => ?_) (fun h121 => ?_)
      ·
        refine WL.nil (WX.then_normal (WC.cond_true rfl (WC.skip (WX.then_normal (WC.seq (WC.block (WC.seq (?_))))))))
        refine WC.region (WL.assign rfl rfl (WL.nil (WX.then_normal (WC.block (?_)))))
        refine WC.loop (σ := Nat) (fun a => [(1, .slice a1 l1.length c1), (2, vi (l : Int)), (7, ptr R), (9, .slice (some ⟨gl, 0, none⟩) L.length 40), (12, vi (d : Int)), (13, vi (a : Int))]) (fun a w' => a ≤ 8 ∧ RSl (· < w.heap.size) w' ei a1 c1 l1 ∧ Chg Nob w w' ∧ Row (· = gl) w' 3 ei (some ⟨gl, 0, none⟩) 40 L ∧ RK (fun x => w.heap.size ≤ x ∧ x ≠ gl) w' R s8 ∧ w13.heap.size ≤ w'.heap.size) (fun a => 8 - a) 0 ⟨rfl, rfl, rfl, rfl, rfl, rfl, trivial⟩ ⟨by omega, hp, hw, hQ, hR, zl⟩ ?_
        clear hp hw hR hQ zl
        rintro a w1 ⟨ha, hp, hw, hQ, hR, zl⟩
        refine WC.seq (WC.seq (WC.region (WL.move rfl rfl (?_))))
        refine WL.lss? rfl rfl rfl (fun h125 => ?_) (fun h125 => ?_)
        ·
          refine WL.nil (WX.then_normal (WC.cond_true rfl (WC.skip (WX.then_normal (WC.seq (WC.block (WC.seq (?_))))))))
          refine WC.region (WL.move rfl rfl (WL.move rfl rfl (WL.move rfl rfl (?_))))
          have hd5 : d < 5 := by omega
          have ha8 : a < 8 := by omega
          refine WL.call eg_16 rfl rfl (ReadU (d := (d : Int)) (a := (a : Int)) hR eu (by unfold inS; rw [ed, en]; omega) (eg d)) ?_
          rintro v w14 ⟨⟨r, rfl, hx, hq⟩, k14⟩
          rw [eh d a hd5 ha8] at hx
          simp only [keep0] at hx
          have zs_k14 := k14.size
          replace hp := hp.pure k14
          replace hw := hw.pure k14
          replace hQ := hQ.pure k14
          replace hR := hR.pure k14
          refine WL.move rfl rfl (WL.extract rfl rfl rfl (?_))
          refine WL.extract rfl rfl rfl ?_
          refine WL.assign rfl rfl (WL.assign rfl rfl (WL.nil (WX.then_normal (WC.seq (WC.region (?_))))))
          refine WL.make (e := eb) (0 : UInt8) 128 128 Try.underlying30 info_5 rfl rfl rfl ⟨rfl, rfl, Nat.le_refl _⟩ (by decide) rfl ?_
          intro g15 w15 hm k15 z15 eg15
          have zs_k15 := k15.size
          replace hp := hp.pure k15
          replace hw := hw.pure k15
          replace hQ := hQ.pure k15
          replace hR := hR.pure k15
          replace hq := hq.pure k15
          refine WL.toStr Try.underlying30 Try.underlying5 Try.underlying9 hm.rsl rfl rfl (WL.assign rfl rfl (WL.nil (WX.then_normal (WC.seq (WC.seq (WC.region (WL.move rfl rfl (?_))))))))
          refine WL.move rfl rfl (WL.mul64 rfl rfl (by first | omega | (constructor <;> omega)) rfl (WL.move rfl rfl (WL.add64 rfl rfl (by first | omega | (constructor <;> omega)) rfl (?_))))
          obtain ⟨u, hu⟩ : ∃ u, L[d * 8 + a]? = some u := ⟨_, List.getElem?_eq_getElem (by omega)⟩
          have huD : L.getD (d * 8 + a) 0 = u := by rw [List.getD_eq_getElem?_getD, hu]; rfl
          have hur := hL.val (d * 8 + a)
          rw [huD] at hur hx
          refine WL.indexT Try.underlying22 Try.sizeOf3 hQ.rsl rfl rfl ⟨hu, (by omega)⟩ rfl ?_
          intro b_1 o_1 hc_1
          refine WL.load Try.isAgg3 rfl (hc_1 0 _ rfl) rfl (?_)
          refine WL.gtr? rfl rfl rfl (fun h144 => ?_) (fun h144 => ?_)
          ·
            refine WL.move rfl rfl (WL.want rfl rfl rfl (WL.move rfl rfl (WL.want rfl rfl rfl (WL.move rfl rfl (WL.want rfl rfl rfl (?_))))))
            refine WL.neq? rfl rfl rfl (fun h148 => ?_) (fun h148 => ?_)
            ·
              refine WL.pickT rfl rfl rfl (WL.nil (WX.then_normal (WC.cond_true rfl (WC.region (WL.move rfl rfl (WL.move rfl rfl (WL.mul64 rfl rfl (by first | omega | (constructor <;> omega)) rfl (?_))))))))
              refine WL.move rfl rfl (WL.add64 rfl rfl (by first | omega | (constructor <;> omega)) rfl (?_))
              refine WL.indexT Try.underlying22 Try.sizeOf3 hQ.rsl rfl rfl ⟨hu, (by omega)⟩ rfl ?_
              intro b_2 o_2 hc_2
              refine WL.load Try.isAgg3 rfl (hc_2 0 _ rfl) rfl (WL.sub64 rfl rfl (by first | omega | (constructor <;> omega)) rfl (?_))
              refine WL.call eg_14 rfl rfl (hBc (u - 1) _) ?_
              rintro v w16 ⟨⟨g16, rfl, hq16, hg161, hg162⟩, k16⟩
              have zs_k16 := k16.size
              replace hp := hp.pure k16
              replace hw := hw.pure k16
              replace hQ := hQ.pure k16
              replace hR := hR.pure k16
              replace hq := hq.pure k16
              replace hm := hm.pure k16
              refine WL.toStr Try.underlying30 Try.underlying5 Try.underlying9 hq16.rsl rfl rfl (WL.assign rfl rfl (WL.nil (WX.then_normal (WC.seq (WC.seq (WC.region (WL.move rfl rfl (?_))))))))
              refine WL.eql? rfl rfl rfl (fun h161 => ?_) (fun h161 => ?_)
              ·
                refine WL.move rfl rfl (WL.want rfl rfl rfl (WL.move rfl rfl (WL.want rfl rfl rfl (?_))))
                refine WL.eql? rfl rfl rfl (fun h164 => ?_) (fun h164 => ?_)
                ·
                  refine WL.pickT rfl rfl rfl (WL.move rfl rfl (WL.want rfl rfl rfl (WL.move rfl rfl (WL.want rfl rfl rfl (WL.move rfl rfl (WL.want rfl rfl rfl (?_)))))))
                  refine WL.neq? rfl rfl rfl (fun h169 => ?_) (fun h169 => ?_)
                  ·
                    refine WL.pickT rfl rfl rfl (WL.move rfl rfl (WL.want rfl rfl rfl (WL.move rfl rfl (WL.want rfl rfl rfl (WL.len Try.underlying22 rfl rfl (WL.want rfl rfl rfl (?_)))))))
                    refine WL.gtr? rfl rfl rfl (fun h174 => ?_) (fun h174 => ?_)
                    ·
                      refine WL.pickT rfl rfl rfl (WL.move rfl rfl (WL.want rfl rfl rfl (WL.move rfl rfl (WL.want rfl rfl rfl (?_)))))
                      obtain ⟨y, hy⟩ : ∃ y, l1[0]? = some y := ⟨_, List.getElem?_eq_getElem (by omega)⟩
                      have hyD : l1.getD 0 0 = y := by rw [List.getD_eq_getElem?_getD, hy]; rfl
                      have ht := tmod_two y
                      refine WL.indexT Try.underlying22 Try.sizeOf3 hp rfl rfl ⟨hy, rfl⟩ rfl ?_
                      intro b_3 o_3 hc_3
                      refine WL.want rfl rfl rfl (WL.load Try.isAgg3 rfl (hc_3 0 _ rfl) rfl (WL.want rfl rfl rfl (?_)))
                      refine WL.remk rfl rfl (by decide) rfl ?_
                      refine WL.want rfl rfl rfl (?_)
                      refine WL.neq? rfl rfl rfl (fun h181 => ?_) (fun h181 => ?_)
                      ·
                        refine WL.pickT rfl rfl rfl (WL.nil (WX.then_normal (WC.cond_true rfl (WC.region (?_)))))
                        refine WL.call eg_14 rfl rfl (hBc 5 _) ?_
                        rintro v w17 ⟨⟨g17, rfl, hq17, hg171, hg172⟩, k17⟩
                        have zs_k17 := k17.size
                        replace hp := hp.pure k17
                        replace hw := hw.pure k17
                        replace hQ := hQ.pure k17
                        replace hR := hR.pure k17
                        replace hq := hq.pure k17
                        replace hm := hm.pure k17
                        replace hq16 := hq16.pure k17
                        refine WL.toStr Try.underlying30 Try.underlying5 Try.underlying9 hq17.rsl rfl rfl (WL.assign rfl rfl (WL.nil (WX.then_normal (WC.seq (WC.region (WL.move rfl rfl (?_)))))))
                        refine WL.neqF rfl rfl rfl (by first | rfl | omega | decide) ?_
                        refine WL.move rfl rfl (WL.want rfl rfl rfl (WL.move rfl rfl (WL.want rfl rfl rfl (WL.toStr Try.underlying30 Try.underlying5 Try.underlying9 hq rfl rfl (WL.want rfl rfl rfl (WL.move rfl rfl (WL.want rfl rfl rfl (?_))))))))
                        refine WL.sneqF rfl rfl rfl ((by rw [hx]; refine congrArg (fun l : List UInt8 => (⟨l.toArray⟩ : ByteArray)) ?_; split <;> first | rfl | (exfalso; omega) | (split <;> first | rfl | (exfalso; omega)))) ?_
                        refine WL.pickF rfl rfl rfl (WL.nil (WX.then_normal (WC.cond_false rfl (WC.skip (WX.block_normal (WX.then_normal (WC.region (?_))))))))
                        refine WL.move rfl rfl (WL.add64 rfl rfl (by first | omega | (constructor <;> omega)) rfl (WL.assign rfl rfl (WL.nil (?_))))
                        first
                          | exact WX.loop_next (i + 1, L.set (i % 5 * 8 + i * 3 % 8) (1 + (k : Int))) ⟨rfl, rfl, rfl, rfl, by simp [List.lookup, ev, List.length_set], rfl, trivial⟩ ⟨by show i + 1 ≤ 80; omega, hf, hp, hw, hQ, by omega, s3, hL3, sw3, hR3⟩ (by show 80 - (i + 1) < 80 - i; omega)
                          | exact WX.loop_next (a + 1) ⟨rfl, rfl, rfl, rfl, rfl, rfl, trivial⟩ ⟨by omega, hp, hw, hQ, hR, by omega⟩ (by omega)
                          | exact WX.loop_next (d + 1) ⟨rfl, rfl, rfl, rfl, rfl, trivial⟩ ⟨by omega, hp, hw, hQ, hR, by omega⟩ (by omega)
                      ·
                        refine WL.pickT rfl rfl rfl (WL.nil (WX.then_normal (WC.cond_false rfl (WC.skip (WX.then_normal (WC.seq (WC.region (?_))))))))
                        refine WL.move rfl rfl (?_)
                        refine WL.neqF rfl rfl rfl (by first | rfl | omega | decide) ?_
                        refine WL.move rfl rfl (WL.want rfl rfl rfl (WL.move rfl rfl (WL.want rfl rfl rfl (WL.toStr Try.underlying30 Try.underlying5 Try.underlying9 hq rfl rfl (WL.want rfl rfl rfl (WL.move rfl rfl (WL.want rfl rfl rfl (?_))))))))
                        refine WL.sneqF rfl rfl rfl ((by rw [hx]; refine congrArg (fun l : List UInt8 => (⟨l.toArray⟩ : ByteArray)) ?_; split <;> first | rfl | (exfalso; omega) | (split <;> first | rfl | (exfalso; omega)))) ?_
                        refine WL.pickF rfl rfl rfl (WL.nil (WX.then_normal (WC.cond_false rfl (WC.skip (WX.block_normal (WX.then_normal (WC.region (?_))))))))
                        refine WL.move rfl rfl (WL.add64 rfl rfl (by first | omega | (constructor <;> omega)) rfl (WL.assign rfl rfl (WL.nil (?_))))
                        first
                          | exact WX.loop_next (i + 1, L.set (i % 5 * 8 + i * 3 % 8) (1 + (k : Int))) ⟨rfl, rfl, rfl, rfl, by simp [List.lookup, ev, List.length_set], rfl, trivial⟩ ⟨by show i + 1 ≤ 80; omega, hf, hp, hw, hQ, by omega, s3, hL3, sw3, hR3⟩ (by show 80 - (i + 1) < 80 - i; omega)
                          | exact WX.loop_next (a + 1) ⟨rfl, rfl, rfl, rfl, rfl, rfl, trivial⟩ ⟨by omega, hp, hw, hQ, hR, by omega⟩ (by omega)
                          | exact WX.loop_next (d + 1) ⟨rfl, rfl, rfl, rfl, rfl, trivial⟩ ⟨by omega, hp, hw, hQ, hR, by omega⟩ (by omega)
                    ·
                      refine WL.pickT rfl rfl rfl (WL.move rfl rfl (WL.pass rfl rfl rfl rfl (WL.pass rfl rfl rfl rfl (WL.pass rfl rfl rfl rfl (WL.pass rfl rfl rfl rfl (WL.pass rfl rfl rfl rfl (WL.pickF rfl rfl rfl (?_))))))))
                      refine WL.nil (WX.then_normal (WC.cond_false rfl (WC.skip (WX.then_normal (WC.seq (WC.region (WL.move rfl rfl (?_))))))))
                      refine WL.neqF rfl rfl rfl (by first | rfl | omega | decide) ?_
                      refine WL.move rfl rfl (WL.want rfl rfl rfl (WL.move rfl rfl (WL.want rfl rfl rfl (WL.toStr Try.underlying30 Try.underlying5 Try.underlying9 hq rfl rfl (WL.want rfl rfl rfl (WL.move rfl rfl (WL.want rfl rfl rfl (?_))))))))
                      refine WL.sneqF rfl rfl rfl ((by rw [hx]; refine congrArg (fun l : List UInt8 => (⟨l.toArray⟩ : ByteArray)) ?_; split <;> first | rfl | (exfalso; omega) | (split <;> first | rfl | (exfalso; omega)))) ?_
                      refine WL.pickF rfl rfl rfl (WL.nil (WX.then_normal (WC.cond_false rfl (WC.skip (WX.block_normal (WX.then_normal (WC.region (?_))))))))
                      refine WL.move rfl rfl (WL.add64 rfl rfl (by first | omega | (constructor <;> omega)) rfl (WL.assign rfl rfl (WL.nil (?_))))
                      first
                        | exact WX.loop_next (i + 1, L.set (i % 5 * 8 + i * 3 % 8) (1 + (k : Int))) ⟨rfl, rfl, rfl, rfl, by simp [List.lookup, ev, List.length_set], rfl, trivial⟩ ⟨by show i + 1 ≤ 80; omega, hf, hp, hw, hQ, by omega, s3, hL3, sw3, hR3⟩ (by show 80 - (i + 1) < 80 - i; omega)
                        | exact WX.loop_next (a + 1) ⟨rfl, rfl, rfl, rfl, rfl, rfl, trivial⟩ ⟨by omega, hp, hw, hQ, hR, by omega⟩ (by omega)
                        | exact WX.loop_next (d + 1) ⟨rfl, rfl, rfl, rfl, rfl, trivial⟩ ⟨by omega, hp, hw, hQ, hR, by omega⟩ (by omega)
                  ·
                    refine WL.pickT rfl rfl rfl (WL.move rfl rfl (WL.pass rfl rfl rfl rfl (WL.pass rfl rfl rfl rfl (WL.pass rfl rfl rfl rfl (WL.pickF rfl rfl rfl (WL.move rfl rfl (WL.pass rfl rfl rfl rfl (?_))))))))
                    refine WL.pass rfl rfl rfl rfl (WL.pass rfl rfl rfl rfl (WL.pass rfl rfl rfl rfl (WL.pass rfl rfl rfl rfl (WL.pickF rfl rfl rfl (WL.nil (WX.then_normal (WC.cond_false rfl (?_))))))))
                    refine WC.skip (WX.then_normal (WC.seq (WC.region (WL.move rfl rfl (?_)))))
                    refine WL.neqF rfl rfl rfl (by first | rfl | omega | decide) ?_
                    refine WL.move rfl rfl (WL.want rfl rfl rfl (WL.move rfl rfl (WL.want rfl rfl rfl (WL.toStr Try.underlying30 Try.underlying5 Try.underlying9 hq rfl rfl (WL.want rfl rfl rfl (WL.move rfl rfl (WL.want rfl rfl rfl (?_))))))))
                    refine WL.sneqF rfl rfl rfl ((by rw [hx]; refine congrArg (fun l : List UInt8 => (⟨l.toArray⟩ : ByteArray)) ?_; split <;> first | rfl | (exfalso; omega) | (split <;> first | rfl | (exfalso; omega)))) ?_
                    refine WL.pickF rfl rfl rfl (WL.nil (WX.then_normal (WC.cond_false rfl (WC.skip (WX.block_normal (WX.then_normal (WC.region (?_))))))))
                    refine WL.move rfl rfl (WL.add64 rfl rfl (by first | omega | (constructor <;> omega)) rfl (WL.assign rfl rfl (WL.nil (?_))))
                    first
                      | exact WX.loop_next (i + 1, L.set (i % 5 * 8 + i * 3 % 8) (1 + (k : Int))) ⟨rfl, rfl, rfl, rfl, by simp [List.lookup, ev, List.length_set], rfl, trivial⟩ ⟨by show i + 1 ≤ 80; omega, hf, hp, hw, hQ, by omega, s3, hL3, sw3, hR3⟩ (by show 80 - (i + 1) < 80 - i; omega)
                      | exact WX.loop_next (a + 1) ⟨rfl, rfl, rfl, rfl, rfl, rfl, trivial⟩ ⟨by omega, hp, hw, hQ, hR, by omega⟩ (by omega)
                      | exact WX.loop_next (d + 1) ⟨rfl, rfl, rfl, rfl, rfl, trivial⟩ ⟨by omega, hp, hw, hQ, hR, by omega⟩ (by omega)
                ·
                  refine WL.pickT rfl rfl rfl (WL.move rfl rfl (WL.pass rfl rfl rfl rfl (WL.pass rfl rfl rfl rfl (WL.pass rfl rfl rfl rfl (WL.pickF rfl rfl rfl (WL.move rfl rfl (WL.pass rfl rfl rfl rfl (?_))))))))
                  refine WL.pass rfl rfl rfl rfl (WL.pass rfl rfl rfl rfl (WL.pickF rfl rfl rfl (WL.move rfl rfl (WL.pass rfl rfl rfl rfl (WL.pass rfl rfl rfl rfl (WL.pass rfl rfl rfl rfl (WL.pass rfl rfl rfl rfl (?_))))))))
                  refine WL.pass rfl rfl rfl rfl (WL.pickF rfl rfl rfl (WL.nil (WX.then_normal (WC.cond_false rfl (WC.skip (WX.then_normal (WC.seq (?_))))))))
                  refine WC.region (WL.move rfl rfl (?_))
                  refine WL.neqF rfl rfl rfl (by first | rfl | omega | decide) ?_
                  refine WL.move rfl rfl (WL.want rfl rfl rfl (WL.move rfl rfl (WL.want rfl rfl rfl (WL.toStr Try.underlying30 Try.underlying5 Try.underlying9 hq rfl rfl (WL.want rfl rfl rfl (WL.move rfl rfl (WL.want rfl rfl rfl (?_))))))))
                  refine WL.sneqF rfl rfl rfl ((by rw [hx]; refine congrArg (fun l : List UInt8 => (⟨l.toArray⟩ : ByteArray)) ?_; split <;> first | rfl | (exfalso; omega) | (split <;> first | rfl | (exfalso; omega)))) ?_
                  refine WL.pickF rfl rfl rfl (WL.nil (WX.then_normal (WC.cond_false rfl (WC.skip (WX.block_normal (WX.then_normal (WC.region (?_))))))))
                  refine WL.move rfl rfl (WL.add64 rfl rfl (by first | omega | (constructor <;> omega)) rfl (WL.assign rfl rfl (WL.nil (?_))))
                  first
                    | exact WX.loop_next (i + 1, L.set (i % 5 * 8 + i * 3 % 8) (1 + (k : Int))) ⟨rfl, rfl, rfl, rfl, by simp [List.lookup, ev, List.length_set], rfl, trivial⟩ ⟨by show i + 1 ≤ 80; omega, hf, hp, hw, hQ, by omega, s3, hL3, sw3, hR3⟩ (by show 80 - (i + 1) < 80 - i; omega)
                    | exact WX.loop_next (a + 1) ⟨rfl, rfl, rfl, rfl, rfl, rfl, trivial⟩ ⟨by omega, hp, hw, hQ, hR, by omega⟩ (by omega)
                    | exact WX.loop_next (d + 1) ⟨rfl, rfl, rfl, rfl, rfl, trivial⟩ ⟨by omega, hp, hw, hQ, hR, by omega⟩ (by omega)
              ·
                refine WL.move rfl rfl (WL.pass rfl rfl rfl rfl (WL.pass rfl rfl rfl rfl (WL.pickF rfl rfl rfl (WL.move rfl rfl (WL.pass rfl rfl rfl rfl (WL.pass rfl rfl rfl rfl (WL.pass rfl rfl rfl rfl (?_))))))))
                refine WL.pickF rfl rfl rfl (WL.move rfl rfl (WL.pass rfl rfl rfl rfl (WL.pass rfl rfl rfl rfl (WL.pass rfl rfl rfl rfl (WL.pickF rfl rfl rfl (WL.move rfl rfl (WL.pass rfl rfl rfl rfl (?_))))))))
                refine WL.pass rfl rfl rfl rfl (WL.pass rfl rfl rfl rfl (WL.pass rfl rfl rfl rfl (WL.pass rfl rfl rfl rfl (WL.pickF rfl rfl rfl (WL.nil (WX.then_normal (WC.cond_false rfl (?_))))))))
                refine WC.skip (WX.then_normal (WC.seq (WC.region (WL.move rfl rfl (?_)))))
                refine WL.neqF rfl rfl rfl (by first | rfl | omega | decide) ?_
                refine WL.move rfl rfl (WL.want rfl rfl rfl (WL.move rfl rfl (WL.want rfl rfl rfl (WL.toStr Try.underlying30 Try.underlying5 Try.underlying9 hq rfl rfl (WL.want rfl rfl rfl (WL.move rfl rfl (WL.want rfl rfl rfl (?_))))))))
                refine WL.sneqF rfl rfl rfl ((by rw [hx]; refine congrArg (fun l : List UInt8 => (⟨l.toArray⟩ : ByteArray)) ?_; split <;> first | rfl | (exfalso; omega) | (split <;> first | rfl | (exfalso; omega)))) ?_
                refine WL.pickF rfl rfl rfl (WL.nil (WX.then_normal (WC.cond_false rfl (WC.skip (WX.block_normal (WX.then_normal (WC.region (?_))))))))
                refine WL.move rfl rfl (WL.add64 rfl rfl (by first | omega | (constructor <;> omega)) rfl (WL.assign rfl rfl (WL.nil (?_))))
                first
                  | exact WX.loop_next (i + 1, L.set (i % 5 * 8 + i * 3 % 8) (1 + (k : Int))) ⟨rfl, rfl, rfl, rfl, by simp [List.lookup, ev, List.length_set], rfl, trivial⟩ ⟨by show i + 1 ≤ 80; omega, hf, hp, hw, hQ, by omega, s3, hL3, sw3, hR3⟩ (by show 80 - (i + 1) < 80 - i; omega)
                  | exact WX.loop_next (a + 1) ⟨rfl, rfl, rfl, rfl, rfl, rfl, trivial⟩ ⟨by omega, hp, hw, hQ, hR, by omega⟩ (by omega)
                  | exact WX.loop_next (d + 1) ⟨rfl, rfl, rfl, rfl, rfl, trivial⟩ ⟨by omega, hp, hw, hQ, hR, by omega⟩ (by omega)
            ·
              refine WL.pickT rfl rfl rfl (WL.nil (WX.then_normal (WC.cond_false rfl (WC.skip (WX.then_normal (WC.seq (WC.seq (?_))))))))
              refine WC.region (WL.move rfl rfl (?_))
              refine WL.eql? rfl rfl rfl (fun h161 => ?_) (fun h161 => ?_)
              ·
                refine WL.move rfl rfl (WL.want rfl rfl rfl (WL.move rfl rfl (WL.want rfl rfl rfl (?_))))
                refine WL.eql? rfl rfl rfl (fun h164 => ?_) (fun h164 => ?_)
                ·
                  refine WL.pickT rfl rfl rfl (WL.move rfl rfl (WL.want rfl rfl rfl (WL.move rfl rfl (WL.want rfl rfl rfl (WL.move rfl rfl (WL.want rfl rfl rfl (?_)))))))
                  refine WL.neq? rfl rfl rfl (fun h169 => ?_) (fun h169 => ?_)
                  ·
                    refine WL.pickT rfl rfl rfl (WL.move rfl rfl (WL.want rfl rfl rfl (WL.move rfl rfl (WL.want rfl rfl rfl (WL.len Try.underlying22 rfl rfl (WL.want rfl rfl rfl (?_)))))))
                    refine WL.gtr? rfl rfl rfl (fun h174 => ?_) (fun h174 => ?_)
                    ·
                      refine WL.pickT rfl rfl rfl (WL.move rfl rfl (WL.want rfl rfl rfl (WL.move rfl rfl (WL.want rfl rfl rfl (?_)))))
                      obtain ⟨y, hy⟩ : ∃ y, l1[0]? = some y := ⟨_, List.getElem?_eq_getElem (by omega)⟩
                      have hyD : l1.getD 0 0 = y := by rw [List.getD_eq_getElem?_getD, hy]; rfl
                      have ht := tmod_two y
                      refine WL.indexT Try.underlying22 Try.sizeOf3 hp rfl rfl ⟨hy, rfl⟩ rfl ?_
                      intro b_2 o_2 hc_2
                      refine WL.want rfl rfl rfl (WL.load Try.isAgg3 rfl (hc_2 0 _ rfl) rfl (WL.want rfl rfl rfl (?_)))
                      refine WL.remk rfl rfl (by decide) rfl ?_
                      refine WL.want rfl rfl rfl (?_)
                      refine WL.neq? rfl rfl rfl (fun h181 => ?_) (fun h181 => ?_)
                      ·
                        refine WL.pickT rfl rfl rfl (WL.nil (WX.then_normal (WC.cond_true rfl (WC.region (?_)))))
                        refine WL.call eg_14 rfl rfl (hBc 5 _) ?_
                        rintro v w17 ⟨⟨g17, rfl, hq17, hg171, hg172⟩, k17⟩
                        have zs_k17 := k17.size
                        replace hp := hp.pure k17
                        replace hw := hw.pure k17
                        replace hQ := hQ.pure k17
                        replace hR := hR.pure k17
                        replace hq := hq.pure k17
                        replace hm := hm.pure k17
                        refine WL.toStr Try.underlying30 Try.underlying5 Try.underlying9 hq17.rsl rfl rfl (WL.assign rfl rfl (WL.nil (WX.then_normal (WC.seq (WC.region (WL.move rfl rfl (?_)))))))
                        refine WL.neqF rfl rfl rfl (by first | rfl | omega | decide) ?_
                        refine WL.move rfl rfl (WL.want rfl rfl rfl (WL.move rfl rfl (WL.want rfl rfl rfl (WL.toStr Try.underlying30 Try.underlying5 Try.underlying9 hq rfl rfl (WL.want rfl rfl rfl (WL.move rfl rfl (WL.want rfl rfl rfl (?_))))))))
                        refine WL.sneqF rfl rfl rfl ((by rw [hx]; refine congrArg (fun l : List UInt8 => (⟨l.toArray⟩ : ByteArray)) ?_; split <;> first | rfl | (exfalso; omega) | (split <;> first | rfl | (exfalso; omega)))) ?_
                        refine WL.pickF rfl rfl rfl (WL.nil (WX.then_normal (WC.cond_false rfl (WC.skip (WX.block_normal (WX.then_normal (WC.region (?_))))))))
                        refine WL.move rfl rfl (WL.add64 rfl rfl (by first | omega | (constructor <;> omega)) rfl (WL.assign rfl rfl (WL.nil (?_))))
                        first
                          | exact WX.loop_next (i + 1, L.set (i % 5 * 8 + i * 3 % 8) (1 + (k : Int))) ⟨rfl, rfl, rfl, rfl, by simp [List.lookup, ev, List.length_set], rfl, trivial⟩ ⟨by show i + 1 ≤ 80; omega, hf, hp, hw, hQ, by omega, s3, hL3, sw3, hR3⟩ (by show 80 - (i + 1) < 80 - i; omega)
                          | exact WX.loop_next (a + 1) ⟨rfl, rfl, rfl, rfl, rfl, rfl, trivial⟩ ⟨by omega, hp, hw, hQ, hR, by omega⟩ (by omega)
                          | exact WX.loop_next (d + 1) ⟨rfl, rfl, rfl, rfl, rfl, trivial⟩ ⟨by omega, hp, hw, hQ, hR, by omega⟩ (by omega)
                      ·
                        refine WL.pickT rfl rfl rfl (WL.nil (WX.then_normal (WC.cond_false rfl (WC.skip (WX.then_normal (WC.seq (WC.region (?_))))))))
                        refine WL.move rfl rfl (?_)
                        refine WL.neqF rfl rfl rfl (by first | rfl | omega | decide) ?_
                        refine WL.move rfl rfl (WL.want rfl rfl rfl (WL.move rfl rfl (WL.want rfl rfl rfl (WL.toStr Try.underlying30 Try.underlying5 Try.underlying9 hq rfl rfl (WL.want rfl rfl rfl (WL.move rfl rfl (WL.want rfl rfl rfl (?_))))))))
                        refine WL.sneqF rfl rfl rfl ((by rw [hx]; refine congrArg (fun l : List UInt8 => (⟨l.toArray⟩ : ByteArray)) ?_; split <;> first | rfl | (exfalso; omega) | (split <;> first | rfl | (exfalso; omega)))) ?_
                        refine WL.pickF rfl rfl rfl (WL.nil (WX.then_normal (WC.cond_false rfl (WC.skip (WX.block_normal (WX.then_normal (WC.region (?_))))))))
                        refine WL.move rfl rfl (WL.add64 rfl rfl (by first | omega | (constructor <;> omega)) rfl (WL.assign rfl rfl (WL.nil (?_))))
                        first
                          | exact WX.loop_next (i + 1, L.set (i % 5 * 8 + i * 3 % 8) (1 + (k : Int))) ⟨rfl, rfl, rfl, rfl, by simp [List.lookup, ev, List.length_set], rfl, trivial⟩ ⟨by show i + 1 ≤ 80; omega, hf, hp, hw, hQ, by omega, s3, hL3, sw3, hR3⟩ (by show 80 - (i + 1) < 80 - i; omega)
                          | exact WX.loop_next (a + 1) ⟨rfl, rfl, rfl, rfl, rfl, rfl, trivial⟩ ⟨by omega, hp, hw, hQ, hR, by omega⟩ (by omega)
                          | exact WX.loop_next (d + 1) ⟨rfl, rfl, rfl, rfl, rfl, trivial⟩ ⟨by omega, hp, hw, hQ, hR, by omega⟩ (by omega)
                    ·
                      refine WL.pickT rfl rfl rfl (WL.move rfl rfl (WL.pass rfl rfl rfl rfl (WL.pass rfl rfl rfl rfl (WL.pass rfl rfl rfl rfl (WL.pass rfl rfl rfl rfl (WL.pass rfl rfl rfl rfl (WL.pickF rfl rfl rfl (?_))))))))
                      refine WL.nil (WX.then_normal (WC.cond_false rfl (WC.skip (WX.then_normal (WC.seq (WC.region (WL.move rfl rfl (?_))))))))
                      refine WL.neqF rfl rfl rfl (by first | rfl | omega | decide) ?_
                      refine WL.move rfl rfl (WL.want rfl rfl rfl (WL.move rfl rfl (WL.want rfl rfl rfl (WL.toStr Try.underlying30 Try.underlying5 Try.underlying9 hq rfl rfl (WL.want rfl rfl rfl (WL.move rfl rfl (WL.want rfl rfl rfl (?_))))))))
                      refine WL.sneqF rfl rfl rfl ((by rw [hx]; refine congrArg (fun l : List UInt8 => (⟨l.toArray⟩ : ByteArray)) ?_; split <;> first | rfl | (exfalso; omega) | (split <;> first | rfl | (exfalso; omega)))) ?_
                      refine WL.pickF rfl rfl rfl (WL.nil (WX.then_normal (WC.cond_false rfl (WC.skip (WX.block_normal (WX.then_normal (WC.region (?_))))))))
                      refine WL.move rfl rfl (WL.add64 rfl rfl (by first | omega | (constructor <;> omega)) rfl (WL.assign rfl rfl (WL.nil (?_))))
                      first
                        | exact WX.loop_next (i + 1, L.set (i % 5 * 8 + i * 3 % 8) (1 + (k : Int))) ⟨rfl, rfl, rfl, rfl, by simp [List.lookup, ev, List.length_set], rfl, trivial⟩ ⟨by show i + 1 ≤ 80; omega, hf, hp, hw, hQ, by omega, s3, hL3, sw3, hR3⟩ (by show 80 - (i + 1) < 80 - i; omega)
                        | exact WX.loop_next (a + 1) ⟨rfl, rfl, rfl, rfl, rfl, rfl, trivial⟩ ⟨by omega, hp, hw, hQ, hR, by omega⟩ (by omega)
                        | exact WX.loop_next (d + 1) ⟨rfl, rfl, rfl, rfl, rfl, trivial⟩ ⟨by omega, hp, hw, hQ, hR, by omega⟩ (by omega)
                  ·
                    refine WL.pickT rfl rfl rfl (WL.move rfl rfl (WL.pass rfl rfl rfl rfl (WL.pass rfl rfl rfl rfl (WL.pass rfl rfl rfl rfl (WL.pickF rfl rfl rfl (WL.move rfl rfl (WL.pass rfl rfl rfl rfl (?_))))))))
                    refine WL.pass rfl rfl rfl rfl (WL.pass rfl rfl rfl rfl (WL.pass rfl rfl rfl rfl (WL.pass rfl rfl rfl rfl (WL.pickF rfl rfl rfl (WL.nil (WX.then_normal (WC.cond_false rfl (?_))))))))
                    refine WC.skip (WX.then_normal (WC.seq (WC.region (WL.move rfl rfl (?_)))))
                    refine WL.neqF rfl rfl rfl (by first | rfl | omega | decide) ?_
                    refine WL.move rfl rfl (WL.want rfl rfl rfl (WL.move rfl rfl (WL.want rfl rfl rfl (WL.toStr Try.underlying30 Try.underlying5 Try.underlying9 hq rfl rfl (WL.want rfl rfl rfl (WL.move rfl rfl (WL.want rfl rfl rfl (?_))))))))
                    refine WL.sneqF rfl rfl rfl ((by rw [hx]; refine congrArg (fun l : List UInt8 => (⟨l.toArray⟩ : ByteArray)) ?_; split <;> first | rfl | (exfalso; omega) | (split <;> first | rfl | (exfalso; omega)))) ?_
                    refine WL.pickF rfl rfl rfl (WL.nil (WX.then_normal (WC.cond_false rfl (WC.skip (WX.block_normal (WX.then_normal (WC.region (?_))))))))
                    refine WL.move rfl rfl (WL.add64 rfl rfl (by first | omega | (constructor <;> omega)) rfl (WL.assign rfl rfl (WL.nil (?_))))
                    first
                      | exact WX.loop_next (i + 1, L.set (i % 5 * 8 + i * 3 % 8) (1 + (k : Int))) ⟨rfl, rfl, rfl, rfl, by simp [List.lookup, ev, List.length_set], rfl, trivial⟩ ⟨by show i + 1 ≤ 80; omega, hf, hp, hw, hQ, by omega, s3, hL3, sw3, hR3⟩ (by show 80 - (i + 1) < 80 - i; omega)
                      | exact WX.loop_next (a + 1) ⟨rfl, rfl, rfl, rfl, rfl, rfl, trivial⟩ ⟨by omega, hp, hw, hQ, hR, by omega⟩ (by omega)
                      | exact WX.loop_next (d + 1) ⟨rfl, rfl, rfl, rfl, rfl, trivial⟩ ⟨by omega, hp, hw, hQ, hR, by omega⟩ (by omega)
                ·
                  refine WL.pickT rfl rfl rfl (WL.move rfl rfl (WL.pass rfl rfl rfl rfl (WL.pass rfl rfl rfl rfl (WL.pass rfl rfl rfl rfl (WL.pickF rfl rfl rfl (WL.move rfl rfl (WL.pass rfl rfl rfl rfl (?_))))))))
                  refine WL.pass rfl rfl rfl rfl (WL.pass rfl rfl rfl rfl (WL.pickF rfl rfl rfl (WL.move rfl rfl (WL.pass rfl rfl rfl rfl (WL.pass rfl rfl rfl rfl (WL.pass rfl rfl rfl rfl (WL.pass rfl rfl rfl rfl (?_))))))))
                  refine WL.pass rfl rfl rfl rfl (WL.pickF rfl rfl rfl (WL.nil (WX.then_normal (WC.cond_false rfl (WC.skip (WX.then_normal (WC.seq (?_))))))))
                  refine WC.region (WL.move rfl rfl (?_))
                  refine WL.neqF rfl rfl rfl (by first | rfl | omega | decide) ?_
                  refine WL.move rfl rfl (WL.want rfl rfl rfl (WL.move rfl rfl (WL.want rfl rfl rfl (WL.toStr Try.underlying30 Try.underlying5 Try.underlying9 hq rfl rfl (WL.want rfl rfl rfl (WL.move rfl rfl (WL.want rfl rfl rfl (?_))))))))
                  refine WL.sneqF rfl rfl rfl ((by rw [hx]; refine congrArg (fun l : List UInt8 => (⟨l.toArray⟩ : ByteArray)) ?_; split <;> first | rfl | (exfalso; omega) | (split <;> first | rfl | (exfalso; omega)))) ?_
                  refine WL.pickF rfl rfl rfl (WL.nil (WX.then_normal (WC.cond_false rfl (WC.skip (WX.block_normal (WX.then_normal (WC.region (?_))))))))
                  refine WL.move rfl rfl (WL.add64 rfl rfl (by first | omega | (constructor <;> omega)) rfl (WL.assign rfl rfl (WL.nil (?_))))
                  first
                    | exact WX.loop_next (i + 1, L.set (i % 5 * 8 + i * 3 % 8) (1 + (k : Int))) ⟨rfl, rfl, rfl, rfl, by simp [List.lookup, ev, List.length_set], rfl, trivial⟩ ⟨by show i + 1 ≤ 80; omega, hf, hp, hw, hQ, by omega, s3, hL3, sw3, hR3⟩ (by show 80 - (i + 1) < 80 - i; omega)
                    | exact WX.loop_next (a + 1) ⟨rfl, rfl, rfl, rfl, rfl, rfl, trivial⟩ ⟨by omega, hp, hw, hQ, hR, by omega⟩ (by omega)
                    | exact WX.loop_next (d + 1) ⟨rfl, rfl, rfl, rfl, rfl, trivial⟩ ⟨by omega, hp, hw, hQ, hR, by omega⟩ (by omega)
              ·
                refine WL.move rfl rfl (WL.pass rfl rfl rfl rfl (WL.pass rfl rfl rfl rfl (WL.pickF rfl rfl rfl (WL.move rfl rfl (WL.pass rfl rfl rfl rfl (WL.pass rfl rfl rfl rfl (WL.pass rfl rfl rfl rfl (?_))))))))
                refine WL.pickF rfl rfl rfl (WL.move rfl rfl (WL.pass rfl rfl rfl rfl (WL.pass rfl rfl rfl rfl (WL.pass rfl rfl rfl rfl (WL.pickF rfl rfl rfl (WL.move rfl rfl (WL.pass rfl rfl rfl rfl (?_))))))))
                refine WL.pass rfl rfl rfl rfl (WL.pass rfl rfl rfl rfl (WL.pass rfl rfl rfl rfl (WL.pass rfl rfl rfl rfl (WL.pickF rfl rfl rfl (WL.nil (WX.then_normal (WC.cond_false rfl (?_))))))))
                refine WC.skip (WX.then_normal (WC.seq (WC.region (WL.move rfl rfl (?_)))))
                refine WL.neqF rfl rfl rfl (by first | rfl | omega | decide) ?_
                refine WL.move rfl rfl (WL.want rfl rfl rfl (WL.move rfl rfl (WL.want rfl rfl rfl (WL.toStr Try.underlying30 Try.underlying5 Try.underlying9 hq rfl rfl (WL.want rfl rfl rfl (WL.move rfl rfl (WL.want rfl rfl rfl (?_))))))))
                refine WL.sneqF rfl rfl rfl ((by rw [hx]; refine congrArg (fun l : List UInt8 => (⟨l.toArray⟩ : ByteArray)) ?_; split <;> first | rfl | (exfalso; omega) | (split <;> first | rfl | (exfalso; omega)))) ?_
                refine WL.pickF rfl rfl rfl (WL.nil (WX.then_normal (WC.cond_false rfl (WC.skip (WX.block_normal (WX.then_normal (WC.region (?_))))))))
                refine WL.move rfl rfl (WL.add64 rfl rfl (by first | omega | (constructor <;> omega)) rfl (WL.assign rfl rfl (WL.nil (?_))))
                first
                  | exact WX.loop_next (i + 1, L.set (i % 5 * 8 + i * 3 % 8) (1 + (k : Int))) ⟨rfl, rfl, rfl, rfl, by simp [List.lookup, ev, List.length_set], rfl, trivial⟩ ⟨by show i + 1 ≤ 80; omega, hf, hp, hw, hQ, by omega, s3, hL3, sw3, hR3⟩ (by show 80 - (i + 1) < 80 - i; omega)
                  | exact WX.loop_next (a + 1) ⟨rfl, rfl, rfl, rfl, rfl, rfl, trivial⟩ ⟨by omega, hp, hw, hQ, hR, by omega⟩ (by omega)
                  | exact WX.loop_next (d + 1) ⟨rfl, rfl, rfl, rfl, rfl, trivial⟩ ⟨by omega, hp, hw, hQ, hR, by omega⟩ (by omega)
          ·
            refine WL.move rfl rfl (WL.pass rfl rfl rfl rfl (WL.pass rfl rfl rfl rfl (WL.pass rfl rfl rfl rfl (WL.pickF rfl rfl rfl (WL.nil (WX.then_normal (WC.cond_false rfl (?_))))))))
            refine WC.skip (WX.then_normal (WC.seq (WC.seq (WC.region (WL.move rfl rfl (?_))))))
            refine WL.eql? rfl rfl rfl (fun h161 => ?_) (fun h161 => ?_)
            ·
              refine WL.move rfl rfl (WL.want rfl rfl rfl (WL.move rfl rfl (WL.want rfl rfl rfl (?_))))
              refine WL.eql? rfl rfl rfl (fun h164 => ?_) (fun h164 => ?_)
              ·
                refine WL.pickT rfl rfl rfl (WL.move rfl rfl (WL.want rfl rfl rfl (WL.move rfl rfl (WL.want rfl rfl rfl (WL.move rfl rfl (WL.want rfl rfl rfl (?_)))))))
                refine WL.neq? rfl rfl rfl (fun h169 => ?_) (fun h169 => ?_)
                ·
                  refine WL.pickT rfl rfl rfl (WL.move rfl rfl (WL.want rfl rfl rfl (WL.move rfl rfl (WL.want rfl rfl rfl (WL.len Try.underlying22 rfl rfl (WL.want rfl rfl rfl (?_)))))))
                  refine WL.gtr? rfl rfl rfl (fun h174 => ?_) (fun h174 => ?_)
                  ·
                    refine WL.pickT rfl rfl rfl (WL.move rfl rfl (WL.want rfl rfl rfl (WL.move rfl rfl (WL.want rfl rfl rfl (?_)))))
                    obtain ⟨y, hy⟩ : ∃ y, l1[0]? = some y := ⟨_, List.getElem?_eq_getElem (by omega)⟩
                    have hyD : l1.getD 0 0 = y := by rw [List.getD_eq_getElem?_getD, hy]; rfl
                    have ht := tmod_two y
                    refine WL.indexT Try.underlying22 Try.sizeOf3 hp rfl rfl ⟨hy, rfl⟩ rfl ?_
                    intro b_2 o_2 hc_2
                    refine WL.want rfl rfl rfl (WL.load Try.isAgg3 rfl (hc_2 0 _ rfl) rfl (WL.want rfl rfl rfl (?_)))
                    refine WL.remk rfl rfl (by decide) rfl ?_
                    refine WL.want rfl rfl rfl (?_)
                    refine WL.neq? rfl rfl rfl (fun h181 => ?_) (fun h181 => ?_)
                    ·
                      refine WL.pickT rfl rfl rfl (WL.nil (WX.then_normal (WC.cond_true rfl (WC.region (?_)))))
                      refine WL.call eg_14 rfl rfl (hBc 5 _) ?_
                      rintro v w17 ⟨⟨g17, rfl, hq17, hg171, hg172⟩, k17⟩
                      have zs_k17 := k17.size
                      replace hp := hp.pure k17
                      replace hw := hw.pure k17
                      replace hQ := hQ.pure k17
                      replace hR := hR.pure k17
                      replace hq := hq.pure k17
                      replace hm := hm.pure k17
                      refine WL.toStr Try.underlying30 Try.underlying5 Try.underlying9 hq17.rsl rfl rfl (WL.assign rfl rfl (WL.nil (WX.then_normal (WC.seq (WC.region (WL.move rfl rfl (?_)))))))
                      refine WL.neqF rfl rfl rfl (by first | rfl | omega | decide) ?_
                      refine WL.move rfl rfl (WL.want rfl rfl rfl (WL.move rfl rfl (WL.want rfl rfl rfl (WL.toStr Try.underlying30 Try.underlying5 Try.underlying9 hq rfl rfl (WL.want rfl rfl rfl (WL.move rfl rfl (WL.want rfl rfl rfl (?_))))))))
                      refine WL.sneqF rfl rfl rfl ((by rw [hx]; refine congrArg (fun l : List UInt8 => (⟨l.toArray⟩ : ByteArray)) ?_; split <;> first | rfl | (exfalso; omega) | (split <;> first | rfl | (exfalso; omega)))) ?_
                      refine WL.pickF rfl rfl rfl (WL.nil (WX.then_normal (WC.cond_false rfl (WC.skip (WX.block_normal (WX.then_normal (WC.region (?_))))))))
                      refine WL.move rfl rfl (WL.add64 rfl rfl (by first | omega | (constructor <;> omega)) rfl (WL.assign rfl rfl (WL.nil (?_))))
                      first
                        | exact WX.loop_next (i + 1, L.set (i % 5 * 8 + i * 3 % 8) (1 + (k : Int))) ⟨rfl, rfl, rfl, rfl, by simp [List.lookup, ev, List.length_set], rfl, trivial⟩ ⟨by show i + 1 ≤ 80; omega, hf, hp, hw, hQ, by omega, s3, hL3, sw3, hR3⟩ (by show 80 - (i + 1) < 80 - i; omega)
                        | exact WX.loop_next (a + 1) ⟨rfl, rfl, rfl, rfl, rfl, rfl, trivial⟩ ⟨by omega, hp, hw, hQ, hR, by omega⟩ (by omega)
                        | exact WX.loop_next (d + 1) ⟨rfl, rfl, rfl, rfl, rfl, trivial⟩ ⟨by omega, hp, hw, hQ, hR, by omega⟩ (by omega)
                    ·
                      refine WL.pickT rfl rfl rfl (WL.nil (WX.then_normal (WC.cond_false rfl (WC.skip (WX.then_normal (WC.seq (WC.region (?_))))))))
                      refine WL.move rfl rfl (?_)
                      refine WL.neqF rfl rfl rfl (by first | rfl | omega | decide) ?_
                      refine WL.move rfl rfl (WL.want rfl rfl rfl (WL.move rfl rfl (WL.want rfl rfl rfl (WL.toStr Try.underlying30 Try.underlying5 Try.underlying9 hq rfl rfl (WL.want rfl rfl rfl (WL.move rfl rfl (WL.want rfl rfl rfl (?_))))))))
                      refine WL.sneqF rfl rfl rfl ((by rw [hx]; refine congrArg (fun l : List UInt8 => (⟨l.toArray⟩ : ByteArray)) ?_; split <;> first | rfl | (exfalso; omega) | (split <;> first | rfl | (exfalso; omega)))) ?_
                      refine WL.pickF rfl rfl rfl (WL.nil (WX.then_normal (WC.cond_false rfl (WC.skip (WX.block_normal (WX.then_normal (WC.region (?_))))))))
                      refine WL.move rfl rfl (WL.add64 rfl rfl (by first | omega | (constructor <;> omega)) rfl (WL.assign rfl rfl (WL.nil (?_))))
                      first
                        | exact WX.loop_next (i + 1, L.set (i % 5 * 8 + i * 3 % 8) (1 + (k : Int))) ⟨rfl, rfl, rfl, rfl, by simp [List.lookup, ev, List.length_set], rfl, trivial⟩ ⟨by show i + 1 ≤ 80; omega, hf, hp, hw, hQ, by omega, s3, hL3, sw3, hR3⟩ (by show 80 - (i + 1) < 80 - i; omega)
                        | exact WX.loop_next (a + 1) ⟨rfl, rfl, rfl, rfl, rfl, rfl, trivial⟩ ⟨by omega, hp, hw, hQ, hR, by omega⟩ (by omega)
                        | exact WX.loop_next (d + 1) ⟨rfl, rfl, rfl, rfl, rfl, trivial⟩ ⟨by omega, hp, hw, hQ, hR, by omega⟩ (by omega)
                  ·
                    refine WL.pickT rfl rfl rfl (WL.move rfl rfl (WL.pass rfl rfl rfl rfl (WL.pass rfl rfl rfl rfl (WL.pass rfl rfl rfl rfl (WL.pass rfl rfl rfl rfl (WL.pass rfl rfl rfl rfl (WL.pickF rfl rfl rfl (?_))))))))
                    refine WL.nil (WX.then_normal (WC.cond_false rfl (WC.skip (WX.then_normal (WC.seq (WC.region (WL.move rfl rfl (?_))))))))
                    refine WL.neqF rfl rfl rfl (by first | rfl | omega | decide) ?_
                    refine WL.move rfl rfl (WL.want rfl rfl rfl (WL.move rfl rfl (WL.want rfl rfl rfl (WL.toStr Try.underlying30 Try.underlying5 Try.underlying9 hq rfl rfl (WL.want rfl rfl rfl (WL.move rfl rfl (WL.want rfl rfl rfl (?_))))))))
                    refine WL.sneqF rfl rfl rfl ((by rw [hx]; refine congrArg (fun l : List UInt8 => (⟨l.toArray⟩ : ByteArray)) ?_; split <;> first | rfl | (exfalso; omega) | (split <;> first | rfl | (exfalso; omega)))) ?_
                    refine WL.pickF rfl rfl rfl (WL.nil (WX.then_normal (WC.cond_false rfl (WC.skip (WX.block_normal (WX.then_normal (WC.region (?_))))))))
                    refine WL.move rfl rfl (WL.add64 rfl rfl (by first | omega | (constructor <;> omega)) rfl (WL.assign rfl rfl (WL.nil (?_))))
                    first
                      | exact WX.loop_next (i + 1, L.set (i % 5 * 8 + i * 3 % 8) (1 + (k : Int))) ⟨rfl, rfl, rfl, rfl, by simp [List.lookup, ev, List.length_set], rfl, trivial⟩ ⟨by show i + 1 ≤ 80; omega, hf, hp, hw, hQ, by omega, s3, hL3, sw3, hR3⟩ (by show 80 - (i + 1) < 80 - i; omega)
                      | exact WX.loop_next (a + 1) ⟨rfl, rfl, rfl, rfl, rfl, rfl, trivial⟩ ⟨by omega, hp, hw, hQ, hR, by omega⟩ (by omega)
                      | exact WX.loop_next (d + 1) ⟨rfl, rfl, rfl, rfl, rfl, trivial⟩ ⟨by omega, hp, hw, hQ, hR, by omega⟩ (by omega)
                ·
                  refine WL.pickT rfl rfl rfl (WL.move rfl rfl (WL.pass rfl rfl rfl rfl (WL.pass rfl rfl rfl rfl (WL.pass rfl rfl rfl rfl (WL.pickF rfl rfl rfl (WL.move rfl rfl (WL.pass rfl rfl rfl rfl (?_))))))))
                  refine WL.pass rfl rfl rfl rfl (WL.pass rfl rfl rfl rfl (WL.pass rfl rfl rfl rfl (WL.pass rfl rfl rfl rfl (WL.pickF rfl rfl rfl (WL.nil (WX.then_normal (WC.cond_false rfl (?_))))))))
                  refine WC.skip (WX.then_normal (WC.seq (WC.region (WL.move rfl rfl (?_)))))
                  refine WL.neqF rfl rfl rfl (by first | rfl | omega | decide) ?_
                  refine WL.move rfl rfl (WL.want rfl rfl rfl (WL.move rfl rfl (WL.want rfl rfl rfl (WL.toStr Try.underlying30 Try.underlying5 Try.underlying9 hq rfl rfl (WL.want rfl rfl rfl (WL.move rfl rfl (WL.want rfl rfl rfl (?_))))))))
                  refine WL.sneqF rfl rfl rfl ((by rw [hx]; refine congrArg (fun l : List UInt8 => (⟨l.toArray⟩ : ByteArray)) ?_; split <;> first | rfl | (exfalso; omega) | (split <;> first | rfl | (exfalso; omega)))) ?_
                  refine WL.pickF rfl rfl rfl (WL.nil (WX.then_normal (WC.cond_false rfl (WC.skip (WX.block_normal (WX.then_normal (WC.region (?_))))))))
                  refine WL.move rfl rfl (WL.add64 rfl rfl (by first | omega | (constructor <;> omega)) rfl (WL.assign rfl rfl (WL.nil (?_))))
                  first
                    | exact WX.loop_next (i + 1, L.set (i % 5 * 8 + i * 3 % 8) (1 + (k : Int))) ⟨rfl, rfl, rfl, rfl, by simp [List.lookup, ev, List.length_set], rfl, trivial⟩ ⟨by show i + 1 ≤ 80; omega, hf, hp, hw, hQ, by omega, s3, hL3, sw3, hR3⟩ (by show 80 - (i + 1) < 80 - i; omega)
                    | exact WX.loop_next (a + 1) ⟨rfl, rfl, rfl, rfl, rfl, rfl, trivial⟩ ⟨by omega, hp, hw, hQ, hR, by omega⟩ (by omega)
                    | exact WX.loop_next (d + 1) ⟨rfl, rfl, rfl, rfl, rfl, trivial⟩ ⟨by omega, hp, hw, hQ, hR, by omega⟩ (by omega)
              ·
                refine WL.pickT rfl rfl rfl (WL.move rfl rfl (WL.pass rfl rfl rfl rfl (WL.pass rfl rfl rfl rfl (WL.pass rfl rfl rfl rfl (WL.pickF rfl rfl rfl (WL.move rfl rfl (WL.pass rfl rfl rfl rfl (?_))))))))
                refine WL.pass rfl rfl rfl rfl (WL.pass rfl rfl rfl rfl (WL.pickF rfl rfl rfl (WL.move rfl rfl (WL.pass rfl rfl rfl rfl (WL.pass rfl rfl rfl rfl (WL.pass rfl rfl rfl rfl (WL.pass rfl rfl rfl rfl (?_))))))))
                refine WL.pass rfl rfl rfl rfl (WL.pickF rfl rfl rfl (WL.nil (WX.then_normal (WC.cond_false rfl (WC.skip (WX.then_normal (WC.seq (?_))))))))
                refine WC.region (WL.move rfl rfl (?_))
                refine WL.neqF rfl rfl rfl (by first | rfl | omega | decide) ?_
                refine WL.move rfl rfl (WL.want rfl rfl rfl (WL.move rfl rfl (WL.want rfl rfl rfl (WL.toStr Try.underlying30 Try.underlying5 Try.underlying9 hq rfl rfl (WL.want rfl rfl rfl (WL.move rfl rfl (WL.want rfl rfl rfl (?_))))))))
                refine WL.sneqF rfl rfl rfl ((by rw [hx]; refine congrArg (fun l : List UInt8 => (⟨l.toArray⟩ : ByteArray)) ?_; split <;> first | rfl | (exfalso; omega) | (split <;> first | rfl | (exfalso; omega)))) ?_
                refine WL.pickF rfl rfl rfl (WL.nil (WX.then_normal (WC.cond_false rfl (WC.skip (WX.block_normal (WX.then_normal (WC.region (?_))))))))
                refine WL.move rfl rfl (WL.add64 rfl rfl (by first | omega | (constructor <;> omega)) rfl (WL.assign rfl rfl (WL.nil (?_))))
                first
                  | exact WX.loop_next (i + 1, L.set (i % 5 * 8 + i * 3 % 8) (1 + (k : Int))) ⟨rfl, rfl, rfl, rfl, by simp [List.lookup, ev, List.length_set], rfl, trivial⟩ ⟨by show i + 1 ≤ 80; omega, hf, hp, hw, hQ, by omega, s3, hL3, sw3, hR3⟩ (by show 80 - (i + 1) < 80 - i; omega)
                  | exact WX.loop_next (a + 1) ⟨rfl, rfl, rfl, rfl, rfl, rfl, trivial⟩ ⟨by omega, hp, hw, hQ, hR, by omega⟩ (by omega)
                  | exact WX.loop_next (d + 1) ⟨rfl, rfl, rfl, rfl, rfl, trivial⟩ ⟨by omega, hp, hw, hQ, hR, by omega⟩ (by omega)
            ·
              refine WL.move rfl rfl (WL.pass rfl rfl rfl rfl (WL.pass rfl rfl rfl rfl (WL.pickF rfl rfl rfl (WL.move rfl rfl (WL.pass rfl rfl rfl rfl (WL.pass rfl rfl rfl rfl (WL.pass rfl rfl rfl rfl (?_))))))))
              refine WL.pickF rfl rfl rfl (WL.move rfl rfl (WL.pass rfl rfl rfl rfl (WL.pass rfl rfl rfl rfl (WL.pass rfl rfl rfl rfl (WL.pickF rfl rfl rfl (WL.move rfl rfl (WL.pass rfl rfl rfl rfl (?_))))))))
              refine WL.pass rfl rfl rfl rfl (WL.pass rfl rfl rfl rfl (WL.pass rfl rfl rfl rfl (WL.pass rfl rfl rfl rfl (WL.pickF rfl rfl rfl (WL.nil (WX.then_normal (WC.cond_false rfl (?_))))))))
              refine WC.skip (WX.then_normal (WC.seq (WC.region (WL.move rfl rfl (?_)))))
              refine WL.neqF rfl rfl rfl (by first | rfl | omega | decide) ?_
              refine WL.move rfl rfl (WL.want rfl rfl rfl (WL.move rfl rfl (WL.want rfl rfl rfl (WL.toStr Try.underlying30 Try.underlying5 Try.underlying9 hq rfl rfl (WL.want rfl rfl rfl (WL.move rfl rfl (WL.want rfl rfl rfl (?_))))))))
              refine WL.sneqF rfl rfl rfl ((by rw [hx]; refine congrArg (fun l : List UInt8 => (⟨l.toArray⟩ : ByteArray)) ?_; split <;> first | rfl | (exfalso; omega) | (split <;> first | rfl | (exfalso; omega)))) ?_
              refine WL.pickF rfl rfl rfl (WL.nil (WX.then_normal (WC.cond_false rfl (WC.skip (WX.block_normal (WX.then_normal (WC.region (?_))))))))
              refine WL.move rfl rfl (WL.add64 rfl rfl (by first | omega | (constructor <;> omega)) rfl (WL.assign rfl rfl (WL.nil (?_))))
              first
                | exact WX.loop_next (i + 1, L.set (i % 5 * 8 + i * 3 % 8) (1 + (k : Int))) ⟨rfl, rfl, rfl, rfl, by simp [List.lookup, ev, List.length_set], rfl, trivial⟩ ⟨by show i + 1 ≤ 80; omega, hf, hp, hw, hQ, by omega, s3, hL3, sw3, hR3⟩ (by show 80 - (i + 1) < 80 - i; omega)
                | exact WX.loop_next (a + 1) ⟨rfl, rfl, rfl, rfl, rfl, rfl, trivial⟩ ⟨by omega, hp, hw, hQ, hR, by omega⟩ (by omega)
                | exact WX.loop_next (d + 1) ⟨rfl, rfl, rfl, rfl, rfl, trivial⟩ ⟨by omega, hp, hw, hQ, hR, by omega⟩ (by omega)
        ·
          refine WL.nil (WX.then_normal (WC.cond_false rfl (WC.exit (WX.then_exit (WX.then_exit (WX.block_here (WX.block_normal (?_))))))))
          refine WX.then_normal (WC.region (WL.move rfl rfl (WL.add64 rfl rfl (by first | omega | (constructor <;> omega)) rfl (WL.assign rfl rfl (WL.nil (?_))))))
          first
            | exact WX.loop_next (i + 1, L.set (i % 5 * 8 + i * 3 % 8) (1 + (k : Int))) ⟨rfl, rfl, rfl, rfl, by simp [List.lookup, ev, List.length_set], rfl, trivial⟩ ⟨by show i + 1 ≤ 80; omega, hf, hp, hw, hQ, by omega, s3, hL3, sw3, hR3⟩ (by show 80 - (i + 1) < 80 - i; omega)
            | exact WX.loop_next (a + 1) ⟨rfl, rfl, rfl, rfl, rfl, rfl, trivial⟩ ⟨by omega, hp, hw, hQ, hR, by omega⟩ (by omega)
            | exact WX.loop_next (d + 1) ⟨rfl, rfl, rfl, rfl, rfl, trivial⟩ ⟨by omega, hp, hw, hQ, hR, by omega⟩ (by omega)
      ·
        refine WL.nil (WX.then_normal (WC.cond_false rfl (WC.exit (WX.then_exit (WX.then_exit (WX.block_here (WX.then_normal (?_))))))))
        refine WC.seq (WC.region (WL.assign rfl rfl (WL.nil (WX.then_normal (WC.ret (?_))))))
        refine WX.ret1 (.inl rfl) Try.results7 rfl ?_
        exact ⟨_, rfl, rfl, hw⟩
  ·
    refine WL.move rfl rfl (WL.pass rfl rfl rfl rfl (WL.pass rfl rfl rfl rfl (WL.pickF rfl rfl rfl (WL.nil (WX.then_normal (WC.cond_false rfl (WC.exit (?_))))))))
    refine WX.then_exit (WX.then_exit (WX.block_here (WX.then_normal (WC.seq (WC.region (WL.move rfl rfl (WL.c_i64_u64 Try.underlying3 Try.underlying41 rfl rfl (?_))))))))
    refine WL.num rfl rfl (n_rem64 _ _ _ 5 (by decide)) rfl (?_)
    refine WL.c_u64_i64s (n := l) Try.underlying41 Try.underlying3 rfl ⟨hl.symm, by omega⟩ rfl ?_
    refine WL.assign rfl rfl (WL.nil (WX.then_normal (WC.seq (WC.seq (WC.region (WL.move rfl rfl (?_)))))))
    have hok := hR.ok
    refine WL.call eg_15 rfl rfl (FlushU hR hL.up) ?_
    rintro v w3 ⟨rfl, hR3, k3⟩
    have zs_k3 := k3.size
    replace hf := hf.chg k3 (by first | (intro x h1 h2; exact h2) | (intro x h0 h1 h2; exact hS x h1 h2) | (intro x h0 h1 h2; have h3 : _ = _ := h2; subst h3; exact hSR h1.1) | (intro x h1 h2; have h3 : _ = _ := h2; subst h3; assumption) | (intro x h1 h2; have h3 : _ = _ := h2; exfalso; omega) | (intro b h1 h2 h3; have h4 : _ = _ := h3; (try dsimp only at h2); exfalso; omega) | (intro h1; have h2 : _ = _ := h1; exfalso; omega) | (intro h1; have h2 : _ ≤ _ := h1; exfalso; omega) | (intros; exfalso; (try dsimp only at *); omega) | (intro b h1 h2 h3; exfalso; have h4 := h3.2; (try dsimp only at *); omega) | (intro h1; exfalso; have h4 := h1.2; (try dsimp only at *); omega) | (intro x h1 h2; exfalso; have h4 := h2.2; (try dsimp only at *); omega) | (intro x h1 h2; exact ⟨_, rfl, h2⟩) | (intro x h1 h2; have h4 := h2.1; have h5 := h2.2; exfalso; omega) | (intro x h1 h2; exact h2.1) | (intro x h1 h2; rcases h2.1 with h3 | h3; exact h3; exfalso; omega) | (intro x h1 h2; rcases h2 with h3 | h3; exact h3; exfalso; omega))
    replace hp := hp.chg k3 (by first | (intro x h1 h2; exact h2) | (intro x h0 h1 h2; exact hS x h1 h2) | (intro x h0 h1 h2; have h3 : _ = _ := h2; subst h3; exact hSR h1.1) | (intro x h1 h2; have h3 : _ = _ := h2; subst h3; assumption) | (intro x h1 h2; have h3 : _ = _ := h2; exfalso; omega) | (intro b h1 h2 h3; have h4 : _ = _ := h3; (try dsimp only at h2); exfalso; omega) | (intro h1; have h2 : _ = _ := h1; exfalso; omega) | (intro h1; have h2 : _ ≤ _ := h1; exfalso; omega) | (intros; exfalso; (try dsimp only at *); omega) | (intro b h1 h2 h3; exfalso; have h4 := h3.2; (try dsimp only at *); omega) | (intro h1; exfalso; have h4 := h1.2; (try dsimp only at *); omega) | (intro x h1 h2; exfalso; have h4 := h2.2; (try dsimp only at *); omega) | (intro x h1 h2; exact ⟨_, rfl, h2⟩) | (intro x h1 h2; have h4 := h2.1; have h5 := h2.2; exfalso; omega) | (intro x h1 h2; exact h2.1) | (intro x h1 h2; rcases h2.1 with h3 | h3; exact h3; exfalso; omega) | (intro x h1 h2; rcases h2 with h3 | h3; exact h3; exfalso; omega))
    replace hw := hw.chg k3 (by first | (intro x h1 h2; exact h2) | (intro x h0 h1 h2; exact hS x h1 h2) | (intro x h0 h1 h2; have h3 : _ = _ := h2; subst h3; exact hSR h1.1) | (intro x h1 h2; have h3 : _ = _ := h2; subst h3; assumption) | (intro x h1 h2; have h3 : _ = _ := h2; exfalso; omega) | (intro b h1 h2 h3; have h4 : _ = _ := h3; (try dsimp only at h2); exfalso; omega) | (intro h1; have h2 : _ = _ := h1; exfalso; omega) | (intro h1; have h2 : _ ≤ _ := h1; exfalso; omega) | (intros; exfalso; (try dsimp only at *); omega) | (intro b h1 h2 h3; exfalso; have h4 := h3.2; (try dsimp only at *); omega) | (intro h1; exfalso; have h4 := h1.2; (try dsimp only at *); omega) | (intro x h1 h2; exfalso; have h4 := h2.2; (try dsimp only at *); omega) | (intro x h1 h2; exact ⟨_, rfl, h2⟩) | (intro x h1 h2; have h4 := h2.1; have h5 := h2.2; exfalso; omega) | (intro x h1 h2; exact h2.1) | (intro x h1 h2; rcases h2.1 with h3 | h3; exact h3; exfalso; omega) | (intro x h1 h2; rcases h2 with h3 | h3; exact h3; exfalso; omega))
    replace hQ := hQ.chg k3 (by first | (intro x h1 h2; exact h2) | (intro x h0 h1 h2; exact hS x h1 h2) | (intro x h0 h1 h2; have h3 : _ = _ := h2; subst h3; exact hSR h1.1) | (intro x h1 h2; have h3 : _ = _ := h2; subst h3; assumption) | (intro x h1 h2; have h3 : _ = _ := h2; exfalso; omega) | (intro b h1 h2 h3; have h4 : _ = _ := h3; (try dsimp only at h2); exfalso; omega) | (intro h1; have h2 : _ = _ := h1; exfalso; omega) | (intro h1; have h2 : _ ≤ _ := h1; exfalso; omega) | (intros; exfalso; (try dsimp only at *); omega) | (intro b h1 h2 h3; exfalso; have h4 := h3.2; (try dsimp only at *); omega) | (intro h1; exfalso; have h4 := h1.2; (try dsimp only at *); omega) | (intro x h1 h2; exfalso; have h4 := h2.2; (try dsimp only at *); omega) | (intro x h1 h2; exact ⟨_, rfl, h2⟩) | (intro x h1 h2; have h4 := h2.1; have h5 := h2.2; exfalso; omega) | (intro x h1 h2; exact h2.1) | (intro x h1 h2; rcases h2.1 with h3 | h3; exact h3; exfalso; omega) | (intro x h1 h2; rcases h2 with h3 | h3; exact h3; exfalso; omega))
    refine WL.neqF rfl rfl rfl (by first | rfl | omega | decide) ?_
    refine WL.move rfl rfl (WL.want rfl rfl rfl (WL.move rfl rfl (WL.want rfl rfl rfl (?_))))
    refine WL.call eg_14 rfl rfl (hBc 5 _) ?_
    rintro v w4 ⟨⟨g4, rfl, hq4, hg41, hg42⟩, k4⟩
    have zs_k4 := k4.size
    replace hf := hf.pure k4
    replace hp := hp.pure k4
    replace hw := hw.pure k4
    replace hQ := hQ.pure k4
    replace hR3 := hR3.pure k4
    refine WL.want rfl rfl rfl (?_)
    have zw4 := hw.size
    refine WL.call eg_13 rfl rfl (WriteU (d := 2) (a := 0) hR3 (fun x hx => by omega) (allS_up hL.up) (by unfold inS; rw [show (allS s).dn = s.dn from rfl, show (allS s).sn = s.sn from rfl, hL.dn, hL.sn]; decide) (hL.gone 2) hq4 (hBl _) (by show 0 ≤ 100000; decide)) ?_
    rintro v w5 ⟨rfl, hR5, k5⟩
    have zs_k5 := k5.size
    replace hf := hf.chg k5 (by first | (intro x h1 h2; exact h2) | (intro x h0 h1 h2; exact hS x h1 h2) | (intro x h0 h1 h2; have h3 : _ = _ := h2; subst h3; exact hSR h1.1) | (intro x h1 h2; have h3 : _ = _ := h2; subst h3; assumption) | (intro x h1 h2; have h3 : _ = _ := h2; exfalso; omega) | (intro b h1 h2 h3; have h4 : _ = _ := h3; (try dsimp only at h2); exfalso; omega) | (intro h1; have h2 : _ = _ := h1; exfalso; omega) | (intro h1; have h2 : _ ≤ _ := h1; exfalso; omega) | (intros; exfalso; (try dsimp only at *); omega) | (intro b h1 h2 h3; exfalso; have h4 := h3.2; (try dsimp only at *); omega) | (intro h1; exfalso; have h4 := h1.2; (try dsimp only at *); omega) | (intro x h1 h2; exfalso; have h4 := h2.2; (try dsimp only at *); omega) | (intro x h1 h2; exact ⟨_, rfl, h2⟩) | (intro x h1 h2; have h4 := h2.1; have h5 := h2.2; exfalso; omega) | (intro x h1 h2; exact h2.1) | (intro x h1 h2; rcases h2.1 with h3 | h3; exact h3; exfalso; omega) | (intro x h1 h2; rcases h2 with h3 | h3; exact h3; exfalso; omega))
    replace hp := hp.chg k5 (by first | (intro x h1 h2; exact h2) | (intro x h0 h1 h2; exact hS x h1 h2) | (intro x h0 h1 h2; have h3 : _ = _ := h2; subst h3; exact hSR h1.1) | (intro x h1 h2; have h3 : _ = _ := h2; subst h3; assumption) | (intro x h1 h2; have h3 : _ = _ := h2; exfalso; omega) | (intro b h1 h2 h3; have h4 : _ = _ := h3; (try dsimp only at h2); exfalso; omega) | (intro h1; have h2 : _ = _ := h1; exfalso; omega) | (intro h1; have h2 : _ ≤ _ := h1; exfalso; omega) | (intros; exfalso; (try dsimp only at *); omega) | (intro b h1 h2 h3; exfalso; have h4 := h3.2; (try dsimp only at *); omega) | (intro h1; exfalso; have h4 := h1.2; (try dsimp only at *); omega) | (intro x h1 h2; exfalso; have h4 := h2.2; (try dsimp only at *); omega) | (intro x h1 h2; exact ⟨_, rfl, h2⟩) | (intro x h1 h2; have h4 := h2.1; have h5 := h2.2; exfalso; omega) | (intro x h1 h2; exact h2.1) | (intro x h1 h2; rcases h2.1 with h3 | h3; exact h3; exfalso; omega) | (intro x h1 h2; rcases h2 with h3 | h3; exact h3; exfalso; omega))
    replace hw := hw.chg k5 (by first | (intro x h1 h2; exact h2) | (intro x h0 h1 h2; exact hS x h1 h2) | (intro x h0 h1 h2; have h3 : _ = _ := h2; subst h3; exact hSR h1.1) | (intro x h1 h2; have h3 : _ = _ := h2; subst h3; assumption) | (intro x h1 h2; have h3 : _ = _ := h2; exfalso; omega) | (intro b h1 h2 h3; have h4 : _ = _ := h3; (try dsimp only at h2); exfalso; omega) | (intro h1; have h2 : _ = _ := h1; exfalso; omega) | (intro h1; have h2 : _ ≤ _ := h1; exfalso; omega) | (intros; exfalso; (try dsimp only at *); omega) | (intro b h1 h2 h3; exfalso; have h4 := h3.2; (try dsimp only at *); omega) | (intro h1; exfalso; have h4 := h1.2; (try dsimp only at *); omega) | (intro x h1 h2; exfalso; have h4 := h2.2; (try dsimp only at *); omega) | (intro x h1 h2; exact ⟨_, rfl, h2⟩) | (intro x h1 h2; have h4 := h2.1; have h5 := h2.2; exfalso; omega) | (intro x h1 h2; exact h2.1) | (intro x h1 h2; rcases h2.1 with h3 | h3; exact h3; exfalso; omega) | (intro x h1 h2; rcases h2 with h3 | h3; exact h3; exfalso; omega))
    replace hQ := hQ.chg k5 (by first | (intro x h1 h2; exact h2) | (intro x h0 h1 h2; exact hS x h1 h2) | (intro x h0 h1 h2; have h3 : _ = _ := h2; subst h3; exact hSR h1.1) | (intro x h1 h2; have h3 : _ = _ := h2; subst h3; assumption) | (intro x h1 h2; have h3 : _ = _ := h2; exfalso; omega) | (intro b h1 h2 h3; have h4 : _ = _ := h3; (try dsimp only at h2); exfalso; omega) | (intro h1; have h2 : _ = _ := h1; exfalso; omega) | (intro h1; have h2 : _ ≤ _ := h1; exfalso; omega) | (intros; exfalso; (try dsimp only at *); omega) | (intro b h1 h2 h3; exfalso; have h4 := h3.2; (try dsimp only at *); omega) | (intro h1; exfalso; have h4 := h1.2; (try dsimp only at *); omega) | (intro x h1 h2; exfalso; have h4 := h2.2; (try dsimp only at *); omega) | (intro x h1 h2; exact ⟨_, rfl, h2⟩) | (intro x h1 h2; have h4 := h2.1; have h5 := h2.2; exfalso; omega) | (intro x h1 h2; exact h2.1) | (intro x h1 h2; rcases h2.1 with h3 | h3; exact h3; exfalso; omega) | (intro x h1 h2; rcases h2 with h3 | h3; exact h3; exfalso; omega))
    refine WL.want rfl rfl rfl (?_)
    refine WL.neqF rfl rfl rfl (by first | rfl | omega | decide) ?_
    refine WL.pickF rfl rfl rfl (WL.move rfl rfl (WL.want rfl rfl rfl (WL.move rfl rfl (WL.want rfl rfl rfl (WL.move rfl rfl (WL.want rfl rfl rfl (?_)))))))
    have hok1 := hR5.ok
    have hi1 : isS (addS (allS s) (2, 0) (B 5)) (l : Int) := by
      unfold isS
      rw [show (addS (allS s) (2, 0) (B 5)).dn = s.dn from rfl, hL.dn]
      omega
    refine WL.call eg_20 rfl rfl (LoseU hR5 hi1) ?_
    rintro v w6 ⟨rfl, hR6, k6⟩
    have zs_k6 := k6.size
    replace hf := hf.chg k6 (by first | (intro x h1 h2; exact h2) | (intro x h0 h1 h2; exact hS x h1 h2) | (intro x h0 h1 h2; have h3 : _ = _ := h2; subst h3; exact hSR h1.1) | (intro x h1 h2; have h3 : _ = _ := h2; subst h3; assumption) | (intro x h1 h2; have h3 : _ = _ := h2; exfalso; omega) | (intro b h1 h2 h3; have h4 : _ = _ := h3; (try dsimp only at h2); exfalso; omega) | (intro h1; have h2 : _ = _ := h1; exfalso; omega) | (intro h1; have h2 : _ ≤ _ := h1; exfalso; omega) | (intros; exfalso; (try dsimp only at *); omega) | (intro b h1 h2 h3; exfalso; have h4 := h3.2; (try dsimp only at *); omega) | (intro h1; exfalso; have h4 := h1.2; (try dsimp only at *); omega) | (intro x h1 h2; exfalso; have h4 := h2.2; (try dsimp only at *); omega) | (intro x h1 h2; exact ⟨_, rfl, h2⟩) | (intro x h1 h2; have h4 := h2.1; have h5 := h2.2; exfalso; omega) | (intro x h1 h2; exact h2.1) | (intro x h1 h2; rcases h2.1 with h3 | h3; exact h3; exfalso; omega) | (intro x h1 h2; rcases h2 with h3 | h3; exact h3; exfalso; omega))
    replace hp := hp.chg k6 (by first | (intro x h1 h2; exact h2) | (intro x h0 h1 h2; exact hS x h1 h2) | (intro x h0 h1 h2; have h3 : _ = _ := h2; subst h3; exact hSR h1.1) | (intro x h1 h2; have h3 : _ = _ := h2; subst h3; assumption) | (intro x h1 h2; have h3 : _ = _ := h2; exfalso; omega) | (intro b h1 h2 h3; have h4 : _ = _ := h3; (try dsimp only at h2); exfalso; omega) | (intro h1; have h2 : _ = _ := h1; exfalso; omega) | (intro h1; have h2 : _ ≤ _ := h1; exfalso; omega) | (intros; exfalso; (try dsimp only at *); omega) | (intro b h1 h2 h3; exfalso; have h4 := h3.2; (try dsimp only at *); omega) | (intro h1; exfalso; have h4 := h1.2; (try dsimp only at *); omega) | (intro x h1 h2; exfalso; have h4 := h2.2; (try dsimp only at *); omega) | (intro x h1 h2; exact ⟨_, rfl, h2⟩) | (intro x h1 h2; have h4 := h2.1; have h5 := h2.2; exfalso; omega) | (intro x h1 h2; exact h2.1) | (intro x h1 h2; rcases h2.1 with h3 | h3; exact h3; exfalso; omega) | (intro x h1 h2; rcases h2 with h3 | h3; exact h3; exfalso; omega))
    replace hw := hw.chg k6 (by first | (intro x h1 h2; exact h2) | (intro x h0 h1 h2; exact hS x h1 h2) | (intro x h0 h1 h2; have h3 : _ = _ := h2; subst h3; exact hSR h1.1) | (intro x h1 h2; have h3 : _ = _ := h2; subst h3; assumption) | (intro x h1 h2; have h3 : _ = _ := h2; exfalso; omega) | (intro b h1 h2 h3; have h4 : _ = _ := h3; (try dsimp only at h2); exfalso; omega) | (intro h1; have h2 : _ = _ := h1; exfalso; omega) | (intro h1; have h2 : _ ≤ _ := h1; exfalso; omega) | (intros; exfalso; (try dsimp only at *); omega) | (intro b h1 h2 h3; exfalso; have h4 := h3.2; (try dsimp only at *); omega) | (intro h1; exfalso; have h4 := h1.2; (try dsimp only at *); omega) | (intro x h1 h2; exfalso; have h4 := h2.2; (try dsimp only at *); omega) | (intro x h1 h2; exact ⟨_, rfl, h2⟩) | (intro x h1 h2; have h4 := h2.1; have h5 := h2.2; exfalso; omega) | (intro x h1 h2; exact h2.1) | (intro x h1 h2; rcases h2.1 with h3 | h3; exact h3; exfalso; omega) | (intro x h1 h2; rcases h2 with h3 | h3; exact h3; exfalso; omega))
    replace hQ := hQ.chg k6 (by first | (intro x h1 h2; exact h2) | (intro x h0 h1 h2; exact hS x h1 h2) | (intro x h0 h1 h2; have h3 : _ = _ := h2; subst h3; exact hSR h1.1) | (intro x h1 h2; have h3 : _ = _ := h2; subst h3; assumption) | (intro x h1 h2; have h3 : _ = _ := h2; exfalso; omega) | (intro b h1 h2 h3; have h4 : _ = _ := h3; (try dsimp only at h2); exfalso; omega) | (intro h1; have h2 : _ = _ := h1; exfalso; omega) | (intro h1; have h2 : _ ≤ _ := h1; exfalso; omega) | (intros; exfalso; (try dsimp only at *); omega) | (intro b h1 h2 h3; exfalso; have h4 := h3.2; (try dsimp only at *); omega) | (intro h1; exfalso; have h4 := h1.2; (try dsimp only at *); omega) | (intro x h1 h2; exfalso; have h4 := h2.2; (try dsimp only at *); omega) | (intro x h1 h2; exact ⟨_, rfl, h2⟩) | (intro x h1 h2; have h4 := h2.1; have h5 := h2.2; exfalso; omega) | (intro x h1 h2; exact h2.1) | (intro x h1 h2; rcases h2.1 with h3 | h3; exact h3; exfalso; omega) | (intro x h1 h2; rcases h2 with h3 | h3; exact h3; exfalso; omega))
    refine WL.want rfl rfl rfl (?_)
    refine WL.neqF rfl rfl rfl (by first | rfl | omega | decide) ?_
    refine WL.pickF rfl rfl rfl (WL.nil (WX.then_normal (WC.cond_false rfl (WC.skip (WX.then_normal (WC.seq (WC.region (?_))))))))
    refine WL.move rfl rfl (?_)
    replace hR6 := hR6.old
    refine WL.build (e := ei) [] Try.underlying22 Try.sizeOf3 Try.zeroValue3 rfl rfl rfl (by first | (simp [Value.cells]; done) | (simp [Value.cells] <;> rfl) | (simp [Value.cells, eb, ei, es, ebool, e32, e64]; done)) (by decide) rfl ?_
    intro a_hb0 w_hb0 hb0 l_hb0 z_hb0 k_hb0
    have zs_k_hb0 := k_hb0.size
    replace hf := hf.pure k_hb0
    replace hp := hp.pure k_hb0
    replace hw := hw.pure k_hb0
    replace hQ := hQ.pure k_hb0
    replace hR6 := hR6.pure k_hb0
    refine WL.move rfl rfl (?_)
    refine WL.append (e := ei) info_3 rfl Try.underlying22 rfl rfl hb0 (hp.src Try.underlying22) (by (try simp only [List.length_append, List.length_cons, List.length_nil] at *); omega) (by intro b hb; first | (apply hS; omega) | ((try dsimp only); omega)) rfl ?_
    intro a_hb1 c_hb1 w_hb1 hb1 g_hb1 n_hb1
    have z_hb1 := g_hb1.chg.size
    have zs_g_hb1_chg := g_hb1.chg.size
    replace hf := hf.chg g_hb1.chg (by first | (intro x h1 h2; exact h2) | (intro x h0 h1 h2; exact hS x h1 h2) | (intro x h0 h1 h2; have h3 : _ = _ := h2; subst h3; exact hSR h1.1) | (intro x h1 h2; have h3 : _ = _ := h2; subst h3; assumption) | (intro x h1 h2; have h3 : _ = _ := h2; exfalso; omega) | (intro b h1 h2 h3; have h4 : _ = _ := h3; (try dsimp only at h2); exfalso; omega) | (intro h1; have h2 : _ = _ := h1; exfalso; omega) | (intro h1; have h2 : _ ≤ _ := h1; exfalso; omega) | (intros; exfalso; (try dsimp only at *); omega) | (intro b h1 h2 h3; exfalso; have h4 := h3.2; (try dsimp only at *); omega) | (intro h1; exfalso; have h4 := h1.2; (try dsimp only at *); omega) | (intro x h1 h2; exfalso; have h4 := h2.2; (try dsimp only at *); omega) | (intro x h1 h2; exact ⟨_, rfl, h2⟩) | (intro x h1 h2; have h4 := h2.1; have h5 := h2.2; exfalso; omega) | (intro x h1 h2; exact h2.1) | (intro x h1 h2; rcases h2.1 with h3 | h3; exact h3; exfalso; omega) | (intro x h1 h2; rcases h2 with h3 | h3; exact h3; exfalso; omega))
    replace hp := hp.chg g_hb1.chg (by first | (intro x h1 h2; exact h2) | (intro x h0 h1 h2; exact hS x h1 h2) | (intro x h0 h1 h2; have h3 : _ = _ := h2; subst h3; exact hSR h1.1) | (intro x h1 h2; have h3 : _ = _ := h2; subst h3; assumption) | (intro x h1 h2; have h3 : _ = _ := h2; exfalso; omega) | (intro b h1 h2 h3; have h4 : _ = _ := h3; (try dsimp only at h2); exfalso; omega) | (intro h1; have h2 : _ = _ := h1; exfalso; omega) | (intro h1; have h2 : _ ≤ _ := h1; exfalso; omega) | (intros; exfalso; (try dsimp only at *); omega) | (intro b h1 h2 h3; exfalso; have h4 := h3.2; (try dsimp only at *); omega) | (intro h1; exfalso; have h4 := h1.2; (try dsimp only at *); omega) | (intro x h1 h2; exfalso; have h4 := h2.2; (try dsimp only at *); omega) | (intro x h1 h2; exact ⟨_, rfl, h2⟩) | (intro x h1 h2; have h4 := h2.1; have h5 := h2.2; exfalso; omega) | (intro x h1 h2; exact h2.1) | (intro x h1 h2; rcases h2.1 with h3 | h3; exact h3; exfalso; omega) | (intro x h1 h2; rcases h2 with h3 | h3; exact h3; exfalso; omega))
    replace hw := hw.chg g_hb1.chg (by first | (intro x h1 h2; exact h2) | (intro x h0 h1 h2; exact hS x h1 h2) | (intro x h0 h1 h2; have h3 : _ = _ := h2; subst h3; exact hSR h1.1) | (intro x h1 h2; have h3 : _ = _ := h2; subst h3; assumption) | (intro x h1 h2; have h3 : _ = _ := h2; exfalso; omega) | (intro b h1 h2 h3; have h4 : _ = _ := h3; (try dsimp only at h2); exfalso; omega) | (intro h1; have h2 : _ = _ := h1; exfalso; omega) | (intro h1; have h2 : _ ≤ _ := h1; exfalso; omega) | (intros; exfalso; (try dsimp only at *); omega) | (intro b h1 h2 h3; exfalso; have h4 := h3.2; (try dsimp only at *); omega) | (intro h1; exfalso; have h4 := h1.2; (try dsimp only at *); omega) | (intro x h1 h2; exfalso; have h4 := h2.2; (try dsimp only at *); omega) | (intro x h1 h2; exact ⟨_, rfl, h2⟩) | (intro x h1 h2; have h4 := h2.1; have h5 := h2.2; exfalso; omega) | (intro x h1 h2; exact h2.1) | (intro x h1 h2; rcases h2.1 with h3 | h3; exact h3; exfalso; omega) | (intro x h1 h2; rcases h2 with h3 | h3; exact h3; exfalso; omega))
    replace hQ := hQ.chg g_hb1.chg (by first | (intro x h1 h2; exact h2) | (intro x h0 h1 h2; exact hS x h1 h2) | (intro x h0 h1 h2; have h3 : _ = _ := h2; subst h3; exact hSR h1.1) | (intro x h1 h2; have h3 : _ = _ := h2; subst h3; assumption) | (intro x h1 h2; have h3 : _ = _ := h2; exfalso; omega) | (intro b h1 h2 h3; have h4 : _ = _ := h3; (try dsimp only at h2); exfalso; omega) | (intro h1; have h2 : _ = _ := h1; exfalso; omega) | (intro h1; have h2 : _ ≤ _ := h1; exfalso; omega) | (intros; exfalso; (try dsimp only at *); omega) | (intro b h1 h2 h3; exfalso; have h4 := h3.2; (try dsimp only at *); omega) | (intro h1; exfalso; have h4 := h1.2; (try dsimp only at *); omega) | (intro x h1 h2; exfalso; have h4 := h2.2; (try dsimp only at *); omega) | (intro x h1 h2; exact ⟨_, rfl, h2⟩) | (intro x h1 h2; have h4 := h2.1; have h5 := h2.2; exfalso; omega) | (intro x h1 h2; exact h2.1) | (intro x h1 h2; rcases h2.1 with h3 | h3; exact h3; exfalso; omega) | (intro x h1 h2; rcases h2 with h3 | h3; exact h3; exfalso; omega))
    replace hR6 := hR6.chg g_hb1.chg (by first | (intro x h1 h2; exact h2) | (intro x h0 h1 h2; exact hS x h1 h2) | (intro x h0 h1 h2; have h3 : _ = _ := h2; subst h3; exact hSR h1.1) | (intro x h1 h2; have h3 : _ = _ := h2; subst h3; assumption) | (intro x h1 h2; have h3 : _ = _ := h2; exfalso; omega) | (intro b h1 h2 h3; have h4 : _ = _ := h3; (try dsimp only at h2); exfalso; omega) | (intro h1; have h2 : _ = _ := h1; exfalso; omega) | (intro h1; have h2 : _ ≤ _ := h1; exfalso; omega) | (intros; exfalso; (try dsimp only at *); omega) | (intro b h1 h2 h3; exfalso; have h4 := h3.2; (try dsimp only at *); omega) | (intro h1; exfalso; have h4 := h1.2; (try dsimp only at *); omega) | (intro x h1 h2; exfalso; have h4 := h2.2; (try dsimp only at *); omega) | (intro x h1 h2; exact ⟨_, rfl, h2⟩) | (intro x h1 h2; have h4 := h2.1; have h5 := h2.2; exfalso; omega) | (intro x h1 h2; exact h2.1) | (intro x h1 h2; rcases h2.1 with h3 | h3; exact h3; exfalso; omega) | (intro x h1 h2; rcases h2 with h3 | h3; exact h3; exfalso; omega))
    rw [show ([] ++ l1 : List Int) = l1 from rfl] at hb1 ⊢
    refine WL.call eg_17 rfl rfl (Crash_calls hR6 hb1.rsl (fun x h1 h2 => by omega)) ?_
    rintro v w7 ⟨rfl, hR7, k7⟩
    have zs_k7 := k7.size
    replace hf := hf.chg k7 (by first | (intro x h1 h2; exact h2) | (intro x h0 h1 h2; exact hS x h1 h2) | (intro x h0 h1 h2; have h3 : _ = _ := h2; subst h3; exact hSR h1.1) | (intro x h1 h2; have h3 : _ = _ := h2; subst h3; assumption) | (intro x h1 h2; have h3 : _ = _ := h2; exfalso; omega) | (intro b h1 h2 h3; have h4 : _ = _ := h3; (try dsimp only at h2); exfalso; omega) | (intro h1; have h2 : _ = _ := h1; exfalso; omega) | (intro h1; have h2 : _ ≤ _ := h1; exfalso; omega) | (intros; exfalso; (try dsimp only at *); omega) | (intro b h1 h2 h3; exfalso; have h4 := h3.2; (try dsimp only at *); omega) | (intro h1; exfalso; have h4 := h1.2; (try dsimp only at *); omega) | (intro x h1 h2; exfalso; have h4 := h2.2; (try dsimp only at *); omega) | (intro x h1 h2; exact ⟨_, rfl, h2⟩) | (intro x h1 h2; have h4 := h2.1; have h5 := h2.2; exfalso; omega) | (intro x h1 h2; exact h2.1) | (intro x h1 h2; rcases h2.1 with h3 | h3; exact h3; exfalso; omega) | (intro x h1 h2; rcases h2 with h3 | h3; exact h3; exfalso; omega))
    replace hp := hp.chg k7 (by first | (intro x h1 h2; exact h2) | (intro x h0 h1 h2; exact hS x h1 h2) | (intro x h0 h1 h2; have h3 : _ = _ := h2; subst h3; exact hSR h1.1) | (intro x h1 h2; have h3 : _ = _ := h2; subst h3; assumption) | (intro x h1 h2; have h3 : _ = _ := h2; exfalso; omega) | (intro b h1 h2 h3; have h4 : _ = _ := h3; (try dsimp only at h2); exfalso; omega) | (intro h1; have h2 : _ = _ := h1; exfalso; omega) | (intro h1; have h2 : _ ≤ _ := h1; exfalso; omega) | (intros; exfalso; (try dsimp only at *); omega) | (intro b h1 h2 h3; exfalso; have h4 := h3.2; (try dsimp only at *); omega) | (intro h1; exfalso; have h4 := h1.2; (try dsimp only at *); omega) | (intro x h1 h2; exfalso; have h4 := h2.2; (try dsimp only at *); omega) | (intro x h1 h2; exact ⟨_, rfl, h2⟩) | (intro x h1 h2; have h4 := h2.1; have h5 := h2.2; exfalso; omega) | (intro x h1 h2; exact h2.1) | (intro x h1 h2; rcases h2.1 with h3 | h3; exact h3; exfalso; omega) | (intro x h1 h2; rcases h2 with h3 | h3; exact h3; exfalso; omega))
    replace hw := hw.chg k7 (by first | (intro x h1 h2; exact h2) | (intro x h0 h1 h2; exact hS x h1 h2) | (intro x h0 h1 h2; have h3 : _ = _ := h2; subst h3; exact hSR h1.1) | (intro x h1 h2; have h3 : _ = _ := h2; subst h3; assumption) | (intro x h1 h2; have h3 : _ = _ := h2; exfalso; omega) | (intro b h1 h2 h3; have h4 : _ = _ := h3; (try dsimp only at h2); exfalso; omega) | (intro h1; have h2 : _ = _ := h1; exfalso; omega) | (intro h1; have h2 : _ ≤ _ := h1; exfalso; omega) | (intros; exfalso; (try dsimp only at *); omega) | (intro b h1 h2 h3; exfalso; have h4 := h3.2; (try dsimp only at *); omega) | (intro h1; exfalso; have h4 := h1.2; (try dsimp only at *); omega) | (intro x h1 h2; exfalso; have h4 := h2.2; (try dsimp only at *); omega) | (intro x h1 h2; exact ⟨_, rfl, h2⟩) | (intro x h1 h2; have h4 := h2.1; have h5 := h2.2; exfalso; omega) | (intro x h1 h2; exact h2.1) | (intro x h1 h2; rcases h2.1 with h3 | h3; exact h3; exfalso; omega) | (intro x h1 h2; rcases h2 with h3 | h3; exact h3; exfalso; omega))
    replace hQ := hQ.chg k7 (by first | (intro x h1 h2; exact h2) | (intro x h0 h1 h2; exact hS x h1 h2) | (intro x h0 h1 h2; have h3 : _ = _ := h2; subst h3; exact hSR h1.1) | (intro x h1 h2; have h3 : _ = _ := h2; subst h3; assumption) | (intro x h1 h2; have h3 : _ = _ := h2; exfalso; omega) | (intro b h1 h2 h3; have h4 : _ = _ := h3; (try dsimp only at h2); exfalso; omega) | (intro h1; have h2 : _ = _ := h1; exfalso; omega) | (intro h1; have h2 : _ ≤ _ := h1; exfalso; omega) | (intros; exfalso; (try dsimp only at *); omega) | (intro b h1 h2 h3; exfalso; have h4 := h3.2; (try dsimp only at *); omega) | (intro h1; exfalso; have h4 := h1.2; (try dsimp only at *); omega) | (intro x h1 h2; exfalso; have h4 := h2.2; (try dsimp only at *); omega) | (intro x h1 h2; exact ⟨_, rfl, h2⟩) | (intro x h1 h2; have h4 := h2.1; have h5 := h2.2; exfalso; omega) | (intro x h1 h2; exact h2.1) | (intro x h1 h2; rcases h2.1 with h3 | h3; exact h3; exfalso; omega) | (intro x h1 h2; rcases h2 with h3 | h3; exact h3; exfalso; omega))
    have hok4 := hR7.ok
    have hE := lasts_end hL hok (ps := l1) (l := (l : Int)) ⟨by omega, by omega⟩ rfl hok4 hok1
    have hi7 : isS (crashS (loseS (addS (allS s) (2, 0) (B 5)) (l : Int) true) l1) (l : Int) := hi1
    have hg7 : goneS (crashS (loseS (addS (allS s) (2, 0) (B 5)) (l : Int) true) l1) (l : Int) = true := by
      show goneS (loseS (addS (allS s) (2, 0) (B 5)) (l : Int) true) (l : Int) = true
      rw [loseS_gone hok1 hi1 true (by omega), if_pos rfl]
    have hin7 : inS (crashS (loseS (addS (allS s) (2, 0) (B 5)) (l : Int) true) l1) (l : Int) 1 := by
      unfold inS
      rw [show (crashS (loseS (addS (allS s) (2, 0) (B 5)) (l : Int) true) l1).dn = s.dn from rfl, show (crashS (loseS (addS (allS s) (2, 0) (B 5)) (l : Int) true) l1).sn = s.sn from rfl, hL.dn, hL.sn]
      omega
    have hw7 : (crashS (loseS (addS (allS s) (2, 0) (B 5)) (l : Int) true) l1).waits.length = 0 := rfl
    have us7 := crash_up (loseS (addS (allS s) (2, 0) (B 5)) (l : Int) true) l1
    obtain ⟨s7, es7⟩ : ∃ s7, s7 = crashS (loseS (addS (allS s) (2, 0) (B 5)) (l : Int) true) l1 := ⟨_, rfl⟩
    rw [← es7] at hR7 hok4 hE hi7 hg7 hin7 hw7 us7
    clear es7 hi1 hok1
    replace hR7 := hR7.mono (A' := fun x => w.heap.size ≤ x ∧ x ≠ gl) (fun x hx => hx.1)
    refine WL.nil (WX.then_normal (WC.seq (WC.region (WL.move rfl rfl (WL.move rfl rfl (?_))))))
    refine WL.call eg_16 rfl rfl (Read_calls hR7 (l : Int) 1) ?_
    rintro v w8 ⟨⟨r8, e8, rfl, he8, -, -, -⟩, k8⟩
    have he8' : e8 = 3 := by rw [he8]; simp [errS, hin7, hg7]
    subst he8'
    clear he8
    have zs_k8 := k8.size
    replace hf := hf.pure k8
    replace hp := hp.pure k8
    replace hw := hw.pure k8
    replace hQ := hQ.pure k8
    replace hR7 := hR7.pure k8
    refine WL.move rfl rfl (?_)
    refine WL.extract rfl rfl rfl ?_
    refine WL.extract rfl rfl rfl (WL.assign rfl rfl (WL.nil (WX.then_normal (WC.seq (WC.seq (WC.region (WL.move rfl rfl (?_))))))))
    refine WL.neqF rfl rfl rfl (by first | rfl | omega | decide) ?_
    refine WL.move rfl rfl (WL.want rfl rfl rfl (WL.move rfl rfl (WL.want rfl rfl rfl (WL.move rfl rfl (WL.want rfl rfl rfl (?_))))))
    refine WL.call eg_22 rfl rfl (Gone_calls hR7 (l : Int)) ?_
    rintro v w9 ⟨rfl, k9⟩
    rw [hg7, decide_eq_true hi7]
    have zs_k9 := k9.size
    replace hf := hf.pure k9
    replace hp := hp.pure k9
    replace hw := hw.pure k9
    replace hQ := hQ.pure k9
    replace hR7 := hR7.pure k9
    refine WL.want rfl rfl rfl (WL.not rfl rfl (WL.pickF rfl rfl rfl (WL.move rfl rfl (WL.want rfl rfl rfl (WL.move rfl rfl (WL.want rfl rfl rfl (WL.move rfl rfl (?_))))))))
    refine WL.want rfl rfl rfl (?_)
    refine WL.call eg_14 rfl rfl (hBc 1 _) ?_
    rintro v w10 ⟨⟨g10, rfl, hq10, hg101, hg102⟩, k10⟩
    have zs_k10 := k10.size
    replace hf := hf.pure k10
    replace hp := hp.pure k10
    replace hw := hw.pure k10
    replace hQ := hQ.pure k10
    replace hR7 := hR7.pure k10
    refine WL.want rfl rfl rfl (?_)
    have hE10 : writeE s7 (l : Int) 1 (B 1).length = 3 := by rw [hBl]; simp [writeE, hin7, hg7]
    have zw10 := hw.size
    refine WL.call eg_13 rfl rfl (Write_calls hR7 (l : Int) 1 (hR7.ne hq10).rsl (fun x h1 h2 => h1.2 h2) (by omega)) ?_
    rintro v w11 ⟨rfl, hR11, k11⟩
    rw [hE10]
    rw [show writeS s7 (l : Int) 1 (B 1) = s7 from by unfold writeS; rw [hE10]; rfl] at hR11
    replace hR11 := hR11.grow (fun x hx => by show w.heap.size ≤ x ∧ x ≠ gl; omega)
    have zs_k11 := k11.size
    replace hf := hf.chg k11 (by first | (intro x h1 h2; exact h2) | (intro x h0 h1 h2; exact hS x h1 h2) | (intro x h0 h1 h2; have h3 : _ = _ := h2; subst h3; exact hSR h1.1) | (intro x h1 h2; have h3 : _ = _ := h2; subst h3; assumption) | (intro x h1 h2; have h3 : _ = _ := h2; exfalso; omega) | (intro b h1 h2 h3; have h4 : _ = _ := h3; (try dsimp only at h2); exfalso; omega) | (intro h1; have h2 : _ = _ := h1; exfalso; omega) | (intro h1; have h2 : _ ≤ _ := h1; exfalso; omega) | (intros; exfalso; (try dsimp only at *); omega) | (intro b h1 h2 h3; exfalso; have h4 := h3.2; (try dsimp only at *); omega) | (intro h1; exfalso; have h4 := h1.2; (try dsimp only at *); omega) | (intro x h1 h2; exfalso; have h4 := h2.2; (try dsimp only at *); omega) | (intro x h1 h2; exact ⟨_, rfl, h2⟩) | (intro x h1 h2; have h4 := h2.1; have h5 := h2.2; exfalso; omega) | (intro x h1 h2; exact h2.1) | (intro x h1 h2; rcases h2.1 with h3 | h3; exact h3; exfalso; omega) | (intro x h1 h2; rcases h2 with h3 | h3; exact h3; exfalso; omega))
    replace hp := hp.chg k11 (by first | (intro x h1 h2; exact h2) | (intro x h0 h1 h2; exact hS x h1 h2) | (intro x h0 h1 h2; have h3 : _ = _ := h2; subst h3; exact hSR h1.1) | (intro x h1 h2; have h3 : _ = _ := h2; subst h3; assumption) | (intro x h1 h2; have h3 : _ = _ := h2; exfalso; omega) | (intro b h1 h2 h3; have h4 : _ = _ := h3; (try dsimp only at h2); exfalso; omega) | (intro h1; have h2 : _ = _ := h1; exfalso; omega) | (intro h1; have h2 : _ ≤ _ := h1; exfalso; omega) | (intros; exfalso; (try dsimp only at *); omega) | (intro b h1 h2 h3; exfalso; have h4 := h3.2; (try dsimp only at *); omega) | (intro h1; exfalso; have h4 := h1.2; (try dsimp only at *); omega) | (intro x h1 h2; exfalso; have h4 := h2.2; (try dsimp only at *); omega) | (intro x h1 h2; exact ⟨_, rfl, h2⟩) | (intro x h1 h2; have h4 := h2.1; have h5 := h2.2; exfalso; omega) | (intro x h1 h2; exact h2.1) | (intro x h1 h2; rcases h2.1 with h3 | h3; exact h3; exfalso; omega) | (intro x h1 h2; rcases h2 with h3 | h3; exact h3; exfalso; omega))
    replace hw := hw.chg k11 (by first | (intro x h1 h2; exact h2) | (intro x h0 h1 h2; exact hS x h1 h2) | (intro x h0 h1 h2; have h3 : _ = _ := h2; subst h3; exact hSR h1.1) | (intro x h1 h2; have h3 : _ = _ := h2; subst h3; assumption) | (intro x h1 h2; have h3 : _ = _ := h2; exfalso; omega) | (intro b h1 h2 h3; have h4 : _ = _ := h3; (try dsimp only at h2); exfalso; omega) | (intro h1; have h2 : _ = _ := h1; exfalso; omega) | (intro h1; have h2 : _ ≤ _ := h1; exfalso; omega) | (intros; exfalso; (try dsimp only at *); omega) | (intro b h1 h2 h3; exfalso; have h4 := h3.2; (try dsimp only at *); omega) | (intro h1; exfalso; have h4 := h1.2; (try dsimp only at *); omega) | (intro x h1 h2; exfalso; have h4 := h2.2; (try dsimp only at *); omega) | (intro x h1 h2; exact ⟨_, rfl, h2⟩) | (intro x h1 h2; have h4 := h2.1; have h5 := h2.2; exfalso; omega) | (intro x h1 h2; exact h2.1) | (intro x h1 h2; rcases h2.1 with h3 | h3; exact h3; exfalso; omega) | (intro x h1 h2; rcases h2 with h3 | h3; exact h3; exfalso; omega))
    replace hQ := hQ.chg k11 (by first | (intro x h1 h2; exact h2) | (intro x h0 h1 h2; exact hS x h1 h2) | (intro x h0 h1 h2; have h3 : _ = _ := h2; subst h3; exact hSR h1.1) | (intro x h1 h2; have h3 : _ = _ := h2; subst h3; assumption) | (intro x h1 h2; have h3 : _ = _ := h2; exfalso; omega) | (intro b h1 h2 h3; have h4 : _ = _ := h3; (try dsimp only at h2); exfalso; omega) | (intro h1; have h2 : _ = _ := h1; exfalso; omega) | (intro h1; have h2 : _ ≤ _ := h1; exfalso; omega) | (intros; exfalso; (try dsimp only at *); omega) | (intro b h1 h2 h3; exfalso; have h4 := h3.2; (try dsimp only at *); omega) | (intro h1; exfalso; have h4 := h1.2; (try dsimp only at *); omega) | (intro x h1 h2; exfalso; have h4 := h2.2; (try dsimp only at *); omega) | (intro x h1 h2; exact ⟨_, rfl, h2⟩) | (intro x h1 h2; have h4 := h2.1; have h5 := h2.2; exfalso; omega) | (intro x h1 h2; exact h2.1) | (intro x h1 h2; rcases h2.1 with h3 | h3; exact h3; exfalso; omega) | (intro x h1 h2; rcases h2 with h3 | h3; exact h3; exfalso; omega))
    refine WL.want rfl rfl rfl (?_)
    refine WL.neqF rfl rfl rfl (by first | rfl | omega | decide) ?_
    refine WL.pickF rfl rfl rfl (WL.move rfl rfl (WL.want rfl rfl rfl (WL.move rfl rfl (WL.want rfl rfl rfl (WL.move rfl rfl (WL.want rfl rfl rfl (?_)))))))
    refine WL.call eg_23 rfl rfl (ReplaceU hR11 hi7) ?_
    rintro v w12 ⟨rfl, hR12, k12⟩
    have zs_k12 := k12.size
    replace hf := hf.chg k12 (by first | (intro x h1 h2; exact h2) | (intro x h0 h1 h2; exact hS x h1 h2) | (intro x h0 h1 h2; have h3 : _ = _ := h2; subst h3; exact hSR h1.1) | (intro x h1 h2; have h3 : _ = _ := h2; subst h3; assumption) | (intro x h1 h2; have h3 : _ = _ := h2; exfalso; omega) | (intro b h1 h2 h3; have h4 : _ = _ := h3; (try dsimp only at h2); exfalso; omega) | (intro h1; have h2 : _ = _ := h1; exfalso; omega) | (intro h1; have h2 : _ ≤ _ := h1; exfalso; omega) | (intros; exfalso; (try dsimp only at *); omega) | (intro b h1 h2 h3; exfalso; have h4 := h3.2; (try dsimp only at *); omega) | (intro h1; exfalso; have h4 := h1.2; (try dsimp only at *); omega) | (intro x h1 h2; exfalso; have h4 := h2.2; (try dsimp only at *); omega) | (intro x h1 h2; exact ⟨_, rfl, h2⟩) | (intro x h1 h2; have h4 := h2.1; have h5 := h2.2; exfalso; omega) | (intro x h1 h2; exact h2.1) | (intro x h1 h2; rcases h2.1 with h3 | h3; exact h3; exfalso; omega) | (intro x h1 h2; rcases h2 with h3 | h3; exact h3; exfalso; omega))
    replace hp := hp.chg k12 (by first | (intro x h1 h2; exact h2) | (intro x h0 h1 h2; exact hS x h1 h2) | (intro x h0 h1 h2; have h3 : _ = _ := h2; subst h3; exact hSR h1.1) | (intro x h1 h2; have h3 : _ = _ := h2; subst h3; assumption) | (intro x h1 h2; have h3 : _ = _ := h2; exfalso; omega) | (intro b h1 h2 h3; have h4 : _ = _ := h3; (try dsimp only at h2); exfalso; omega) | (intro h1; have h2 : _ = _ := h1; exfalso; omega) | (intro h1; have h2 : _ ≤ _ := h1; exfalso; omega) | (intros; exfalso; (try dsimp only at *); omega) | (intro b h1 h2 h3; exfalso; have h4 := h3.2; (try dsimp only at *); omega) | (intro h1; exfalso; have h4 := h1.2; (try dsimp only at *); omega) | (intro x h1 h2; exfalso; have h4 := h2.2; (try dsimp only at *); omega) | (intro x h1 h2; exact ⟨_, rfl, h2⟩) | (intro x h1 h2; have h4 := h2.1; have h5 := h2.2; exfalso; omega) | (intro x h1 h2; exact h2.1) | (intro x h1 h2; rcases h2.1 with h3 | h3; exact h3; exfalso; omega) | (intro x h1 h2; rcases h2 with h3 | h3; exact h3; exfalso; omega))
    replace hw := hw.chg k12 (by first | (intro x h1 h2; exact h2) | (intro x h0 h1 h2; exact hS x h1 h2) | (intro x h0 h1 h2; have h3 : _ = _ := h2; subst h3; exact hSR h1.1) | (intro x h1 h2; have h3 : _ = _ := h2; subst h3; assumption) | (intro x h1 h2; have h3 : _ = _ := h2; exfalso; omega) | (intro b h1 h2 h3; have h4 : _ = _ := h3; (try dsimp only at h2); exfalso; omega) | (intro h1; have h2 : _ = _ := h1; exfalso; omega) | (intro h1; have h2 : _ ≤ _ := h1; exfalso; omega) | (intros; exfalso; (try dsimp only at *); omega) | (intro b h1 h2 h3; exfalso; have h4 := h3.2; (try dsimp only at *); omega) | (intro h1; exfalso; have h4 := h1.2; (try dsimp only at *); omega) | (intro x h1 h2; exfalso; have h4 := h2.2; (try dsimp only at *); omega) | (intro x h1 h2; exact ⟨_, rfl, h2⟩) | (intro x h1 h2; have h4 := h2.1; have h5 := h2.2; exfalso; omega) | (intro x h1 h2; exact h2.1) | (intro x h1 h2; rcases h2.1 with h3 | h3; exact h3; exfalso; omega) | (intro x h1 h2; rcases h2 with h3 | h3; exact h3; exfalso; omega))
    replace hQ := hQ.chg k12 (by first | (intro x h1 h2; exact h2) | (intro x h0 h1 h2; exact hS x h1 h2) | (intro x h0 h1 h2; have h3 : _ = _ := h2; subst h3; exact hSR h1.1) | (intro x h1 h2; have h3 : _ = _ := h2; subst h3; assumption) | (intro x h1 h2; have h3 : _ = _ := h2; exfalso; omega) | (intro b h1 h2 h3; have h4 : _ = _ := h3; (try dsimp only at h2); exfalso; omega) | (intro h1; have h2 : _ = _ := h1; exfalso; omega) | (intro h1; have h2 : _ ≤ _ := h1; exfalso; omega) | (intros; exfalso; (try dsimp only at *); omega) | (intro b h1 h2 h3; exfalso; have h4 := h3.2; (try dsimp only at *); omega) | (intro h1; exfalso; have h4 := h1.2; (try dsimp only at *); omega) | (intro x h1 h2; exfalso; have h4 := h2.2; (try dsimp only at *); omega) | (intro x h1 h2; exact ⟨_, rfl, h2⟩) | (intro x h1 h2; have h4 := h2.1; have h5 := h2.2; exfalso; omega) | (intro x h1 h2; exact h2.1) | (intro x h1 h2; rcases h2.1 with h3 | h3; exact h3; exfalso; omega) | (intro x h1 h2; rcases h2 with h3 | h3; exact h3; exfalso; omega))
    obtain ⟨s8, es8⟩ : ∃ s8, s8 = replaceS s7 (l : Int) := ⟨_, rfl⟩
    rw [← es8] at hR12 hE
    obtain ⟨ed, en, eu, eg, eh⟩ := hE
    refine WL.want rfl rfl rfl (?_)
    refine WL.neqF rfl rfl rfl (by first | rfl | omega | decide) ?_
    refine WL.pickF rfl rfl rfl (WL.move rfl rfl (WL.want rfl rfl rfl (WL.move rfl rfl (WL.want rfl rfl rfl (WL.move rfl rfl (WL.want rfl rfl rfl (?_)))))))
    refine WL.call eg_22 rfl rfl (Gone_calls hR12 (l : Int)) ?_
    rintro v w13 ⟨rfl, k13⟩
    rw [eg, Bool.and_false]
    have zs_k13 := k13.size
    replace hf := hf.pure k13
    replace hp := hp.pure k13
    replace hw := hw.pure k13
    replace hQ := hQ.pure k13
    replace hR12 := hR12.pure k13
    refine WL.pickF rfl rfl rfl (WL.nil (WX.then_normal (WC.cond_false rfl (WC.skip (WX.then_normal (WC.seq (WC.seq (?_))))))))
    refine WC.region (WL.assign rfl rfl (WL.nil (WX.then_normal (WC.block (?_)))))
    have zw13 := hw.size
    refine WC.loop (σ := Nat) (fun d => [(1, .slice a1 l1.length c1), (2, vi (l : Int)), (7, ptr R), (9, .slice (some ⟨gl, 0, none⟩) L.length 40), (12, vi (d : Int))]) (fun d w' => d ≤ 5 ∧ RSl (· < w.heap.size) w' ei a1 c1 l1 ∧ Chg Nob w w' ∧ Row (· = gl) w' 3 ei (some ⟨gl, 0, none⟩) 40 L ∧ RK (fun x => w.heap.size ≤ x ∧ x ≠ gl) w' R s8 ∧ w13.heap.size ≤ w'.heap.size) (fun d => 5 - d) 0 ⟨rfl, rfl, rfl, rfl, rfl, trivial⟩ ⟨by omega, hp, hw, hQ, hR12, Nat.le_refl _⟩ ?_
    clear hf hp hw hR12 hQ
    rintro d w1 ⟨hd, hp, hw, hQ, hR, zl⟩
    refine WC.seq (WC.seq (WC.region (WL.move rfl rfl (?_))))
    refine WL.lss? rfl rfl rfl (fun h121 => ?_) (fun h121 => ?_)
    ·
      refine WL.nil (WX.then_normal (WC.cond_true rfl (WC.skip (WX.then_normal (WC.seq (WC.block (WC.seq (?_))))))))
      refine WC.region (WL.assign rfl rfl (WL.nil (WX.then_normal (WC.block (?_)))))
      refine WC.loop (σ := Nat) (fun a => [(1, .slice a1 l1.length c1), (2, vi (l : Int)), (7, ptr R), (9, .slice (some ⟨gl, 0, none⟩) L.length 40), (12, vi (d : Int)), (13, vi (a : Int))]) (fun a w' => a ≤ 8 ∧ RSl (· < w.heap.size) w' ei a1 c1 l1 ∧ Chg Nob w w' ∧ Row (· = gl) w' 3 ei (some ⟨gl, 0, none⟩) 40 L ∧ RK (fun x => w.heap.size ≤ x ∧ x ≠ gl) w' R s8 ∧ w13.heap.size ≤ w'.heap.size) (fun a => 8 - a) 0 ⟨rfl, rfl, rfl, rfl, rfl, rfl, trivial⟩ ⟨by omega, hp, hw, hQ, hR, zl⟩ ?_
      clear hp hw hR hQ zl
      rintro a w1 ⟨ha, hp, hw, hQ, hR, zl⟩
      refine WC.seq (WC.seq (WC.region (WL.move rfl rfl (?_))))
      refine WL.lss? rfl rfl rfl (fun h125 => ?_) (fun h125 => ?_)
      ·
        refine WL.nil (WX.then_normal (WC.cond_true rfl (WC.skip (WX.then_normal (WC.seq (WC.block (WC.seq (?_))))))))
        refine WC.region (WL.move rfl rfl (WL.move rfl rfl (WL.move rfl rfl (?_))))
        have hd5 : d < 5 := by omega
        have ha8 : a < 8 := by omega
        refine WL.call eg_16 rfl rfl (ReadU (d := (d : Int)) (a := (a : Int)) hR eu (by unfold inS; rw [ed, en]; omega) (eg d)) ?_
        rintro v w14 ⟨⟨r, rfl, hx, hq⟩, k14⟩
        rw [eh d a hd5 ha8] at hx
        simp only [keep0] at hx
        have zs_k14 := k14.size
        replace hp := hp.pure k14
        replace hw := hw.pure k14
        replace hQ := hQ.pure k14
        replace hR := hR.pure k14
        refine WL.move rfl rfl (WL.extract rfl rfl rfl (?_))
        refine WL.extract rfl rfl rfl ?_
        refine WL.assign rfl rfl (WL.assign rfl rfl (WL.nil (WX.then_normal (WC.seq (WC.region (?_))))))
        refine WL.make (e := eb) (0 : UInt8) 128 128 Try.underlying30 info_5 rfl rfl rfl ⟨rfl, rfl, Nat.le_refl _⟩ (by decide) rfl ?_
        intro g15 w15 hm k15 z15 eg15
        have zs_k15 := k15.size
        replace hp := hp.pure k15
        replace hw := hw.pure k15
        replace hQ := hQ.pure k15
        replace hR := hR.pure k15
        replace hq := hq.pure k15
        refine WL.toStr Try.underlying30 Try.underlying5 Try.underlying9 hm.rsl rfl rfl (WL.assign rfl rfl (WL.nil (WX.then_normal (WC.seq (WC.seq (WC.region (WL.move rfl rfl (?_))))))))
        refine WL.move rfl rfl (WL.mul64 rfl rfl (by first | omega | (constructor <;> omega)) rfl (WL.move rfl rfl (WL.add64 rfl rfl (by first | omega | (constructor <;> omega)) rfl (?_))))
        obtain ⟨u, hu⟩ : ∃ u, L[d * 8 + a]? = some u := ⟨_, List.getElem?_eq_getElem (by omega)⟩
        have huD : L.getD (d * 8 + a) 0 = u := by rw [List.getD_eq_getElem?_getD, hu]; rfl
        have hur := hL.val (d * 8 + a)
        rw [huD] at hur hx
        refine WL.indexT Try.underlying22 Try.sizeOf3 hQ.rsl rfl rfl ⟨hu, (by omega)⟩ rfl ?_
        intro b_1 o_1 hc_1
        refine WL.load Try.isAgg3 rfl (hc_1 0 _ rfl) rfl (?_)
        refine WL.gtr? rfl rfl rfl (fun h144 => ?_) (fun h144 => ?_)
        ·
          refine WL.move rfl rfl (WL.want rfl rfl rfl (WL.move rfl rfl (WL.want rfl rfl rfl (WL.move rfl rfl (WL.want rfl rfl rfl (?_))))))
          refine WL.neq? rfl rfl rfl (fun h148 => ?_) (fun h148 => ?_)
          ·
            refine WL.pickT rfl rfl rfl (WL.nil (WX.then_normal (WC.cond_true rfl (WC.region (WL.move rfl rfl (WL.move rfl rfl (WL.mul64 rfl rfl (by first | omega | (constructor <;> omega)) rfl (?_))))))))
            refine WL.move rfl rfl (WL.add64 rfl rfl (by first | omega | (constructor <;> omega)) rfl (?_))
            refine WL.indexT Try.underlying22 Try.sizeOf3 hQ.rsl rfl rfl ⟨hu, (by omega)⟩ rfl ?_
            intro b_2 o_2 hc_2
            refine WL.load Try.isAgg3 rfl (hc_2 0 _ rfl) rfl (WL.sub64 rfl rfl (by first | omega | (constructor <;> omega)) rfl (?_))
            refine WL.call eg_14 rfl rfl (hBc (u - 1) _) ?_
            rintro v w16 ⟨⟨g16, rfl, hq16, hg161, hg162⟩, k16⟩
            have zs_k16 := k16.size
            replace hp := hp.pure k16
            replace hw := hw.pure k16
            replace hQ := hQ.pure k16
            replace hR := hR.pure k16
            replace hq := hq.pure k16
            replace hm := hm.pure k16
            refine WL.toStr Try.underlying30 Try.underlying5 Try.underlying9 hq16.rsl rfl rfl (WL.assign rfl rfl (WL.nil (WX.then_normal (WC.seq (WC.seq (WC.region (WL.move rfl rfl (?_))))))))
            refine WL.eql? rfl rfl rfl (fun h161 => ?_) (fun h161 => ?_)
            ·
              refine WL.move rfl rfl (WL.want rfl rfl rfl (WL.move rfl rfl (WL.want rfl rfl rfl (?_))))
              refine WL.eql? rfl rfl rfl (fun h164 => ?_) (fun h164 => ?_)
              ·
                refine WL.pickT rfl rfl rfl (WL.move rfl rfl (WL.want rfl rfl rfl (WL.move rfl rfl (WL.want rfl rfl rfl (WL.move rfl rfl (WL.want rfl rfl rfl (?_)))))))
                refine WL.neq? rfl rfl rfl (fun h169 => ?_) (fun h169 => ?_)
                ·
                  refine WL.pickT rfl rfl rfl (WL.move rfl rfl (WL.want rfl rfl rfl (WL.move rfl rfl (WL.want rfl rfl rfl (WL.len Try.underlying22 rfl rfl (WL.want rfl rfl rfl (?_)))))))
                  refine WL.gtr? rfl rfl rfl (fun h174 => ?_) (fun h174 => ?_)
                  ·
                    refine WL.pickT rfl rfl rfl (WL.move rfl rfl (WL.want rfl rfl rfl (WL.move rfl rfl (WL.want rfl rfl rfl (?_)))))
                    obtain ⟨y, hy⟩ : ∃ y, l1[0]? = some y := ⟨_, List.getElem?_eq_getElem (by omega)⟩
                    have hyD : l1.getD 0 0 = y := by rw [List.getD_eq_getElem?_getD, hy]; rfl
                    have ht := tmod_two y
                    refine WL.indexT Try.underlying22 Try.sizeOf3 hp rfl rfl ⟨hy, rfl⟩ rfl ?_
                    intro b_3 o_3 hc_3
                    refine WL.want rfl rfl rfl (WL.load Try.isAgg3 rfl (hc_3 0 _ rfl) rfl (WL.want rfl rfl rfl (?_)))
                    refine WL.remk rfl rfl (by decide) rfl ?_
                    refine WL.want rfl rfl rfl (?_)
                    refine WL.neq? rfl rfl rfl (fun h181 => ?_) (fun h181 => ?_)
                    ·
                      refine WL.pickT rfl rfl rfl (WL.nil (WX.then_normal (WC.cond_true rfl (WC.region (?_)))))
                      refine WL.call eg_14 rfl rfl (hBc 5 _) ?_
                      rintro v w17 ⟨⟨g17, rfl, hq17, hg171, hg172⟩, k17⟩
                      have zs_k17 := k17.size
                      replace hp := hp.pure k17
                      replace hw := hw.pure k17
                      replace hQ := hQ.pure k17
                      replace hR := hR.pure k17
                      replace hq := hq.pure k17
                      replace hm := hm.pure k17
                      replace hq16 := hq16.pure k17
                      refine WL.toStr Try.underlying30 Try.underlying5 Try.underlying9 hq17.rsl rfl rfl (WL.assign rfl rfl (WL.nil (WX.then_normal (WC.seq (WC.region (WL.move rfl rfl (?_)))))))
                      refine WL.neqF rfl rfl rfl (by first | rfl | omega | decide) ?_
                      refine WL.move rfl rfl (WL.want rfl rfl rfl (WL.move rfl rfl (WL.want rfl rfl rfl (WL.toStr Try.underlying30 Try.underlying5 Try.underlying9 hq rfl rfl (WL.want rfl rfl rfl (WL.move rfl rfl (WL.want rfl rfl rfl (?_))))))))
                      refine WL.sneqF rfl rfl rfl ((by rw [hx]; refine congrArg (fun l : List UInt8 => (⟨l.toArray⟩ : ByteArray)) ?_; split <;> first | rfl | (exfalso; omega) | (split <;> first | rfl | (exfalso; omega)))) ?_
                      refine WL.pickF rfl rfl rfl (WL.nil (WX.then_normal (WC.cond_false rfl (WC.skip (WX.block_normal (WX.then_normal (WC.region (?_))))))))
                      refine WL.move rfl rfl (WL.add64 rfl rfl (by first | omega | (constructor <;> omega)) rfl (WL.assign rfl rfl (WL.nil (?_))))
                      first
                        | exact WX.loop_next (i + 1, L.set (i % 5 * 8 + i * 3 % 8) (1 + (k : Int))) ⟨rfl, rfl, rfl, rfl, by simp [List.lookup, ev, List.length_set], rfl, trivial⟩ ⟨by show i + 1 ≤ 80; omega, hf, hp, hw, hQ, by omega, s3, hL3, sw3, hR3⟩ (by show 80 - (i + 1) < 80 - i; omega)
                        | exact WX.loop_next (a + 1) ⟨rfl, rfl, rfl, rfl, rfl, rfl, trivial⟩ ⟨by omega, hp, hw, hQ, hR, by omega⟩ (by omega)
                        | exact WX.loop_next (d + 1) ⟨rfl, rfl, rfl, rfl, rfl, trivial⟩ ⟨by omega, hp, hw, hQ, hR, by omega⟩ (by omega)
                    ·
                      refine WL.pickT rfl rfl rfl (WL.nil (WX.then_normal (WC.cond_false rfl (WC.skip (WX.then_normal (WC.seq (WC.region (?_))))))))
                      refine WL.move rfl rfl (?_)
                      refine WL.neqF rfl rfl rfl (by first | rfl | omega | decide) ?_
                      refine WL.move rfl rfl (WL.want rfl rfl rfl (WL.move rfl rfl (WL.want rfl rfl rfl (WL.toStr Try.underlying30 Try.underlying5 Try.underlying9 hq rfl rfl (WL.want rfl rfl rfl (WL.move rfl rfl (WL.want rfl rfl rfl (?_))))))))
                      refine WL.sneqF rfl rfl rfl ((by rw [hx]; refine congrArg (fun l : List UInt8 => (⟨l.toArray⟩ : ByteArray)) ?_; split <;> first | rfl | (exfalso; omega) | (split <;> first | rfl | (exfalso; omega)))) ?_
                      refine WL.pickF rfl rfl rfl (WL.nil (WX.then_normal (WC.cond_false rfl (WC.skip (WX.block_normal (WX.then_normal (WC.region (?_))))))))
                      refine WL.move rfl rfl (WL.add64 rfl rfl (by first | omega | (constructor <;> omega)) rfl (WL.assign rfl rfl (WL.nil (?_))))
                      first
                        | exact WX.loop_next (i + 1, L.set (i % 5 * 8 + i * 3 % 8) (1 + (k : Int))) ⟨rfl, rfl, rfl, rfl, by simp [List.lookup, ev, List.length_set], rfl, trivial⟩ ⟨by show i + 1 ≤ 80; omega, hf, hp, hw, hQ, by omega, s3, hL3, sw3, hR3⟩ (by show 80 - (i + 1) < 80 - i; omega)
                        | exact WX.loop_next (a + 1) ⟨rfl, rfl, rfl, rfl, rfl, rfl, trivial⟩ ⟨by omega, hp, hw, hQ, hR, by omega⟩ (by omega)
                        | exact WX.loop_next (d + 1) ⟨rfl, rfl, rfl, rfl, rfl, trivial⟩ ⟨by omega, hp, hw, hQ, hR, by omega⟩ (by omega)
                  ·
                    refine WL.pickT rfl rfl rfl (WL.move rfl rfl (WL.pass rfl rfl rfl rfl (WL.pass rfl rfl rfl rfl (WL.pass rfl rfl rfl rfl (WL.pass rfl rfl rfl rfl (WL.pass rfl rfl rfl rfl (WL.pickF rfl rfl rfl (?_))))))))
                    refine WL.nil (WX.then_normal (WC.cond_false rfl (WC.skip (WX.then_normal (WC.seq (WC.region (WL.move rfl rfl (?_))))))))
                    refine WL.neqF rfl rfl rfl (by first | rfl | omega | decide) ?_
                    refine WL.move rfl rfl (WL.want rfl rfl rfl (WL.move rfl rfl (WL.want rfl rfl rfl (WL.toStr Try.underlying30 Try.underlying5 Try.underlying9 hq rfl rfl (WL.want rfl rfl rfl (WL.move rfl rfl (WL.want rfl rfl rfl (?_))))))))
                    refine WL.sneqF rfl rfl rfl ((by rw [hx]; refine congrArg (fun l : List UInt8 => (⟨l.toArray⟩ : ByteArray)) ?_; split <;> first | rfl | (exfalso; omega) | (split <;> first | rfl | (exfalso; omega)))) ?_
                    refine WL.pickF rfl rfl rfl (WL.nil (WX.then_normal (WC.cond_false rfl (WC.skip (WX.block_normal (WX.then_normal (WC.region (?_))))))))
                    refine WL.move rfl rfl (WL.add64 rfl rfl (by first | omega | (constructor <;> omega)) rfl (WL.assign rfl rfl (WL.nil (?_))))
                    first
                      | exact WX.loop_next (i + 1, L.set (i % 5 * 8 + i * 3 % 8) (1 + (k : Int))) ⟨rfl, rfl, rfl, rfl, by simp [List.lookup, ev, List.length_set], rfl, trivial⟩ ⟨by show i + 1 ≤ 80; omega, hf, hp, hw, hQ, by omega, s3, hL3, sw3, hR3⟩ (by show 80 - (i + 1) < 80 - i; omega)
                      | exact WX.loop_next (a + 1) ⟨rfl, rfl, rfl, rfl, rfl, rfl, trivial⟩ ⟨by omega, hp, hw, hQ, hR, by omega⟩ (by omega)
                      | exact WX.loop_next (d + 1) ⟨rfl, rfl, rfl, rfl, rfl, trivial⟩ ⟨by omega, hp, hw, hQ, hR, by omega⟩ (by omega)
                ·
                  refine WL.pickT rfl rfl rfl (WL.move rfl rfl (WL.pass rfl rfl rfl rfl (WL.pass rfl rfl rfl rfl (WL.pass rfl rfl rfl rfl (WL.pickF rfl rfl rfl (WL.move rfl rfl (WL.pass rfl rfl rfl rfl (?_))))))))
                  refine WL.pass rfl rfl rfl rfl (WL.pass rfl rfl rfl rfl (WL.pass rfl rfl rfl rfl (WL.pass rfl rfl rfl rfl (WL.pickF rfl rfl rfl (WL.nil (WX.then_normal (WC.cond_false rfl (?_))))))))
                  refine WC.skip (WX.then_normal (WC.seq (WC.region (WL.move rfl rfl (?_)))))
                  refine WL.neqF rfl rfl rfl (by first | rfl | omega | decide) ?_
                  refine WL.move rfl rfl (WL.want rfl rfl rfl (WL.move rfl rfl (WL.want rfl rfl rfl (WL.toStr Try.underlying30 Try.underlying5 Try.underlying9 hq rfl rfl (WL.want rfl rfl rfl (WL.move rfl rfl (WL.want rfl rfl rfl (?_))))))))
                  refine WL.sneqF rfl rfl rfl ((by rw [hx]; refine congrArg (fun l : List UInt8 => (⟨l.toArray⟩ : ByteArray)) ?_; split <;> first | rfl | (exfalso; omega) | (split <;> first | rfl | (exfalso; omega)))) ?_
                  refine WL.pickF rfl rfl rfl (WL.nil (WX.then_normal (WC.cond_false rfl (WC.skip (WX.block_normal (WX.then_normal (WC.region (?_))))))))
                  refine WL.move rfl rfl (WL.add64 rfl rfl (by first | omega | (constructor <;> omega)) rfl (WL.assign rfl rfl (WL.nil (?_))))
                  first
                    | exact WX.loop_next (i + 1, L.set (i % 5 * 8 + i * 3 % 8) (1 + (k : Int))) ⟨rfl, rfl, rfl, rfl, by simp [List.lookup, ev, List.length_set], rfl, trivial⟩ ⟨by show i + 1 ≤ 80; omega, hf, hp, hw, hQ, by omega, s3, hL3, sw3, hR3⟩ (by show 80 - (i + 1) < 80 - i; omega)
                    | exact WX.loop_next (a + 1) ⟨rfl, rfl, rfl, rfl, rfl, rfl, trivial⟩ ⟨by omega, hp, hw, hQ, hR, by omega⟩ (by omega)
                    | exact WX.loop_next (d + 1) ⟨rfl, rfl, rfl, rfl, rfl, trivial⟩ ⟨by omega, hp, hw, hQ, hR, by omega⟩ (by omega)
              ·
                refine WL.pickT rfl rfl rfl (WL.move rfl rfl (WL.pass rfl rfl rfl rfl (WL.pass rfl rfl rfl rfl (WL.pass rfl rfl rfl rfl (WL.pickF rfl rfl rfl (WL.move rfl rfl (WL.pass rfl rfl rfl rfl (?_))))))))
                refine WL.pass rfl rfl rfl rfl (WL.pass rfl rfl rfl rfl (WL.pickF rfl rfl rfl (WL.move rfl rfl (WL.pass rfl rfl rfl rfl (WL.pass rfl rfl rfl rfl (WL.pass rfl rfl rfl rfl (WL.pass rfl rfl rfl rfl (?_))))))))
                refine WL.pass rfl rfl rfl rfl (WL.pickF rfl rfl rfl (WL.nil (WX.then_normal (WC.cond_false rfl (WC.skip (WX.then_normal (WC.seq (?_))))))))
                refine WC.region (WL.move rfl rfl (?_))
                refine WL.neqF rfl rfl rfl (by first | rfl | omega | decide) ?_
                refine WL.move rfl rfl (WL.want rfl rfl rfl (WL.move rfl rfl (WL.want rfl rfl rfl (WL.toStr Try.underlying30 Try.underlying5 Try.underlying9 hq rfl rfl (WL.want rfl rfl rfl (WL.move rfl rfl (WL.want rfl rfl rfl (?_))))))))
                refine WL.sneqF rfl rfl rfl ((by rw [hx]; refine congrArg (fun l : List UInt8 => (⟨l.toArray⟩ : ByteArray)) ?_; split <;> first | rfl | (exfalso; omega) | (split <;> first | rfl | (exfalso; omega)))) ?_
                refine WL.pickF rfl rfl rfl (WL.nil (WX.then_normal (WC.cond_false rfl (WC.skip (WX.block_normal (WX.then_normal (WC.region (?_))))))))
                refine WL.move rfl rfl (WL.add64 rfl rfl (by first | omega | (constructor <;> omega)) rfl (WL.assign rfl rfl (WL.nil (?_))))
                first
                  | exact WX.loop_next (i + 1, L.set (i % 5 * 8 + i * 3 % 8) (1 + (k : Int))) ⟨rfl, rfl, rfl, rfl, by simp [List.lookup, ev, List.length_set], rfl, trivial⟩ ⟨by show i + 1 ≤ 80; omega, hf, hp, hw, hQ, by omega, s3, hL3, sw3, hR3⟩ (by show 80 - (i + 1) < 80 - i; omega)
                  | exact WX.loop_next (a + 1) ⟨rfl, rfl, rfl, rfl, rfl, rfl, trivial⟩ ⟨by omega, hp, hw, hQ, hR, by omega⟩ (by omega)
                  | exact WX.loop_next (d + 1) ⟨rfl, rfl, rfl, rfl, rfl, trivial⟩ ⟨by omega, hp, hw, hQ, hR, by omega⟩ (by omega)
            ·
              refine WL.move rfl rfl (WL.pass rfl rfl rfl rfl (WL.pass rfl rfl rfl rfl (WL.pickF rfl rfl rfl (WL.move rfl rfl (WL.pass rfl rfl rfl rfl (WL.pass rfl rfl rfl rfl (WL.pass rfl rfl rfl rfl (?_))))))))
              refine WL.pickF rfl rfl rfl (WL.move rfl rfl (WL.pass rfl rfl rfl rfl (WL.pass rfl rfl rfl rfl (WL.pass rfl rfl rfl rfl (WL.pickF rfl rfl rfl (WL.move rfl rfl (WL.pass rfl rfl rfl rfl (?_))))))))
              refine WL.pass rfl rfl rfl rfl (WL.pass rfl rfl rfl rfl (WL.pass rfl rfl rfl rfl (WL.pass rfl rfl rfl rfl (WL.pickF rfl rfl rfl (WL.nil (WX.then_normal (WC.cond_false rfl (?_))))))))
              refine WC.skip (WX.then_normal (WC.seq (WC.region (WL.move rfl rfl (?_)))))
              refine WL.neqF rfl rfl rfl (by first | rfl | omega | decide) ?_
              refine WL.move rfl rfl (WL.want rfl rfl rfl (WL.move rfl rfl (WL.want rfl rfl rfl (WL.toStr Try.underlying30 Try.underlying5 Try.underlying9 hq rfl rfl (WL.want rfl rfl rfl (WL.move rfl rfl (WL.want rfl rfl rfl (?_))))))))
              refine WL.sneqF rfl rfl rfl ((by rw [hx]; refine congrArg (fun l : List UInt8 => (⟨l.toArray⟩ : ByteArray)) ?_; split <;> first | rfl | (exfalso; omega) | (split <;> first | rfl | (exfalso; omega)))) ?_
              refine WL.pickF rfl rfl rfl (WL.nil (WX.then_normal (WC.cond_false rfl (WC.skip (WX.block_normal (WX.then_normal (WC.region (?_))))))))
              refine WL.move rfl rfl (WL.add64 rfl rfl (by first | omega | (constructor <;> omega)) rfl (WL.assign rfl rfl (WL.nil (?_))))
              first
                | exact WX.loop_next (i + 1, L.set (i % 5 * 8 + i * 3 % 8) (1 + (k : Int))) ⟨rfl, rfl, rfl, rfl, by simp [List.lookup, ev, List.length_set], rfl, trivial⟩ ⟨by show i + 1 ≤ 80; omega, hf, hp, hw, hQ, by omega, s3, hL3, sw3, hR3⟩ (by show 80 - (i + 1) < 80 - i; omega)
                | exact WX.loop_next (a + 1) ⟨rfl, rfl, rfl, rfl, rfl, rfl, trivial⟩ ⟨by omega, hp, hw, hQ, hR, by omega⟩ (by omega)
                | exact WX.loop_next (d + 1) ⟨rfl, rfl, rfl, rfl, rfl, trivial⟩ ⟨by omega, hp, hw, hQ, hR, by omega⟩ (by omega)
          ·
            refine WL.pickT rfl rfl rfl (WL.nil (WX.then_normal (WC.cond_false rfl (WC.skip (WX.then_normal (WC.seq (WC.seq (?_))))))))
            refine WC.region (WL.move rfl rfl (?_))
            refine WL.eql? rfl rfl rfl (fun h161 => ?_) (fun h161 => ?_)
            ·
              refine WL.move rfl rfl (WL.want rfl rfl rfl (WL.move rfl rfl (WL.want rfl rfl rfl (?_))))
              refine WL.eql? rfl rfl rfl (fun h164 => ?_) (fun h164 => ?_)
              ·
                refine WL.pickT rfl rfl rfl (WL.move rfl rfl (WL.want rfl rfl rfl (WL.move rfl rfl (WL.want rfl rfl rfl (WL.move rfl rfl (WL.want rfl rfl rfl (?_)))))))
                refine WL.neq? rfl rfl rfl (fun h169 => ?_) (fun h169 => ?_)
                ·
                  refine WL.pickT rfl rfl rfl (WL.move rfl rfl (WL.want rfl rfl rfl (WL.move rfl rfl (WL.want rfl rfl rfl (WL.len Try.underlying22 rfl rfl (WL.want rfl rfl rfl (?_)))))))
                  refine WL.gtr? rfl rfl rfl (fun h174 => ?_) (fun h174 => ?_)
                  ·
                    refine WL.pickT rfl rfl rfl (WL.move rfl rfl (WL.want rfl rfl rfl (WL.move rfl rfl (WL.want rfl rfl rfl (?_)))))
                    obtain ⟨y, hy⟩ : ∃ y, l1[0]? = some y := ⟨_, List.getElem?_eq_getElem (by omega)⟩
                    have hyD : l1.getD 0 0 = y := by rw [List.getD_eq_getElem?_getD, hy]; rfl
                    have ht := tmod_two y
                    refine WL.indexT Try.underlying22 Try.sizeOf3 hp rfl rfl ⟨hy, rfl⟩ rfl ?_
                    intro b_2 o_2 hc_2
                    refine WL.want rfl rfl rfl (WL.load Try.isAgg3 rfl (hc_2 0 _ rfl) rfl (WL.want rfl rfl rfl (?_)))
                    refine WL.remk rfl rfl (by decide) rfl ?_
                    refine WL.want rfl rfl rfl (?_)
                    refine WL.neq? rfl rfl rfl (fun h181 => ?_) (fun h181 => ?_)
                    ·
                      refine WL.pickT rfl rfl rfl (WL.nil (WX.then_normal (WC.cond_true rfl (WC.region (?_)))))
                      refine WL.call eg_14 rfl rfl (hBc 5 _) ?_
                      rintro v w17 ⟨⟨g17, rfl, hq17, hg171, hg172⟩, k17⟩
                      have zs_k17 := k17.size
                      replace hp := hp.pure k17
                      replace hw := hw.pure k17
                      replace hQ := hQ.pure k17
                      replace hR := hR.pure k17
                      replace hq := hq.pure k17
                      replace hm := hm.pure k17
                      refine WL.toStr Try.underlying30 Try.underlying5 Try.underlying9 hq17.rsl rfl rfl (WL.assign rfl rfl (WL.nil (WX.then_normal (WC.seq (WC.region (WL.move rfl rfl (?_)))))))
                      refine WL.neqF rfl rfl rfl (by first | rfl | omega | decide) ?_
                      refine WL.move rfl rfl (WL.want rfl rfl rfl (WL.move rfl rfl (WL.want rfl rfl rfl (WL.toStr Try.underlying30 Try.underlying5 Try.underlying9 hq rfl rfl (WL.want rfl rfl rfl (WL.move rfl rfl (WL.want rfl rfl rfl (?_))))))))
                      refine WL.sneqF rfl rfl rfl ((by rw [hx]; refine congrArg (fun l : List UInt8 => (⟨l.toArray⟩ : ByteArray)) ?_; split <;> first | rfl | (exfalso; omega) | (split <;> first | rfl | (exfalso; omega)))) ?_
                      refine WL.pickF rfl rfl rfl (WL.nil (WX.then_normal (WC.cond_false rfl (WC.skip (WX.block_normal (WX.then_normal (WC.region (?_))))))))
                      refine WL.move rfl rfl (WL.add64 rfl rfl (by first | omega | (constructor <;> omega)) rfl (WL.assign rfl rfl (WL.nil (?_))))
                      first
                        | exact WX.loop_next (i + 1, L.set (i % 5 * 8 + i * 3 % 8) (1 + (k : Int))) ⟨rfl, rfl, rfl, rfl, by simp [List.lookup, ev, List.length_set], rfl, trivial⟩ ⟨by show i + 1 ≤ 80; omega, hf, hp, hw, hQ, by omega, s3, hL3, sw3, hR3⟩ (by show 80 - (i + 1) < 80 - i; omega)
                        | exact WX.loop_next (a + 1) ⟨rfl, rfl, rfl, rfl, rfl, rfl, trivial⟩ ⟨by omega, hp, hw, hQ, hR, by omega⟩ (by omega)
                        | exact WX.loop_next (d + 1) ⟨rfl, rfl, rfl, rfl, rfl, trivial⟩ ⟨by omega, hp, hw, hQ, hR, by omega⟩ (by omega)
                    ·
                      refine WL.pickT rfl rfl rfl (WL.nil (WX.then_normal (WC.cond_false rfl (WC.skip (WX.then_normal (WC.seq (WC.region (?_))))))))
                      refine WL.move rfl rfl (?_)
                      refine WL.neqF rfl rfl rfl (by first | rfl | omega | decide) ?_
                      refine WL.move rfl rfl (WL.want rfl rfl rfl (WL.move rfl rfl (WL.want rfl rfl rfl (WL.toStr Try.underlying30 Try.underlying5 Try.underlying9 hq rfl rfl (WL.want rfl rfl rfl (WL.move rfl rfl (WL.want rfl rfl rfl (?_))))))))
                      refine WL.sneqF rfl rfl rfl ((by rw [hx]; refine congrArg (fun l : List UInt8 => (⟨l.toArray⟩ : ByteArray)) ?_; split <;> first | rfl | (exfalso; omega) | (split <;> first | rfl | (exfalso; omega)))) ?_
                      refine WL.pickF rfl rfl rfl (WL.nil (WX.then_normal (WC.cond_false rfl (WC.skip (WX.block_normal (WX.then_normal (WC.region (?_))))))))
                      refine WL.move rfl rfl (WL.add64 rfl rfl (by first | omega | (constructor <;> omega)) rfl (WL.assign rfl rfl (WL.nil (?_))))
                      first
                        | exact WX.loop_next (i + 1, L.set (i % 5 * 8 + i * 3 % 8) (1 + (k : Int))) ⟨rfl, rfl, rfl, rfl, by simp [List.lookup, ev, List.length_set], rfl, trivial⟩ ⟨by show i + 1 ≤ 80; omega, hf, hp, hw, hQ, by omega, s3, hL3, sw3, hR3⟩ (by show 80 - (i + 1) < 80 - i; omega)
                        | exact WX.loop_next (a + 1) ⟨rfl, rfl, rfl, rfl, rfl, rfl, trivial⟩ ⟨by omega, hp, hw, hQ, hR, by omega⟩ (by omega)
                        | exact WX.loop_next (d + 1) ⟨rfl, rfl, rfl, rfl, rfl, trivial⟩ ⟨by omega, hp, hw, hQ, hR, by omega⟩ (by omega)
                  ·
                    refine WL.pickT rfl rfl rfl (WL.move rfl rfl (WL.pass rfl rfl rfl rfl (WL.pass rfl rfl rfl rfl (WL.pass rfl rfl rfl rfl (WL.pass rfl rfl rfl rfl (WL.pass rfl rfl rfl rfl (WL.pickF rfl rfl rfl (?_))))))))
                    refine WL.nil (WX.then_normal (WC.cond_false rfl (WC.skip (WX.then_normal (WC.seq (WC.region (WL.move rfl rfl (?_))))))))
                    refine WL.neqF rfl rfl rfl (by first | rfl | omega | decide) ?_
                    refine WL.move rfl rfl (WL.want rfl rfl rfl (WL.move rfl rfl (WL.want rfl rfl rfl (WL.toStr Try.underlying30 Try.underlying5 Try.underlying9 hq rfl rfl (WL.want rfl rfl rfl (WL.move rfl rfl (WL.want rfl rfl rfl (?_))))))))
                    refine WL.sneqF rfl rfl rfl ((by rw [hx]; refine congrArg (fun l : List UInt8 => (⟨l.toArray⟩ : ByteArray)) ?_; split <;> first | rfl | (exfalso; omega) | (split <;> first | rfl | (exfalso; omega)))) ?_
                    refine WL.pickF rfl rfl rfl (WL.nil (WX.then_normal (WC.cond_false rfl (WC.skip (WX.block_normal (WX.then_normal (WC.region (?_))))))))
                    refine WL.move rfl rfl (WL.add64 rfl rfl (by first | omega | (constructor <;> omega)) rfl (WL.assign rfl rfl (WL.nil (?_))))
                    first
                      | exact WX.loop_next (i + 1, L.set (i % 5 * 8 + i * 3 % 8) (1 + (k : Int))) ⟨rfl, rfl, rfl, rfl, by simp [List.lookup, ev, List.length_set], rfl, trivial⟩ ⟨by show i + 1 ≤ 80; omega, hf, hp, hw, hQ, by omega, s3, hL3, sw3, hR3⟩ (by show 80 - (i + 1) < 80 - i; omega)
                      | exact WX.loop_next (a + 1) ⟨rfl, rfl, rfl, rfl, rfl, rfl, trivial⟩ ⟨by omega, hp, hw, hQ, hR, by omega⟩ (by omega)
                      | exact WX.loop_next (d + 1) ⟨rfl, rfl, rfl, rfl, rfl, trivial⟩ ⟨by omega, hp, hw, hQ, hR, by omega⟩ (by omega)
                ·
                  refine WL.pickT rfl rfl rfl (WL.move rfl rfl (WL.pass rfl rfl rfl rfl (WL.pass rfl rfl rfl rfl (WL.pass rfl rfl rfl rfl (WL.pickF rfl rfl rfl (WL.move rfl rfl (WL.pass rfl rfl rfl rfl (?_))))))))
                  refine WL.pass rfl rfl rfl rfl (WL.pass rfl rfl rfl rfl (WL.pass rfl rfl rfl rfl (WL.pass rfl rfl rfl rfl (WL.pickF rfl rfl rfl (WL.nil (WX.then_normal (WC.cond_false rfl (?_))))))))
                  refine WC.skip (WX.then_normal (WC.seq (WC.region (WL.move rfl rfl (?_)))))
                  refine WL.neqF rfl rfl rfl (by first | rfl | omega | decide) ?_
                  refine WL.move rfl rfl (WL.want rfl rfl rfl (WL.move rfl rfl (WL.want rfl rfl rfl (WL.toStr Try.underlying30 Try.underlying5 Try.underlying9 hq rfl rfl (WL.want rfl rfl rfl (WL.move rfl rfl (WL.want rfl rfl rfl (?_))))))))
                  refine WL.sneqF rfl rfl rfl ((by rw [hx]; refine congrArg (fun l : List UInt8 => (⟨l.toArray⟩ : ByteArray)) ?_; split <;> first | rfl | (exfalso; omega) | (split <;> first | rfl | (exfalso; omega)))) ?_
                  refine WL.pickF rfl rfl rfl (WL.nil (WX.then_normal (WC.cond_false rfl (WC.skip (WX.block_normal (WX.then_normal (WC.region (?_))))))))
                  refine WL.move rfl rfl (WL.add64 rfl rfl (by first | omega | (constructor <;> omega)) rfl (WL.assign rfl rfl (WL.nil (?_))))
                  first
                    | exact WX.loop_next (i + 1, L.set (i % 5 * 8 + i * 3 % 8) (1 + (k : Int))) ⟨rfl, rfl, rfl, rfl, by simp [List.lookup, ev, List.length_set], rfl, trivial⟩ ⟨by show i + 1 ≤ 80; omega, hf, hp, hw, hQ, by omega, s3, hL3, sw3, hR3⟩ (by show 80 - (i + 1) < 80 - i; omega)
                    | exact WX.loop_next (a + 1) ⟨rfl, rfl, rfl, rfl, rfl, rfl, trivial⟩ ⟨by omega, hp, hw, hQ, hR, by omega⟩ (by omega)
                    | exact WX.loop_next (d + 1) ⟨rfl, rfl, rfl, rfl, rfl, trivial⟩ ⟨by omega, hp, hw, hQ, hR, by omega⟩ (by omega)
              ·
                refine WL.pickT rfl rfl rfl (WL.move rfl rfl (WL.pass rfl rfl rfl rfl (WL.pass rfl rfl rfl rfl (WL.pass rfl rfl rfl rfl (WL.pickF rfl rfl rfl (WL.move rfl rfl (WL.pass rfl rfl rfl rfl (?_))))))))
                refine WL.pass rfl rfl rfl rfl (WL.pass rfl rfl rfl rfl (WL.pickF rfl rfl rfl (WL.move rfl rfl (WL.pass rfl rfl rfl rfl (WL.pass rfl rfl rfl rfl (WL.pass rfl rfl rfl rfl (WL.pass rfl rfl rfl rfl (?_))))))))
                refine WL.pass rfl rfl rfl rfl (WL.pickF rfl rfl rfl (WL.nil (WX.then_normal (WC.cond_false rfl (WC.skip (WX.then_normal (WC.seq (?_))))))))
                refine WC.region (WL.move rfl rfl (?_))
                refine WL.neqF rfl rfl rfl (by first | rfl | omega | decide) ?_
                refine WL.move rfl rfl (WL.want rfl rfl rfl (WL.move rfl rfl (WL.want rfl rfl rfl (WL.toStr Try.underlying30 Try.underlying5 Try.underlying9 hq rfl rfl (WL.want rfl rfl rfl (WL.move rfl rfl (WL.want rfl rfl rfl (?_))))))))
                refine WL.sneqF rfl rfl rfl ((by rw [hx]; refine congrArg (fun l : List UInt8 => (⟨l.toArray⟩ : ByteArray)) ?_; split <;> first | rfl | (exfalso; omega) | (split <;> first | rfl | (exfalso; omega)))) ?_
                refine WL.pickF rfl rfl rfl (WL.nil (WX.then_normal (WC.cond_false rfl (WC.skip (WX.block_normal (WX.then_normal (WC.region (?_))))))))
                refine WL.move rfl rfl (WL.add64 rfl rfl (by first | omega | (constructor <;> omega)) rfl (WL.assign rfl rfl (WL.nil (?_))))
                first
                  | exact WX.loop_next (i + 1, L.set (i % 5 * 8 + i * 3 % 8) (1 + (k : Int))) ⟨rfl, rfl, rfl, rfl, by simp [List.lookup, ev, List.length_set], rfl, trivial⟩ ⟨by show i + 1 ≤ 80; omega, hf, hp, hw, hQ, by omega, s3, hL3, sw3, hR3⟩ (by show 80 - (i + 1) < 80 - i; omega)
                  | exact WX.loop_next (a + 1) ⟨rfl, rfl, rfl, rfl, rfl, rfl, trivial⟩ ⟨by omega, hp, hw, hQ, hR, by omega⟩ (by omega)
                  | exact WX.loop_next (d + 1) ⟨rfl, rfl, rfl, rfl, rfl, trivial⟩ ⟨by omega, hp, hw, hQ, hR, by omega⟩ (by omega)
            ·
              refine WL.move rfl rfl (WL.pass rfl rfl rfl rfl (WL.pass rfl rfl rfl rfl (WL.pickF rfl rfl rfl (WL.move rfl rfl (WL.pass rfl rfl rfl rfl (WL.pass rfl rfl rfl rfl (WL.pass rfl rfl rfl rfl (?_))))))))
              refine WL.pickF rfl rfl rfl (WL.move rfl rfl (WL.pass rfl rfl rfl rfl (WL.pass rfl rfl rfl rfl (WL.pass rfl rfl rfl rfl (WL.pickF rfl rfl rfl (WL.move rfl rfl (WL.pass rfl rfl rfl rfl (?_))))))))
              refine WL.pass rfl rfl rfl rfl (WL.pass rfl rfl rfl rfl (WL.pass rfl rfl rfl rfl (WL.pass rfl rfl rfl rfl (WL.pickF rfl rfl rfl (WL.nil (WX.then_normal (WC.cond_false rfl (?_))))))))
              refine WC.skip (WX.then_normal (WC.seq (WC.region (WL.move rfl rfl (?_)))))
              refine WL.neqF rfl rfl rfl (by first | rfl | omega | decide) ?_
              refine WL.move rfl rfl (WL.want rfl rfl rfl (WL.move rfl rfl (WL.want rfl rfl rfl (WL.toStr Try.underlying30 Try.underlying5 Try.underlying9 hq rfl rfl (WL.want rfl rfl rfl (WL.move rfl rfl (WL.want rfl rfl rfl (?_))))))))
              refine WL.sneqF rfl rfl rfl ((by rw [hx]; refine congrArg (fun l : List UInt8 => (⟨l.toArray⟩ : ByteArray)) ?_; split <;> first | rfl | (exfalso; omega) | (split <;> first | rfl | (exfalso; omega)))) ?_
              refine WL.pickF rfl rfl rfl (WL.nil (WX.then_normal (WC.cond_false rfl (WC.skip (WX.block_normal (WX.then_normal (WC.region (?_))))))))
              refine WL.move rfl rfl (WL.add64 rfl rfl (by first | omega | (constructor <;> omega)) rfl (WL.assign rfl rfl (WL.nil (?_))))
              first
                | exact WX.loop_next (i + 1, L.set (i % 5 * 8 + i * 3 % 8) (1 + (k : Int))) ⟨rfl, rfl, rfl, rfl, by simp [List.lookup, ev, List.length_set], rfl, trivial⟩ ⟨by show i + 1 ≤ 80; omega, hf, hp, hw, hQ, by omega, s3, hL3, sw3, hR3⟩ (by show 80 - (i + 1) < 80 - i; omega)
                | exact WX.loop_next (a + 1) ⟨rfl, rfl, rfl, rfl, rfl, rfl, trivial⟩ ⟨by omega, hp, hw, hQ, hR, by omega⟩ (by omega)
                | exact WX.loop_next (d + 1) ⟨rfl, rfl, rfl, rfl, rfl, trivial⟩ ⟨by omega, hp, hw, hQ, hR, by omega⟩ (by omega)
        ·
          refine WL.move rfl rfl (WL.pass rfl rfl rfl rfl (WL.pass rfl rfl rfl rfl (WL.pass rfl rfl rfl rfl (WL.pickF rfl rfl rfl (WL.nil (WX.then_normal (WC.cond_false rfl (?_))))))))
          refine WC.skip (WX.then_normal (WC.seq (WC.seq (WC.region (WL.move rfl rfl (?_))))))
          refine WL.eql? rfl rfl rfl (fun h161 => ?_) (fun h161 => ?_)
          ·
            refine WL.move rfl rfl (WL.want rfl rfl rfl (WL.move rfl rfl (WL.want rfl rfl rfl (?_))))
            refine WL.eql? rfl rfl rfl (fun h164 => ?_) (fun h164 => ?_)
            ·
              refine WL.pickT rfl rfl rfl (WL.move rfl rfl (WL.want rfl rfl rfl (WL.move rfl rfl (WL.want rfl rfl rfl (WL.move rfl rfl (WL.want rfl rfl rfl (?_)))))))
              refine WL.neq? rfl rfl rfl (fun h169 => ?_) (fun h169 => ?_)
              ·
                refine WL.pickT rfl rfl rfl (WL.move rfl rfl (WL.want rfl rfl rfl (WL.move rfl rfl (WL.want rfl rfl rfl (WL.len Try.underlying22 rfl rfl (WL.want rfl rfl rfl (?_)))))))
                refine WL.gtr? rfl rfl rfl (fun h174 => ?_) (fun h174 => ?_)
                ·
                  refine WL.pickT rfl rfl rfl (WL.move rfl rfl (WL.want rfl rfl rfl (WL.move rfl rfl (WL.want rfl rfl rfl (?_)))))
                  obtain ⟨y, hy⟩ : ∃ y, l1[0]? = some y := ⟨_, List.getElem?_eq_getElem (by omega)⟩
                  have hyD : l1.getD 0 0 = y := by rw [List.getD_eq_getElem?_getD, hy]; rfl
                  have ht := tmod_two y
                  refine WL.indexT Try.underlying22 Try.sizeOf3 hp rfl rfl ⟨hy, rfl⟩ rfl ?_
                  intro b_2 o_2 hc_2
                  refine WL.want rfl rfl rfl (WL.load Try.isAgg3 rfl (hc_2 0 _ rfl) rfl (WL.want rfl rfl rfl (?_)))
                  refine WL.remk rfl rfl (by decide) rfl ?_
                  refine WL.want rfl rfl rfl (?_)
                  refine WL.neq? rfl rfl rfl (fun h181 => ?_) (fun h181 => ?_)
                  ·
                    refine WL.pickT rfl rfl rfl (WL.nil (WX.then_normal (WC.cond_true rfl (WC.region (?_)))))
                    refine WL.call eg_14 rfl rfl (hBc 5 _) ?_
                    rintro v w17 ⟨⟨g17, rfl, hq17, hg171, hg172⟩, k17⟩
                    have zs_k17 := k17.size
                    replace hp := hp.pure k17
                    replace hw := hw.pure k17
                    replace hQ := hQ.pure k17
                    replace hR := hR.pure k17
                    replace hq := hq.pure k17
                    replace hm := hm.pure k17
                    refine WL.toStr Try.underlying30 Try.underlying5 Try.underlying9 hq17.rsl rfl rfl (WL.assign rfl rfl (WL.nil (WX.then_normal (WC.seq (WC.region (WL.move rfl rfl (?_)))))))
                    refine WL.neqF rfl rfl rfl (by first | rfl | omega | decide) ?_
                    refine WL.move rfl rfl (WL.want rfl rfl rfl (WL.move rfl rfl (WL.want rfl rfl rfl (WL.toStr Try.underlying30 Try.underlying5 Try.underlying9 hq rfl rfl (WL.want rfl rfl rfl (WL.move rfl rfl (WL.want rfl rfl rfl (?_))))))))
                    refine WL.sneqF rfl rfl rfl ((by rw [hx]; refine congrArg (fun l : List UInt8 => (⟨l.toArray⟩ : ByteArray)) ?_; split <;> first | rfl | (exfalso; omega) | (split <;> first | rfl | (exfalso; omega)))) ?_
                    refine WL.pickF rfl rfl rfl (WL.nil (WX.then_normal (WC.cond_false rfl (WC.skip (WX.block_normal (WX.then_normal (WC.region (?_))))))))
                    refine WL.move rfl rfl (WL.add64 rfl rfl (by first | omega | (constructor <;> omega)) rfl (WL.assign rfl rfl (WL.nil (?_))))
                    first
                      | exact WX.loop_next (i + 1, L.set (i % 5 * 8 + i * 3 % 8) (1 + (k : Int))) ⟨rfl, rfl, rfl, rfl, by simp [List.lookup, ev, List.length_set], rfl, trivial⟩ ⟨by show i + 1 ≤ 80; omega, hf, hp, hw, hQ, by omega, s3, hL3, sw3, hR3⟩ (by show 80 - (i + 1) < 80 - i; omega)
                      | exact WX.loop_next (a + 1) ⟨rfl, rfl, rfl, rfl, rfl, rfl, trivial⟩ ⟨by omega, hp, hw, hQ, hR, by omega⟩ (by omega)
                      | exact WX.loop_next (d + 1) ⟨rfl, rfl, rfl, rfl, rfl, trivial⟩ ⟨by omega, hp, hw, hQ, hR, by omega⟩ (by omega)
                  ·
                    refine WL.pickT rfl rfl rfl (WL.nil (WX.then_normal (WC.cond_false rfl (WC.skip (WX.then_normal (WC.seq (WC.region (?_))))))))
                    refine WL.move rfl rfl (?_)
                    refine WL.neqF rfl rfl rfl (by first | rfl | omega | decide) ?_
                    refine WL.move rfl rfl (WL.want rfl rfl rfl (WL.move rfl rfl (WL.want rfl rfl rfl (WL.toStr Try.underlying30 Try.underlying5 Try.underlying9 hq rfl rfl (WL.want rfl rfl rfl (WL.move rfl rfl (WL.want rfl rfl rfl (?_))))))))
                    refine WL.sneqF rfl rfl rfl ((by rw [hx]; refine congrArg (fun l : List UInt8 => (⟨l.toArray⟩ : ByteArray)) ?_; split <;> first | rfl | (exfalso; omega) | (split <;> first | rfl | (exfalso; omega)))) ?_
                    refine WL.pickF rfl rfl rfl (WL.nil (WX.then_normal (WC.cond_false rfl (WC.skip (WX.block_normal (WX.then_normal (WC.region (?_))))))))
                    refine WL.move rfl rfl (WL.add64 rfl rfl (by first | omega | (constructor <;> omega)) rfl (WL.assign rfl rfl (WL.nil (?_))))
                    first
                      | exact WX.loop_next (i + 1, L.set (i % 5 * 8 + i * 3 % 8) (1 + (k : Int))) ⟨rfl, rfl, rfl, rfl, by simp [List.lookup, ev, List.length_set], rfl, trivial⟩ ⟨by show i + 1 ≤ 80; omega, hf, hp, hw, hQ, by omega, s3, hL3, sw3, hR3⟩ (by show 80 - (i + 1) < 80 - i; omega)
                      | exact WX.loop_next (a + 1) ⟨rfl, rfl, rfl, rfl, rfl, rfl, trivial⟩ ⟨by omega, hp, hw, hQ, hR, by omega⟩ (by omega)
                      | exact WX.loop_next (d + 1) ⟨rfl, rfl, rfl, rfl, rfl, trivial⟩ ⟨by omega, hp, hw, hQ, hR, by omega⟩ (by omega)
                ·
                  refine WL.pickT rfl rfl rfl (WL.move rfl rfl (WL.pass rfl rfl rfl rfl (WL.pass rfl rfl rfl rfl (WL.pass rfl rfl rfl rfl (WL.pass rfl rfl rfl rfl (WL.pass rfl rfl rfl rfl (WL.pickF rfl rfl rfl (?_))))))))
                  refine WL.nil (WX.then_normal (WC.cond_false rfl (WC.skip (WX.then_normal (WC.seq (WC.region (WL.move rfl rfl (?_))))))))
                  refine WL.neqF rfl rfl rfl (by first | rfl | omega | decide) ?_
                  refine WL.move rfl rfl (WL.want rfl rfl rfl (WL.move rfl rfl (WL.want rfl rfl rfl (WL.toStr Try.underlying30 Try.underlying5 Try.underlying9 hq rfl rfl (WL.want rfl rfl rfl (WL.move rfl rfl (WL.want rfl rfl rfl (?_))))))))
                  refine WL.sneqF rfl rfl rfl ((by rw [hx]; refine congrArg (fun l : List UInt8 => (⟨l.toArray⟩ : ByteArray)) ?_; split <;> first | rfl | (exfalso; omega) | (split <;> first | rfl | (exfalso; omega)))) ?_
                  refine WL.pickF rfl rfl rfl (WL.nil (WX.then_normal (WC.cond_false rfl (WC.skip (WX.block_normal (WX.then_normal (WC.region (?_))))))))
                  refine WL.move rfl rfl (WL.add64 rfl rfl (by first | omega | (constructor <;> omega)) rfl (WL.assign rfl rfl (WL.nil (?_))))
                  first
                    | exact WX.loop_next (i + 1, L.set (i % 5 * 8 + i * 3 % 8) (1 + (k : Int))) ⟨rfl, rfl, rfl, rfl, by simp [List.lookup, ev, List.length_set], rfl, trivial⟩ ⟨by show i + 1 ≤ 80; omega, hf, hp, hw, hQ, by omega, s3, hL3, sw3, hR3⟩ (by show 80 - (i + 1) < 80 - i; omega)
                    | exact WX.loop_next (a + 1) ⟨rfl, rfl, rfl, rfl, rfl, rfl, trivial⟩ ⟨by omega, hp, hw, hQ, hR, by omega⟩ (by omega)
                    | exact WX.loop_next (d + 1) ⟨rfl, rfl, rfl, rfl, rfl, trivial⟩ ⟨by omega, hp, hw, hQ, hR, by omega⟩ (by omega)
              ·
                refine WL.pickT rfl rfl rfl (WL.move rfl rfl (WL.pass rfl rfl rfl rfl (WL.pass rfl rfl rfl rfl (WL.pass rfl rfl rfl rfl (WL.pickF rfl rfl rfl (WL.move rfl rfl (WL.pass rfl rfl rfl rfl (?_))))))))
                refine WL.pass rfl rfl rfl rfl (WL.pass rfl rfl rfl rfl (WL.pass rfl rfl rfl rfl (WL.pass rfl rfl rfl rfl (WL.pickF rfl rfl rfl (WL.nil (WX.then_normal (WC.cond_false rfl (?_))))))))
                refine WC.skip (WX.then_normal (WC.seq (WC.region (WL.move rfl rfl (?_)))))
                refine WL.neqF rfl rfl rfl (by first | rfl | omega | decide) ?_
                refine WL.move rfl rfl (WL.want rfl rfl rfl (WL.move rfl rfl (WL.want rfl rfl rfl (WL.toStr Try.underlying30 Try.underlying5 Try.underlying9 hq rfl rfl (WL.want rfl rfl rfl (WL.move rfl rfl (WL.want rfl rfl rfl (?_))))))))
                refine WL.sneqF rfl rfl rfl ((by rw [hx]; refine congrArg (fun l : List UInt8 => (⟨l.toArray⟩ : ByteArray)) ?_; split <;> first | rfl | (exfalso; omega) | (split <;> first | rfl | (exfalso; omega)))) ?_
                refine WL.pickF rfl rfl rfl (WL.nil (WX.then_normal (WC.cond_false rfl (WC.skip (WX.block_normal (WX.then_normal (WC.region (?_))))))))
                refine WL.move rfl rfl (WL.add64 rfl rfl (by first | omega | (constructor <;> omega)) rfl (WL.assign rfl rfl (WL.nil (?_))))
                first
                  | exact WX.loop_next (i + 1, L.set (i % 5 * 8 + i * 3 % 8) (1 + (k : Int))) ⟨rfl, rfl, rfl, rfl, by simp [List.lookup, ev, List.length_set], rfl, trivial⟩ ⟨by show i + 1 ≤ 80; omega, hf, hp, hw, hQ, by omega, s3, hL3, sw3, hR3⟩ (by show 80 - (i + 1) < 80 - i; omega)
                  | exact WX.loop_next (a + 1) ⟨rfl, rfl, rfl, rfl, rfl, rfl, trivial⟩ ⟨by omega, hp, hw, hQ, hR, by omega⟩ (by omega)
                  | exact WX.loop_next (d + 1) ⟨rfl, rfl, rfl, rfl, rfl, trivial⟩ ⟨by omega, hp, hw, hQ, hR, by omega⟩ (by omega)
            ·
              refine WL.pickT rfl rfl rfl (WL.move rfl rfl (WL.pass rfl rfl rfl rfl (WL.pass rfl rfl rfl rfl (WL.pass rfl rfl rfl rfl (WL.pickF rfl rfl rfl (WL.move rfl rfl (WL.pass rfl rfl rfl rfl (?_))))))))
              refine WL.pass rfl rfl rfl rfl (WL.pass rfl rfl rfl rfl (WL.pickF rfl rfl rfl (WL.move rfl rfl (WL.pass rfl rfl rfl rfl (WL.pass rfl rfl rfl rfl (WL.pass rfl rfl rfl rfl (WL.pass rfl rfl rfl rfl (?_))))))))
              refine WL.pass rfl rfl rfl rfl (WL.pickF rfl rfl rfl (WL.nil (WX.then_normal (WC.cond_false rfl (WC.skip (WX.then_normal (WC.seq (?_))))))))
              refine WC.region (WL.move rfl rfl (?_))
              refine WL.neqF rfl rfl rfl (by first | rfl | omega | decide) ?_
              refine WL.move rfl rfl (WL.want rfl rfl rfl (WL.move rfl rfl (WL.want rfl rfl rfl (WL.toStr Try.underlying30 Try.underlying5 Try.underlying9 hq rfl rfl (WL.want rfl rfl rfl (WL.move rfl rfl (WL.want rfl rfl rfl (?_))))))))
              refine WL.sneqF rfl rfl rfl ((by rw [hx]; refine congrArg (fun l : List UInt8 => (⟨l.toArray⟩ : ByteArray)) ?_; split <;> first | rfl | (exfalso; omega) | (split <;> first | rfl | (exfalso; omega)))) ?_
              refine WL.pickF rfl rfl rfl (WL.nil (WX.then_normal (WC.cond_false rfl (WC.skip (WX.block_normal (WX.then_normal (WC.region (?_))))))))
              refine WL.move rfl rfl (WL.add64 rfl rfl (by first | omega | (constructor <;> omega)) rfl (WL.assign rfl rfl (WL.nil (?_))))
              first
                | exact WX.loop_next (i + 1, L.set (i % 5 * 8 + i * 3 % 8) (1 + (k : Int))) ⟨rfl, rfl, rfl, rfl, by simp [List.lookup, ev, List.length_set], rfl, trivial⟩ ⟨by show i + 1 ≤ 80; omega, hf, hp, hw, hQ, by omega, s3, hL3, sw3, hR3⟩ (by show 80 - (i + 1) < 80 - i; omega)
                | exact WX.loop_next (a + 1) ⟨rfl, rfl, rfl, rfl, rfl, rfl, trivial⟩ ⟨by omega, hp, hw, hQ, hR, by omega⟩ (by omega)
                | exact WX.loop_next (d + 1) ⟨rfl, rfl, rfl, rfl, rfl, trivial⟩ ⟨by omega, hp, hw, hQ, hR, by omega⟩ (by omega)
          ·
            refine WL.move rfl rfl (WL.pass rfl rfl rfl rfl (WL.pass rfl rfl rfl rfl (WL.pickF rfl rfl rfl (WL.move rfl rfl (WL.pass rfl rfl rfl rfl (WL.pass rfl rfl rfl rfl (WL.pass rfl rfl rfl rfl (?_))))))))
            refine WL.pickF rfl rfl rfl (WL.move rfl rfl (WL.pass rfl rfl rfl rfl (WL.pass rfl rfl rfl rfl (WL.pass rfl rfl rfl rfl (WL.pickF rfl rfl rfl (WL.move rfl rfl (WL.pass rfl rfl rfl rfl (?_))))))))
            refine WL.pass rfl rfl rfl rfl (WL.pass rfl rfl rfl rfl (WL.pass rfl rfl rfl rfl (WL.pass rfl rfl rfl rfl (WL.pickF rfl rfl rfl (WL.nil (WX.then_normal (WC.cond_false rfl (?_))))))))
            refine WC.skip (WX.then_normal (WC.seq (WC.region (WL.move rfl rfl (?_)))))
            refine WL.neqF rfl rfl rfl (by first | rfl | omega | decide) ?_
            refine WL.move rfl rfl (WL.want rfl rfl rfl (WL.move rfl rfl (WL.want rfl rfl rfl (WL.toStr Try.underlying30 Try.underlying5 Try.underlying9 hq rfl rfl (WL.want rfl rfl rfl (WL.move rfl rfl (WL.want rfl rfl rfl (?_))))))))
            refine WL.sneqF rfl rfl rfl ((by rw [hx]; refine congrArg (fun l : List UInt8 => (⟨l.toArray⟩ : ByteArray)) ?_; split <;> first | rfl | (exfalso; omega) | (split <;> first | rfl | (exfalso; omega)))) ?_
            refine WL.pickF rfl rfl rfl (WL.nil (WX.then_normal (WC.cond_false rfl (WC.skip (WX.block_normal (WX.then_normal (WC.region (?_))))))))
            refine WL.move rfl rfl (WL.add64 rfl rfl (by first | omega | (constructor <;> omega)) rfl (WL.assign rfl rfl (WL.nil (?_))))
            first
              | exact WX.loop_next (i + 1, L.set (i % 5 * 8 + i * 3 % 8) (1 + (k : Int))) ⟨rfl, rfl, rfl, rfl, by simp [List.lookup, ev, List.length_set], rfl, trivial⟩ ⟨by show i + 1 ≤ 80; omega, hf, hp, hw, hQ, by omega, s3, hL3, sw3, hR3⟩ (by show 80 - (i + 1) < 80 - i; omega)
              | exact WX.loop_next (a + 1) ⟨rfl, rfl, rfl, rfl, rfl, rfl, trivial⟩ ⟨by omega, hp, hw, hQ, hR, by omega⟩ (by omega)
              | exact WX.loop_next (d + 1) ⟨rfl, rfl, rfl, rfl, rfl, trivial⟩ ⟨by omega, hp, hw, hQ, hR, by omega⟩ (by omega)
      ·
        refine WL.nil (WX.then_normal (WC.cond_false rfl (WC.exit (WX.then_exit (WX.then_exit (WX.block_here (WX.block_normal (?_))))))))
        refine WX.then_normal (WC.region (WL.move rfl rfl (WL.add64 rfl rfl (by first | omega | (constructor <;> omega)) rfl (WL.assign rfl rfl (WL.nil (?_))))))
        first
          | exact WX.loop_next (i + 1, L.set (i % 5 * 8 + i * 3 % 8) (1 + (k : Int))) ⟨rfl, rfl, rfl, rfl, by simp [List.lookup, ev, List.length_set], rfl, trivial⟩ ⟨by show i + 1 ≤ 80; omega, hf, hp, hw, hQ, by omega, s3, hL3, sw3, hR3⟩ (by show 80 - (i + 1) < 80 - i; omega)
          | exact WX.loop_next (a + 1) ⟨rfl, rfl, rfl, rfl, rfl, rfl, trivial⟩ ⟨by omega, hp, hw, hQ, hR, by omega⟩ (by omega)
          | exact WX.loop_next (d + 1) ⟨rfl, rfl, rfl, rfl, rfl, trivial⟩ ⟨by omega, hp, hw, hQ, hR, by omega⟩ (by omega)
    ·
      refine WL.nil (WX.then_normal (WC.cond_false rfl (WC.exit (WX.then_exit (WX.then_exit (WX.block_here (WX.then_normal (?_))))))))
      refine WC.seq (WC.region (WL.assign rfl rfl (WL.nil (WX.then_normal (WC.ret (?_))))))
      refine WX.ret1 (.inl rfl) Try.results7 rfl ?_
      exact ⟨_, rfl, rfl, hw⟩
end Go.Proofs.Ytdjlfbadcijjaaa
