import Derived.Test.YtdjlfbadcijjaaaRi
import Derived.Test.YtdjlfbadcijjaaaHr
namespace Go.Proofs.Ytdjlfbadcijjaaa
open Go.RowKit Go.HL

/-! calls of a rack that has power -/
theorem RK.grow {A : Nat → Prop} {w w' : World} {R : Nat} {s : RA} (h : RK (fun x => A x ∨ w.heap.size ≤ x) w' R s) (hA : ∀ x, w.heap.size ≤ x → A x) : RK A w' R s := h.mono (fun x hx => hx.elim (fun h => h) (hA x))
theorem WriteU {A S : Nat → Prop} {w : World} {R : Nat} {s : RA} (h : RK A w R s) (hA : ∀ x, w.heap.size ≤ x → A x) (hu : Up s) {d a : Int} (hi : inS s d a) (hg : goneS s d = false) {ao : Option Addr} {c : Nat} {b : List UInt8} (hb : Row S w 5 eb ao c b) (hl : b.length = 128) (hn : s.waits.length ≤ 100000) :
    Calls Try.prog 13 [ptr R, vi d, vi a, .slice ao b.length c].toArray w (Ret fun v w' => v = vi 0 ∧ RK A w' R (addS s (d, a) b) ∧ Chg A w w') := by
  have h0 := hu.write hi hg hl
  refine (Write_calls h d a (h.ne hb).rsl (fun x h1 h2 => h1.2 h2) hn).mono ?_
  rintro e w' ⟨v, rfl, rfl, hR, k⟩
  rw [h0.2] at hR
  exact ⟨_, rfl, by rw [h0.1], hR.grow hA, k⟩
theorem FlushU {A : Nat → Prop} {w : World} {R : Nat} {s : RA} (h : RK A w R s) (hu : Up s) :
    Calls Try.prog 15 [ptr R].toArray w (Ret fun v w' => v = vi 0 ∧ RK A w' R (allS s) ∧ Chg A w w') := by
  refine (Flush_calls h).mono ?_
  rintro e w' ⟨v, rfl, rfl, hR, k⟩
  rw [hu.flush] at hR
  exact ⟨_, rfl, by rw [hu.offS]; rfl, hR, k⟩
theorem ReadU {A : Nat → Prop} {w : World} {R : Nat} {s : RA} (h : RK A w R s) (hu : Up s) {d a : Int} (hi : inS s d a) (hg : goneS s d = false) :
    Calls Try.prog 16 [ptr R, vi d, vi a].toArray w (Ret fun v w' => (∃ r : Rw, v = .tuple #[vsl r, vi 0] ∧ r.xs = heldS s (d, a) ∧ RSl (· < w'.heap.size) w' eb r.ao r.cap r.xs) ∧ Chg Nob w w') := by
  refine (Read_calls h d a).mono ?_
  rintro e w' ⟨v, rfl, ⟨r, e, rfl, he, hx, -, hq⟩, k⟩
  have he0 : e = 0 := he.trans (errS_up hu hi hg)
  subst he0
  exact ⟨_, rfl, ⟨r, rfl, hx rfl, hq.rsl.old⟩, k⟩
set_option maxHeartbeats 4000000 in
theorem rackNewest_calls {w : World} {a0 a1 : Option Addr} {c0 c1 : Nat} {l0 : List Int} {l1 : List Bool} (hf : RSl (· < w.heap.size) w ei a0 c0 l0) (hb : RSl (· < w.heap.size) w ebool a1 c1 l1) :
    Calls Try.prog 3 [.slice a0 l0.length c0, .slice a1 l1.length c1].toArray w (Ret fun v w' => v = .bool true ∧ Chg Nob w w') := by
  have hw := Chg.refl Nob w
  obtain ⟨B, hBl, hBc⟩ := bytes_all
  obtain ⟨s0, sd, sn, u0, sg, sh, sl, sw, hNew⟩ := new_all 2 3 (by decide) (by decide)
  have sw0 : s0.waits.length = 0 := by rw [sw]; rfl
  clear sl sw
  refine Calls.of_WC Try.func3 rfl Try.ntmps3 (by simp) ?_
  refine WC.seq (WC.region (WL.assign rfl rfl (WL.nil (WX.then_normal (WC.seq (WC.seq (WC.region (?_))))))))
  refine WL.call eg_11 rfl rfl (known_calls _) ?_
  rintro v w1 ⟨rfl, k1⟩
  have zs_k1 := k1.size
  replace hf := hf.pure k1
  replace hb := hb.pure k1
  replace hw := hw.pure k1
  refine WL.not rfl rfl (WL.nil (WX.then_normal (WC.cond_false rfl (WC.skip (WX.then_normal (WC.seq (WC.region (?_))))))))
  refine WL.call eg_12 rfl rfl (hNew _) ?_
  rintro v w1 ⟨⟨R, rfl, hR⟩, k1⟩
  replace hR := hR.mono (A' := (w.heap.size ≤ ·)) (fun x hx => by have := hw.size; omega)
  have zs_k1 := k1.size
  replace hf := hf.pure k1
  replace hb := hb.pure k1
  replace hw := hw.pure k1
  refine WL.move rfl rfl (WL.extract rfl rfl rfl (WL.extract rfl rfl rfl (WL.assign rfl rfl (WL.assign rfl rfl (WL.nil (WX.then_normal (WC.seq (?_))))))))
  refine WC.seq (WC.region (WL.move rfl rfl (?_)))
  refine WL.neqF rfl rfl rfl (by first | rfl | omega | decide) ?_
  refine WL.nil (WX.then_normal (WC.cond_false rfl (WC.skip (WX.then_normal (WC.seq (WC.seq (WC.region (?_))))))))
  refine WL.assign rfl rfl (WL.nil (WX.then_normal (WC.block (?_))))
  refine WC.loop (σ := Nat) (fun i => [(0, .slice a0 l0.length c0), (1, .slice a1 l1.length c1), (5, ptr R), (7, vi (i : Int))]) (fun i w' => i ≤ 40 ∧ RSl (· < w.heap.size) w' ei a0 c0 l0 ∧ RSl (· < w.heap.size) w' ebool a1 c1 l1 ∧ Chg Nob w w' ∧ ∃ s : RA, s.dn = 2 ∧ s.sn = 3 ∧ Up s ∧ (∀ d, goneS s d = false) ∧ heldS s (0, 2) = zeros ∧ s.waits.length ≤ i ∧ RK (w.heap.size ≤ ·) w' R s) (fun i => 40 - i) 0 ⟨rfl, rfl, rfl, rfl, trivial⟩ ⟨by omega, hf, hb, hw, s0, sd, sn, u0, sg, sh _, by omega, hR⟩ ?_
  clear hf hb hw hR u0 sg sh sw0 sd sn hNew
  rintro i w1 ⟨hi, hf, hb, hw, s, sd, sn, us, sg, sh, sw, hR⟩
  have i12 : inS s 1 2 := by unfold inS; rw [sd, sn]; decide
  have i02 : inS s 0 2 := by unfold inS; rw [sd, sn]; decide
  have zw := hw.size
  refine WC.seq (WC.seq (WC.region (WL.move rfl rfl (WL.move rfl rfl (WL.len Try.underlying22 rfl rfl (?_))))))
  refine WL.lss? rfl rfl rfl (fun h23 => ?_) (fun h23 => ?_)
  ·
    refine WL.move rfl rfl (WL.want rfl rfl rfl (WL.move rfl rfl (WL.want rfl rfl rfl (?_))))
    refine WL.lss? rfl rfl rfl (fun h26 => ?_) (fun h26 => ?_)
    ·
      refine WL.pickT rfl rfl rfl (WL.nil (WX.then_normal (WC.cond_true rfl (WC.skip (WX.then_normal (WC.seq (WC.block (?_))))))))
      refine WC.seq (WC.seq (WC.region (WL.move rfl rfl (WL.move rfl rfl (WL.move rfl rfl (?_))))))
      obtain ⟨f, hx⟩ : ∃ f, l0[i]? = some f := ⟨_, List.getElem?_eq_getElem (by omega)⟩
      refine WL.indexT Try.underlying22 Try.sizeOf3 hf rfl rfl ⟨hx, rfl⟩ rfl ?_
      intro b_1 o_1 hc_1
      refine WL.load Try.isAgg3 rfl (hc_1 0 _ rfl) rfl (?_)
      refine WL.call eg_14 rfl rfl (hBc f _) ?_
      rintro v w2 ⟨⟨g, rfl, hq, hg1, hg2⟩, k2⟩
      have zs_k2 := k2.size
      replace hf := hf.pure k2
      replace hb := hb.pure k2
      replace hw := hw.pure k2
      replace hR := hR.pure k2
      refine WL.call eg_13 rfl rfl (WriteU hR (fun x hx => by omega) us i12 (sg 1) hq (hBl f) (by omega)) ?_
      rintro v w3 ⟨rfl, hR3, k3⟩
      have zs_k3 := k3.size
      replace hf := hf.chg k3 (by first | (intro x h1 h2; exact h2) | (intro x h0 h1 h2; exact hS x h1 h2) | (intro x h0 h1 h2; have h3 : _ = _ := h2; subst h3; exact hSR h1.1) | (intro x h1 h2; have h3 : _ = _ := h2; subst h3; assumption) | (intro x h1 h2; have h3 : _ = _ := h2; exfalso; omega) | (intro b h1 h2 h3; have h4 : _ = _ := h3; (try dsimp only at h2); exfalso; omega) | (intro h1; have h2 : _ = _ := h1; exfalso; omega) | (intros; exfalso; (try dsimp only at *); omega) | (intro b h1 h2 h3; exfalso; have h4 := h3.2; (try dsimp only at *); omega) | (intro h1; exfalso; have h4 := h1.2; (try dsimp only at *); omega) | (intro x h1 h2; exfalso; have h4 := h2.2; (try dsimp only at *); omega) | (intro x h1 h2; exact h2.1) | (intro x h1 h2; rcases h2.1 with h3 | h3; exact h3; exfalso; omega) | (intro x h1 h2; rcases h2 with h3 | h3; exact h3; exfalso; omega))
      replace hb := hb.chg k3 (by first | (intro x h1 h2; exact h2) | (intro x h0 h1 h2; exact hS x h1 h2) | (intro x h0 h1 h2; have h3 : _ = _ := h2; subst h3; exact hSR h1.1) | (intro x h1 h2; have h3 : _ = _ := h2; subst h3; assumption) | (intro x h1 h2; have h3 : _ = _ := h2; exfalso; omega) | (intro b h1 h2 h3; have h4 : _ = _ := h3; (try dsimp only at h2); exfalso; omega) | (intro h1; have h2 : _ = _ := h1; exfalso; omega) | (intros; exfalso; (try dsimp only at *); omega) | (intro b h1 h2 h3; exfalso; have h4 := h3.2; (try dsimp only at *); omega) | (intro h1; exfalso; have h4 := h1.2; (try dsimp only at *); omega) | (intro x h1 h2; exfalso; have h4 := h2.2; (try dsimp only at *); omega) | (intro x h1 h2; exact h2.1) | (intro x h1 h2; rcases h2.1 with h3 | h3; exact h3; exfalso; omega) | (intro x h1 h2; rcases h2 with h3 | h3; exact h3; exfalso; omega))
      replace hw := hw.chg k3 (by first | (intro x h1 h2; exact h2) | (intro x h0 h1 h2; exact hS x h1 h2) | (intro x h0 h1 h2; have h3 : _ = _ := h2; subst h3; exact hSR h1.1) | (intro x h1 h2; have h3 : _ = _ := h2; subst h3; assumption) | (intro x h1 h2; have h3 : _ = _ := h2; exfalso; omega) | (intro b h1 h2 h3; have h4 : _ = _ := h3; (try dsimp only at h2); exfalso; omega) | (intro h1; have h2 : _ = _ := h1; exfalso; omega) | (intros; exfalso; (try dsimp only at *); omega) | (intro b h1 h2 h3; exfalso; have h4 := h3.2; (try dsimp only at *); omega) | (intro h1; exfalso; have h4 := h1.2; (try dsimp only at *); omega) | (intro x h1 h2; exfalso; have h4 := h2.2; (try dsimp only at *); omega) | (intro x h1 h2; exact h2.1) | (intro x h1 h2; rcases h2.1 with h3 | h3; exact h3; exfalso; omega) | (intro x h1 h2; rcases h2 with h3 | h3; exact h3; exfalso; omega))
      have hA : heldS (addS s (1, 2) (B f)) (1, 2) = B f := by rw [addS_held, if_pos rfl]
      have hC : heldS (addS s (1, 2) (B f)) (0, 2) = zeros := by rw [addS_held, if_neg (by decide), sh]
      have us3 := addS_up us (1, 2) (B f)
      have sw3 : (addS s (1, 2) (B f)).waits.length ≤ i + 1 := by
        show (s.waits ++ [_]).length ≤ i + 1
        rw [List.length_append]
        simpa using sw
      have sd3 : (addS s (1, 2) (B f)).dn = 2 := sd
      have sn3 : (addS s (1, 2) (B f)).sn = 3 := sn
      have sg3 : ∀ d, goneS (addS s (1, 2) (B f)) d = false := sg
      obtain ⟨s3, es3⟩ : ∃ s3, s3 = addS s (1, 2) (B f) := ⟨_, rfl⟩
      rw [← es3] at hR3 hA hC us3 sw3 sd3 sn3 sg3
      clear es3
      refine WL.neqF rfl rfl rfl (by first | rfl | omega | decide) ?_
      refine WL.move rfl rfl (WL.want rfl rfl rfl (WL.move rfl rfl (WL.want rfl rfl rfl (WL.move rfl rfl (WL.want rfl rfl rfl (WL.len Try.underlying23 rfl rfl (WL.want rfl rfl rfl (?_))))))))
      refine WL.lss? rfl rfl rfl (fun h42 => ?_) (fun h42 => ?_)
      ·
        refine WL.want rfl rfl rfl (WL.move rfl rfl (WL.want rfl rfl rfl (WL.move rfl rfl (WL.want rfl rfl rfl (WL.move rfl rfl (WL.want rfl rfl rfl (?_)))))))
        obtain ⟨y, hy⟩ : ∃ y, l1[i]? = some y := ⟨_, List.getElem?_eq_getElem (by omega)⟩
        refine WL.indexT Try.underlying23 Try.sizeOf4 hb rfl rfl ⟨hy, rfl⟩ rfl ?_
        intro b_2 o_2 hc_2
        refine WL.want rfl rfl rfl (WL.load Try.isAgg4 rfl (hc_2 0 _ rfl) rfl (WL.want rfl rfl rfl (WL.pickT rfl rfl rfl (WL.want rfl rfl rfl (WL.move rfl rfl (?_))))))
        refine WL.caseB (t := 49) rfl (fun hb49 => ?_) (fun hb49 => ?_)
        ·
          refine WL.want rfl rfl rfl (WL.move rfl rfl (WL.want rfl rfl rfl (?_)))
          refine WL.call eg_15 rfl rfl (FlushU hR3 us3) ?_
          rintro v w4 ⟨rfl, hR4, k4⟩
          have zs_k4 := k4.size
          replace hf := hf.chg k4 (by first | (intro x h1 h2; exact h2) | (intro x h0 h1 h2; exact hS x h1 h2) | (intro x h0 h1 h2; have h3 : _ = _ := h2; subst h3; exact hSR h1.1) | (intro x h1 h2; have h3 : _ = _ := h2; subst h3; assumption) | (intro x h1 h2; have h3 : _ = _ := h2; exfalso; omega) | (intro b h1 h2 h3; have h4 : _ = _ := h3; (try dsimp only at h2); exfalso; omega) | (intro h1; have h2 : _ = _ := h1; exfalso; omega) | (intros; exfalso; (try dsimp only at *); omega) | (intro b h1 h2 h3; exfalso; have h4 := h3.2; (try dsimp only at *); omega) | (intro h1; exfalso; have h4 := h1.2; (try dsimp only at *); omega) | (intro x h1 h2; exfalso; have h4 := h2.2; (try dsimp only at *); omega) | (intro x h1 h2; exact h2.1) | (intro x h1 h2; rcases h2.1 with h3 | h3; exact h3; exfalso; omega) | (intro x h1 h2; rcases h2 with h3 | h3; exact h3; exfalso; omega))
          replace hb := hb.chg k4 (by first | (intro x h1 h2; exact h2) | (intro x h0 h1 h2; exact hS x h1 h2) | (intro x h0 h1 h2; have h3 : _ = _ := h2; subst h3; exact hSR h1.1) | (intro x h1 h2; have h3 : _ = _ := h2; subst h3; assumption) | (intro x h1 h2; have h3 : _ = _ := h2; exfalso; omega) | (intro b h1 h2 h3; have h4 : _ = _ := h3; (try dsimp only at h2); exfalso; omega) | (intro h1; have h2 : _ = _ := h1; exfalso; omega) | (intros; exfalso; (try dsimp only at *); omega) | (intro b h1 h2 h3; exfalso; have h4 := h3.2; (try dsimp only at *); omega) | (intro h1; exfalso; have h4 := h1.2; (try dsimp only at *); omega) | (intro x h1 h2; exfalso; have h4 := h2.2; (try dsimp only at *); omega) | (intro x h1 h2; exact h2.1) | (intro x h1 h2; rcases h2.1 with h3 | h3; exact h3; exfalso; omega) | (intro x h1 h2; rcases h2 with h3 | h3; exact h3; exfalso; omega))
          replace hw := hw.chg k4 (by first | (intro x h1 h2; exact h2) | (intro x h0 h1 h2; exact hS x h1 h2) | (intro x h0 h1 h2; have h3 : _ = _ := h2; subst h3; exact hSR h1.1) | (intro x h1 h2; have h3 : _ = _ := h2; subst h3; assumption) | (intro x h1 h2; have h3 : _ = _ := h2; exfalso; omega) | (intro b h1 h2 h3; have h4 : _ = _ := h3; (try dsimp only at h2); exfalso; omega) | (intro h1; have h2 : _ = _ := h1; exfalso; omega) | (intros; exfalso; (try dsimp only at *); omega) | (intro b h1 h2 h3; exfalso; have h4 := h3.2; (try dsimp only at *); omega) | (intro h1; exfalso; have h4 := h1.2; (try dsimp only at *); omega) | (intro x h1 h2; exfalso; have h4 := h2.2; (try dsimp only at *); omega) | (intro x h1 h2; exact h2.1) | (intro x h1 h2; rcases h2.1 with h3 | h3; exact h3; exfalso; omega) | (intro x h1 h2; rcases h2 with h3 | h3; exact h3; exfalso; omega))
          rw [← allS_held] at hA hC
          replace us3 := allS_up us3
          replace sw3 : (allS s3).waits.length ≤ i + 1 := Nat.zero_le _
          replace sd3 : (allS s3).dn = 2 := sd3
          replace sn3 : (allS s3).sn = 3 := sn3
          replace sg3 : ∀ d, goneS (allS s3) d = false := sg3
          obtain ⟨s4, es4⟩ : ∃ s4, s4 = allS s3 := ⟨_, rfl⟩
          rw [← es4] at hR4 hA hC us3 sw3 sd3 sn3 sg3
          clear es4
          clear hR3
          have hR3 := hR4
          clear hR4
          refine WL.want rfl rfl rfl (?_)
          refine WL.neqF rfl rfl rfl (by first | rfl | omega | decide) ?_
          refine WL.want rfl rfl rfl (WL.pickT rfl rfl rfl (WL.pickF rfl rfl rfl (WL.nil (WX.then_normal (WC.cond_false rfl (WC.skip (WX.then_normal (?_))))))))
          refine WC.seq (WC.region (WL.move rfl rfl (?_)))
          refine WL.call eg_16 rfl rfl (ReadU hR3 us3 (by unfold inS; rw [sd3, sn3]; decide) (sg3 1)) ?_
          rintro v w5 ⟨⟨r1, rfl, hx1, hq1⟩, k5⟩
          rw [hA] at hx1
          have zs_k5 := k5.size
          replace hf := hf.pure k5
          replace hb := hb.pure k5
          replace hw := hw.pure k5
          replace hR3 := hR3.pure k5
          refine WL.move rfl rfl (?_)
          refine WL.extract rfl rfl rfl ?_
          refine WL.extract rfl rfl rfl (WL.assign rfl rfl (WL.assign rfl rfl (WL.nil (WX.then_normal (WC.seq (WC.region (WL.move rfl rfl (?_))))))))
          refine WL.call eg_16 rfl rfl (ReadU hR3 us3 (by unfold inS; rw [sd3, sn3]; decide) (sg3 0)) ?_
          rintro v w6 ⟨⟨r2, rfl, hx2, hq2⟩, k6⟩
          rw [hC] at hx2
          have zs_k6 := k6.size
          replace hf := hf.pure k6
          replace hb := hb.pure k6
          replace hw := hw.pure k6
          replace hR3 := hR3.pure k6
          replace hq1 := hq1.pure k6
          refine WL.move rfl rfl (?_)
          refine WL.extract rfl rfl rfl ?_
          refine WL.extract rfl rfl rfl (WL.assign rfl rfl (WL.assign rfl rfl (WL.nil (WX.then_normal (WC.seq (?_))))))
          have zw6 := hw.size
          obtain ⟨b1, o1, rfl⟩ := hf.place hx
          refine WC.drawM (Nob) [0, 1, 2, 3, 4, 5, 6, 7, 8, 9, 10, 11, 12] [13, 14, 15, 16, 17, 18, 19, 20, 21, 22, 23] mixed rfl rfl (fun wd_3 kd_3 zd_3 => ?_)
          have zs_kd_3 := kd_3.size
          replace hf := hf.pure kd_3
          replace hb := hb.pure kd_3
          replace hw := hw.pure kd_3
          replace hR3 := hR3.pure kd_3
          replace hq1 := hq1.pure kd_3
          replace hq2 := hq2.pure kd_3
          apply DQT.step (E' := [(9, _)])
          case ho => rfl
          case hs => exact ⟨rfl, trivial⟩
          case hk => rfl
          case h1 =>
            intro wq_5 kq_5
            refine WL.move rfl rfl (?_)
            refine WL.nil ?_
            exact WX.one ⟨rfl, by first | exact Chg.refl _ _ | assumption⟩
          apply DQT.step (E' := [(65, _)])
          case ho => rfl
          case hs => exact ⟨rfl, trivial⟩
          case hk => rfl
          case h1 =>
            intro wq_6 kq_6
            refine WL.neqF rfl rfl rfl (by first | rfl | omega | decide) ?_
            refine WL.nil ?_
            exact WX.one ⟨rfl, by first | exact Chg.refl _ _ | assumption⟩
          apply DQT.step (E' := [(66, _)])
          case ho => rfl
          case hs => exact ⟨rfl, trivial⟩
          case hk => rfl
          case h1 =>
            intro wq_7 kq_7
            refine WL.move rfl rfl (?_)
            refine WL.nil ?_
            exact WX.one ⟨rfl, by first | exact Chg.refl _ _ | assumption⟩
          apply DQT.step (E' := [(11, _), (67, _)])
          case ho => rfl
          case hs => exact ⟨rfl, rfl, trivial⟩
          case hk => rfl
          case h1 =>
            intro wq_8 kq_8
            refine WL.want rfl rfl rfl (WL.move rfl rfl (?_))
            refine WL.nil ?_
            exact WX.one ⟨rfl, by first | exact Chg.refl _ _ | assumption⟩
          apply DQT.step (E' := [(68, _), (67, _)])
          case ho => rfl
          case hs => exact ⟨rfl, rfl, trivial⟩
          case hk => rfl
          case h1 =>
            intro wq_9 kq_9
            refine WL.want rfl rfl rfl (?_)
            refine WL.neqF rfl rfl rfl (by first | rfl | omega | decide) ?_
            refine WL.nil ?_
            exact WX.one ⟨rfl, by first | exact Chg.refl _ _ | assumption⟩
          apply DQT.step (E' := [(67, _), (69, _)])
          case ho => rfl
          case hs => exact ⟨rfl, rfl, trivial⟩
          case hk => rfl
          case h1 =>
            intro wq_10 kq_10
            refine WL.pickF rfl rfl rfl (?_)
            refine WL.nil ?_
            exact WX.one ⟨rfl, by first | exact Chg.refl _ _ | assumption⟩
          apply DQT.step (E' := [(70, _)])
          case ho => rfl
          case hs => exact ⟨rfl, trivial⟩
          case hk => rfl
          case h1 =>
            intro wq_11 kq_11
            refine WL.move rfl rfl (?_)
            refine WL.nil ?_
            exact WX.one ⟨rfl, by first | exact Chg.refl _ _ | assumption⟩
          apply DQT.step (E' := [(8, _), (71, _)])
          case ho => rfl
          case hs => exact ⟨rfl, rfl, trivial⟩
          case hk => rfl
          case h1 =>
            intro wq_12 kq_12
            refine WL.want rfl rfl rfl (WL.move rfl rfl (?_))
            refine WL.nil ?_
            exact WX.one ⟨rfl, by first | exact Chg.refl _ _ | assumption⟩
          apply DQT.step (E' := [(72, _), (71, _)])
          case ho => rfl
          case hs => exact ⟨rfl, rfl, trivial⟩
          case hk => rfl
          case h1 =>
            intro wq_13 kq_13
            have zs_kq_13 := kq_13.size
            replace hf := hf.pure kq_13
            replace hb := hb.pure kq_13
            replace hw := hw.pure kq_13
            replace hR3 := hR3.pure kq_13
            replace hq1 := hq1.pure kq_13
            replace hq2 := hq2.pure kq_13
            refine WL.want rfl rfl rfl (WL.toStr Try.underlying30 Try.underlying5 Try.underlying9 hq1 rfl rfl (?_))
            refine WL.nil ?_
            exact WX.one ⟨rfl, by first | exact Chg.refl _ _ | assumption⟩
          apply DQT.step (E' := [(0, _), (71, _)])
          case ho => rfl
          case hs => exact ⟨rfl, rfl, trivial⟩
          case hk => rfl
          case h1 =>
            intro wq_14 kq_14
            refine WL.want rfl rfl rfl (WL.move rfl rfl (?_))
            refine WL.nil ?_
            exact WX.one ⟨rfl, by first | exact Chg.refl _ _ | assumption⟩
          apply DQT.step (E' := [(7, _), (71, _)])
          case ho => rfl
          case hs => exact ⟨rfl, rfl, trivial⟩
          case hk => rfl
          case h1 =>
            intro wq_15 kq_15
            refine WL.want rfl rfl rfl (WL.move rfl rfl (?_))
            refine WL.nil ?_
            exact WX.one ⟨rfl, by first | exact Chg.refl _ _ | assumption⟩
          apply DQT.step (E' := [(74, _), (75, _), (71, _)])
          case ho => rfl
          case hs => exact ⟨rfl, rfl, rfl, trivial⟩
          case hk => rfl
          case h1 =>
            intro wq_16 kq_16
            have zs_kq_16 := kq_16.size
            replace hf := hf.pure kq_16
            replace hb := hb.pure kq_16
            replace hw := hw.pure kq_16
            replace hR3 := hR3.pure kq_16
            replace hq1 := hq1.pure kq_16
            replace hq2 := hq2.pure kq_16
            refine WL.want rfl rfl rfl (?_)
            refine WL.indexC hf Try.underlying22 Try.sizeOf3 rfl rfl ⟨hx, rfl⟩ rfl ?_
            refine WL.nil ?_
            exact WX.one ⟨rfl, by first | exact Chg.refl _ _ | assumption⟩
          apply DQT.step (E' := [(76, _), (71, _)])
          case ho => rfl
          case hs => exact ⟨rfl, rfl, trivial⟩
          case hk => rfl
          case h1 =>
            intro wq_17 kq_17
            have zs_kq_17 := kq_17.size
            replace hf := hf.pure kq_17
            replace hb := hb.pure kq_17
            replace hw := hw.pure kq_17
            replace hR3 := hR3.pure kq_17
            replace hq1 := hq1.pure kq_17
            replace hq2 := hq2.pure kq_17
            refine WL.want rfl rfl rfl (WL.load Try.isAgg3 rfl ((hf.cellsAt hx) 0 _ rfl) rfl (?_))
            refine WL.nil ?_
            exact WX.one ⟨rfl, by first | exact Chg.refl _ _ | assumption⟩
          refine DQT.done (fun hd_4 => ?_)
          refine ⟨?_, trivial, trivial, trivial, trivial, trivial, trivial, trivial, trivial, trivial, trivial, trivial⟩
          refine DT.step [(77, _), (71, _)] rfl ⟨rfl, rfl, trivial⟩ rfl (fun wq_18 kq_18 => ?_)
          have zs_kq_18 := kq_18.size
          replace hf := hf.pure kq_18
          replace hb := hb.pure kq_18
          replace hw := hw.pure kq_18
          replace hR3 := hR3.pure kq_18
          replace hq1 := hq1.pure kq_18
          replace hq2 := hq2.pure kq_18
          replace hd_4 := hd_4.pure kq_18
          refine WL.want rfl rfl rfl (?_)
          refine WL.call eg_14 rfl rfl (hBc f _) ?_
          rintro v w7 ⟨⟨g7, rfl, hq7, hg71, hg72⟩, k7⟩
          have zs_k7 := k7.size
          replace hf := hf.pure k7
          replace hb := hb.pure k7
          replace hw := hw.pure k7
          replace hR3 := hR3.pure k7
          replace hq1 := hq1.pure k7
          replace hq2 := hq2.pure k7
          replace hd_4 := hd_4.pure k7
          refine WL.nil ?_
          refine WX.one ⟨hd_4, ?_⟩
          refine ⟨?_, trivial, trivial, trivial, trivial, trivial, trivial, trivial, trivial, trivial, trivial⟩
          refine DT.step [(78, _), (71, _)] rfl ⟨rfl, rfl, trivial⟩ rfl (fun wq_19 kq_19 => ?_)
          have zs_kq_19 := kq_19.size
          replace hf := hf.pure kq_19
          replace hb := hb.pure kq_19
          replace hw := hw.pure kq_19
          replace hR3 := hR3.pure kq_19
          replace hq1 := hq1.pure kq_19
          replace hq2 := hq2.pure kq_19
          replace hd_4 := hd_4.pure kq_19
          replace hq7 := hq7.pure kq_19
          refine WL.want rfl rfl rfl (WL.toStr Try.underlying30 Try.underlying5 Try.underlying9 hq7.rsl rfl rfl (?_))
          refine WL.nil ?_
          refine WX.one ⟨hd_4, ?_⟩
          refine ⟨?_, trivial, trivial, trivial, trivial, trivial, trivial, trivial, trivial, trivial⟩
          refine DT.step [(73, _), (79, _), (71, _)] rfl ⟨rfl, rfl, rfl, trivial⟩ rfl (fun wq_20 kq_20 => ?_)
          have zs_kq_20 := kq_20.size
          replace hf := hf.pure kq_20
          replace hb := hb.pure kq_20
          replace hw := hw.pure kq_20
          replace hR3 := hR3.pure kq_20
          replace hq1 := hq1.pure kq_20
          replace hq2 := hq2.pure kq_20
          replace hd_4 := hd_4.pure kq_20
          replace hq7 := hq7.pure kq_20
          refine WL.want rfl rfl rfl (?_)
          refine WL.sneqF rfl rfl rfl ((by rw [hx1])) ?_
          refine WL.nil ?_
          refine WX.one ⟨hd_4, ?_⟩
          refine ⟨?_, trivial, trivial, trivial, trivial, trivial, trivial, trivial, trivial⟩
          refine DT.step [(71, _), (80, _)] rfl ⟨rfl, rfl, trivial⟩ rfl (fun wq_21 kq_21 => ?_)
          have zs_kq_21 := kq_21.size
          replace hf := hf.pure kq_21
          replace hb := hb.pure kq_21
          replace hw := hw.pure kq_21
          replace hR3 := hR3.pure kq_21
          replace hq1 := hq1.pure kq_21
          replace hq2 := hq2.pure kq_21
          replace hd_4 := hd_4.pure kq_21
          replace hq7 := hq7.pure kq_21
          refine WL.pickF rfl rfl rfl (?_)
          refine WL.nil ?_
          refine WX.one ⟨hd_4, ?_⟩
          refine ⟨?_, trivial, trivial, trivial, trivial, trivial, trivial, trivial⟩
          refine DT.step [(81, _)] rfl ⟨rfl, trivial⟩ rfl (fun wq_22 kq_22 => ?_)
          have zs_kq_22 := kq_22.size
          replace hf := hf.pure kq_22
          replace hb := hb.pure kq_22
          replace hw := hw.pure kq_22
          replace hR3 := hR3.pure kq_22
          replace hq1 := hq1.pure kq_22
          replace hq2 := hq2.pure kq_22
          replace hd_4 := hd_4.pure kq_22
          replace hq7 := hq7.pure kq_22
          refine WL.move rfl rfl (?_)
          refine WL.nil ?_
          refine WX.one ⟨hd_4, ?_⟩
          refine ⟨?_, trivial, ?_, trivial, trivial, trivial, trivial⟩
          refine DT.step [(10, _), (82, _)] rfl ⟨rfl, rfl, trivial⟩ rfl (fun wq_23 kq_23 => ?_)
          have zs_kq_23 := kq_23.size
          replace hf := hf.pure kq_23
          replace hb := hb.pure kq_23
          replace hw := hw.pure kq_23
          replace hR3 := hR3.pure kq_23
          replace hq1 := hq1.pure kq_23
          replace hq2 := hq2.pure kq_23
          replace hd_4 := hd_4.pure kq_23
          replace hq7 := hq7.pure kq_23
          refine WL.want rfl rfl rfl (WL.move rfl rfl (?_))
          refine WL.nil ?_
          refine WX.one ⟨hd_4, ?_⟩
          refine ⟨?_, ?_, trivial, trivial, trivial, trivial⟩
          refine DT.step [(83, _), (82, _)] rfl ⟨rfl, rfl, trivial⟩ rfl (fun wq_24 kq_24 => ?_)
          have zs_kq_24 := kq_24.size
          replace hf := hf.pure kq_24
          replace hb := hb.pure kq_24
          replace hw := hw.pure kq_24
          replace hR3 := hR3.pure kq_24
          replace hq1 := hq1.pure kq_24
          replace hq2 := hq2.pure kq_24
          replace hd_4 := hd_4.pure kq_24
          replace hq7 := hq7.pure kq_24
          refine WL.want rfl rfl rfl (WL.toStr Try.underlying30 Try.underlying5 Try.underlying9 hq2 rfl rfl (?_))
          refine WL.nil ?_
          refine WX.one ⟨hd_4, ?_⟩
          refine ⟨?_, trivial, trivial, trivial, trivial⟩
          refine DT.step [(82, _)] rfl ⟨rfl, trivial⟩ rfl (fun wq_25 kq_25 => ?_)
          have zs_kq_25 := kq_25.size
          replace hf := hf.pure kq_25
          replace hb := hb.pure kq_25
          replace hw := hw.pure kq_25
          replace hR3 := hR3.pure kq_25
          replace hq1 := hq1.pure kq_25
          replace hq2 := hq2.pure kq_25
          replace hd_4 := hd_4.pure kq_25
          replace hq7 := hq7.pure kq_25
          refine WL.want rfl rfl rfl (?_)
          refine WL.make (e := eb) (0 : UInt8) 128 128 Try.underlying30 info_5 rfl rfl rfl ⟨rfl, rfl, Nat.le_refl _⟩ (by decide) rfl ?_
          intro g8 w8 hq8 k8 z8 eg8
          have zs_k8 := k8.size
          replace hf := hf.pure k8
          replace hb := hb.pure k8
          replace hw := hw.pure k8
          replace hR3 := hR3.pure k8
          replace hq1 := hq1.pure k8
          replace hq2 := hq2.pure k8
          replace hd_4 := hd_4.pure k8
          replace hq7 := hq7.pure k8
          refine WL.nil ?_
          refine WX.one ⟨hd_4, ?_⟩
          refine ⟨?_, trivial, trivial, trivial⟩
          refine DT.step [(85, _), (82, _)] rfl ⟨rfl, rfl, trivial⟩ rfl (fun wq_26 kq_26 => ?_)
          have zs_kq_26 := kq_26.size
          replace hf := hf.pure kq_26
          replace hb := hb.pure kq_26
          replace hw := hw.pure kq_26
          replace hR3 := hR3.pure kq_26
          replace hq1 := hq1.pure kq_26
          replace hq2 := hq2.pure kq_26
          replace hd_4 := hd_4.pure kq_26
          replace hq7 := hq7.pure kq_26
          replace hq8 := hq8.pure kq_26
          refine WL.want rfl rfl rfl (WL.toStr Try.underlying30 Try.underlying5 Try.underlying9 hq8.rsl rfl rfl (?_))
          refine WL.nil ?_
          refine WX.one ⟨hd_4, ?_⟩
          refine ⟨?_, trivial, trivial⟩
          refine DT.step [(84, _), (86, _), (82, _)] rfl ⟨rfl, rfl, rfl, trivial⟩ rfl (fun wq_27 kq_27 => ?_)
          have zs_kq_27 := kq_27.size
          replace hf := hf.pure kq_27
          replace hb := hb.pure kq_27
          replace hw := hw.pure kq_27
          replace hR3 := hR3.pure kq_27
          replace hq1 := hq1.pure kq_27
          replace hq2 := hq2.pure kq_27
          replace hd_4 := hd_4.pure kq_27
          replace hq7 := hq7.pure kq_27
          replace hq8 := hq8.pure kq_27
          refine WL.want rfl rfl rfl (?_)
          refine WL.sneqF rfl rfl rfl ((by rw [hx2]; rfl)) ?_
          refine WL.nil ?_
          refine WX.one ⟨hd_4, ?_⟩
          refine ⟨?_, trivial⟩
          refine DT.step [(82, _), (87, _)] rfl ⟨rfl, rfl, trivial⟩ rfl (fun wq_28 kq_28 => ?_)
          have zs_kq_28 := kq_28.size
          replace hf := hf.pure kq_28
          replace hb := hb.pure kq_28
          replace hw := hw.pure kq_28
          replace hR3 := hR3.pure kq_28
          replace hq1 := hq1.pure kq_28
          replace hq2 := hq2.pure kq_28
          replace hd_4 := hd_4.pure kq_28
          replace hq7 := hq7.pure kq_28
          replace hq8 := hq8.pure kq_28
          refine WL.pickF rfl rfl rfl (?_)
          refine WL.nil ?_
          refine WX.one ⟨hd_4, ?_⟩
          refine DT.done (fun we_29 ke_29 => ?_) _
          have zs_ke_29 := ke_29.size
          replace hf := hf.pure ke_29
          replace hb := hb.pure ke_29
          replace hw := hw.pure ke_29
          replace hR3 := hR3.pure ke_29
          replace hq1 := hq1.pure ke_29
          replace hq2 := hq2.pure ke_29
          replace hd_4 := hd_4.pure ke_29
          replace hq7 := hq7.pure ke_29
          replace hq8 := hq8.pure ke_29
          rotate_left
          refine DT.step [(82, _)] rfl ⟨rfl, trivial⟩ rfl (fun wq_24 kq_24 => ?_)
          have zs_kq_24 := kq_24.size
          replace hf := hf.pure kq_24
          replace hb := hb.pure kq_24
          replace hw := hw.pure kq_24
          replace hR3 := hR3.pure kq_24
          replace hq1 := hq1.pure kq_24
          replace hq2 := hq2.pure kq_24
          replace hd_4 := hd_4.pure kq_24
          replace hq7 := hq7.pure kq_24
          refine WL.want rfl rfl rfl (?_)
          refine WL.make (e := eb) (0 : UInt8) 128 128 Try.underlying30 info_5 rfl rfl rfl ⟨rfl, rfl, Nat.le_refl _⟩ (by decide) rfl ?_
          intro g8 w8 hq8 k8 z8 eg8
          have zs_k8 := k8.size
          replace hf := hf.pure k8
          replace hb := hb.pure k8
          replace hw := hw.pure k8
          replace hR3 := hR3.pure k8
          replace hq1 := hq1.pure k8
          replace hq2 := hq2.pure k8
          replace hd_4 := hd_4.pure k8
          replace hq7 := hq7.pure k8
          refine WL.nil ?_
          refine WX.one ⟨hd_4, ?_⟩
          refine ⟨?_, ?_, trivial, trivial, trivial⟩
          refine DT.step [(83, _), (82, _)] rfl ⟨rfl, rfl, trivial⟩ rfl (fun wq_25 kq_25 => ?_)
          have zs_kq_25 := kq_25.size
          replace hf := hf.pure kq_25
          replace hb := hb.pure kq_25
          replace hw := hw.pure kq_25
          replace hR3 := hR3.pure kq_25
          replace hq1 := hq1.pure kq_25
          replace hq2 := hq2.pure kq_25
          replace hd_4 := hd_4.pure kq_25
          replace hq7 := hq7.pure kq_25
          replace hq8 := hq8.pure kq_25
          refine WL.want rfl rfl rfl (WL.toStr Try.underlying30 Try.underlying5 Try.underlying9 hq2 rfl rfl (?_))
          refine WL.nil ?_
          refine WX.one ⟨hd_4, ?_⟩
          refine ⟨?_, trivial, trivial, trivial⟩
          refine DT.step [(85, _), (82, _)] rfl ⟨rfl, rfl, trivial⟩ rfl (fun wq_26 kq_26 => ?_)
          have zs_kq_26 := kq_26.size
          replace hf := hf.pure kq_26
          replace hb := hb.pure kq_26
          replace hw := hw.pure kq_26
          replace hR3 := hR3.pure kq_26
          replace hq1 := hq1.pure kq_26
          replace hq2 := hq2.pure kq_26
          replace hd_4 := hd_4.pure kq_26
          replace hq7 := hq7.pure kq_26
          replace hq8 := hq8.pure kq_26
          refine WL.want rfl rfl rfl (WL.toStr Try.underlying30 Try.underlying5 Try.underlying9 hq8.rsl rfl rfl (?_))
          refine WL.nil ?_
          refine WX.one ⟨hd_4, ?_⟩
          refine ⟨?_, trivial, trivial⟩
          refine DT.step [(84, _), (86, _), (82, _)] rfl ⟨rfl, rfl, rfl, trivial⟩ rfl (fun wq_27 kq_27 => ?_)
          have zs_kq_27 := kq_27.size
          replace hf := hf.pure kq_27
          replace hb := hb.pure kq_27
          replace hw := hw.pure kq_27
          replace hR3 := hR3.pure kq_27
          replace hq1 := hq1.pure kq_27
          replace hq2 := hq2.pure kq_27
          replace hd_4 := hd_4.pure kq_27
          replace hq7 := hq7.pure kq_27
          replace hq8 := hq8.pure kq_27
          refine WL.want rfl rfl rfl (?_)
          refine WL.sneqF rfl rfl rfl ((by rw [hx2]; rfl)) ?_
          refine WL.nil ?_
          refine WX.one ⟨hd_4, ?_⟩
          refine ⟨?_, trivial⟩
          refine DT.step [(82, _), (87, _)] rfl ⟨rfl, rfl, trivial⟩ rfl (fun wq_28 kq_28 => ?_)
          have zs_kq_28 := kq_28.size
          replace hf := hf.pure kq_28
          replace hb := hb.pure kq_28
          replace hw := hw.pure kq_28
          replace hR3 := hR3.pure kq_28
          replace hq1 := hq1.pure kq_28
          replace hq2 := hq2.pure kq_28
          replace hd_4 := hd_4.pure kq_28
          replace hq7 := hq7.pure kq_28
          replace hq8 := hq8.pure kq_28
          refine WL.pickF rfl rfl rfl (?_)
          refine WL.nil ?_
          refine WX.one ⟨hd_4, ?_⟩
          refine DT.done (fun we_29 ke_29 => ?_) _
          have zs_ke_29 := ke_29.size
          replace hf := hf.pure ke_29
          replace hb := hb.pure ke_29
          replace hw := hw.pure ke_29
          replace hR3 := hR3.pure ke_29
          replace hq1 := hq1.pure ke_29
          replace hq2 := hq2.pure ke_29
          replace hd_4 := hd_4.pure ke_29
          replace hq7 := hq7.pure ke_29
          replace hq8 := hq8.pure ke_29
          rotate_left
          refine DT.step [(85, _), (82, _)] rfl ⟨rfl, rfl, trivial⟩ rfl (fun wq_25 kq_25 => ?_)
          have zs_kq_25 := kq_25.size
          replace hf := hf.pure kq_25
          replace hb := hb.pure kq_25
          replace hw := hw.pure kq_25
          replace hR3 := hR3.pure kq_25
          replace hq1 := hq1.pure kq_25
          replace hq2 := hq2.pure kq_25
          replace hd_4 := hd_4.pure kq_25
          replace hq7 := hq7.pure kq_25
          replace hq8 := hq8.pure kq_25
          refine WL.want rfl rfl rfl (WL.toStr Try.underlying30 Try.underlying5 Try.underlying9 hq8.rsl rfl rfl (?_))
          refine WL.nil ?_
          refine WX.one ⟨hd_4, ?_⟩
          refine ⟨?_, trivial, trivial, trivial⟩
          refine DT.step [(83, _), (82, _)] rfl ⟨rfl, rfl, trivial⟩ rfl (fun wq_26 kq_26 => ?_)
          have zs_kq_26 := kq_26.size
          replace hf := hf.pure kq_26
          replace hb := hb.pure kq_26
          replace hw := hw.pure kq_26
          replace hR3 := hR3.pure kq_26
          replace hq1 := hq1.pure kq_26
          replace hq2 := hq2.pure kq_26
          replace hd_4 := hd_4.pure kq_26
          replace hq7 := hq7.pure kq_26
          replace hq8 := hq8.pure kq_26
          refine WL.want rfl rfl rfl (WL.toStr Try.underlying30 Try.underlying5 Try.underlying9 hq2 rfl rfl (?_))
          refine WL.nil ?_
          refine WX.one ⟨hd_4, ?_⟩
          refine ⟨?_, trivial, trivial⟩
          refine DT.step [(84, _), (86, _), (82, _)] rfl ⟨rfl, rfl, rfl, trivial⟩ rfl (fun wq_27 kq_27 => ?_)
          have zs_kq_27 := kq_27.size
          replace hf := hf.pure kq_27
          replace hb := hb.pure kq_27
          replace hw := hw.pure kq_27
          replace hR3 := hR3.pure kq_27
          replace hq1 := hq1.pure kq_27
          replace hq2 := hq2.pure kq_27
          replace hd_4 := hd_4.pure kq_27
          replace hq7 := hq7.pure kq_27
          replace hq8 := hq8.pure kq_27
          refine WL.want rfl rfl rfl (?_)
          refine WL.sneqF rfl rfl rfl ((by rw [hx2]; rfl)) ?_
          refine WL.nil ?_
          refine WX.one ⟨hd_4, ?_⟩
          refine ⟨?_, trivial⟩
          refine DT.step [(82, _), (87, _)] rfl ⟨rfl, rfl, trivial⟩ rfl (fun wq_28 kq_28 => ?_)
          have zs_kq_28 := kq_28.size
          replace hf := hf.pure kq_28
          replace hb := hb.pure kq_28
          replace hw := hw.pure kq_28
          replace hR3 := hR3.pure kq_28
          replace hq1 := hq1.pure kq_28
          replace hq2 := hq2.pure kq_28
          replace hd_4 := hd_4.pure kq_28
          replace hq7 := hq7.pure kq_28
          replace hq8 := hq8.pure kq_28
          refine WL.pickF rfl rfl rfl (?_)
          refine WL.nil ?_
          refine WX.one ⟨hd_4, ?_⟩
          refine DT.done (fun we_29 ke_29 => ?_) _
          have zs_ke_29 := ke_29.size
          replace hf := hf.pure ke_29
          replace hb := hb.pure ke_29
          replace hw := hw.pure ke_29
          replace hR3 := hR3.pure ke_29
          replace hq1 := hq1.pure ke_29
          replace hq2 := hq2.pure ke_29
          replace hd_4 := hd_4.pure ke_29
          replace hq7 := hq7.pure ke_29
          replace hq8 := hq8.pure ke_29
          rotate_left
          refine DT.step [(82, _)] rfl ⟨rfl, trivial⟩ rfl (fun wq_23 kq_23 => ?_)
          have zs_kq_23 := kq_23.size
          replace hf := hf.pure kq_23
          replace hb := hb.pure kq_23
          replace hw := hw.pure kq_23
          replace hR3 := hR3.pure kq_23
          replace hq1 := hq1.pure kq_23
          replace hq2 := hq2.pure kq_23
          replace hd_4 := hd_4.pure kq_23
          replace hq7 := hq7.pure kq_23
          refine WL.want rfl rfl rfl (?_)
          refine WL.make (e := eb) (0 : UInt8) 128 128 Try.underlying30 info_5 rfl rfl rfl ⟨rfl, rfl, Nat.le_refl _⟩ (by decide) rfl ?_
          intro g8 w8 hq8 k8 z8 eg8
          have zs_k8 := k8.size
          replace hf := hf.pure k8
          replace hb := hb.pure k8
          replace hw := hw.pure k8
          replace hR3 := hR3.pure k8
          replace hq1 := hq1.pure k8
          replace hq2 := hq2.pure k8
          replace hd_4 := hd_4.pure k8
          replace hq7 := hq7.pure k8
          refine WL.nil ?_
          refine WX.one ⟨hd_4, ?_⟩
          refine ⟨?_, trivial, ?_, trivial, trivial, trivial⟩
          refine DT.step [(10, _), (82, _)] rfl ⟨rfl, rfl, trivial⟩ rfl (fun wq_24 kq_24 => ?_)
          have zs_kq_24 := kq_24.size
          replace hf := hf.pure kq_24
          replace hb := hb.pure kq_24
          replace hw := hw.pure kq_24
          replace hR3 := hR3.pure kq_24
          replace hq1 := hq1.pure kq_24
          replace hq2 := hq2.pure kq_24
          replace hd_4 := hd_4.pure kq_24
          replace hq7 := hq7.pure kq_24
          replace hq8 := hq8.pure kq_24
          refine WL.want rfl rfl rfl (WL.move rfl rfl (?_))
          refine WL.nil ?_
          refine WX.one ⟨hd_4, ?_⟩
          refine ⟨?_, ?_, trivial, trivial, trivial⟩
          refine DT.step [(83, _), (82, _)] rfl ⟨rfl, rfl, trivial⟩ rfl (fun wq_25 kq_25 => ?_)
          have zs_kq_25 := kq_25.size
          replace hf := hf.pure kq_25
          replace hb := hb.pure kq_25
          replace hw := hw.pure kq_25
          replace hR3 := hR3.pure kq_25
          replace hq1 := hq1.pure kq_25
          replace hq2 := hq2.pure kq_25
          replace hd_4 := hd_4.pure kq_25
          replace hq7 := hq7.pure kq_25
          replace hq8 := hq8.pure kq_25
          refine WL.want rfl rfl rfl (WL.toStr Try.underlying30 Try.underlying5 Try.underlying9 hq2 rfl rfl (?_))
          refine WL.nil ?_
          refine WX.one ⟨hd_4, ?_⟩
          refine ⟨?_, trivial, trivial, trivial⟩
          refine DT.step [(85, _), (82, _)] rfl ⟨rfl, rfl, trivial⟩ rfl (fun wq_26 kq_26 => ?_)
          have zs_kq_26 := kq_26.size
          replace hf := hf.pure kq_26
          replace hb := hb.pure kq_26
          replace hw := hw.pure kq_26
          replace hR3 := hR3.pure kq_26
          replace hq1 := hq1.pure kq_26
          replace hq2 := hq2.pure kq_26
          replace hd_4 := hd_4.pure kq_26
          replace hq7 := hq7.pure kq_26
          replace hq8 := hq8.pure kq_26
          refine WL.want rfl rfl rfl (WL.toStr Try.underlying30 Try.underlying5 Try.underlying9 hq8.rsl rfl rfl (?_))
          refine WL.nil ?_
          refine WX.one ⟨hd_4, ?_⟩
          refine ⟨?_, trivial, trivial⟩
          refine DT.step [(84, _), (86, _), (82, _)] rfl ⟨rfl, rfl, rfl, trivial⟩ rfl (fun wq_27 kq_27 => ?_)
          have zs_kq_27 := kq_27.size
          replace hf := hf.pure kq_27
          replace hb := hb.pure kq_27
          replace hw := hw.pure kq_27
          replace hR3 := hR3.pure kq_27
          replace hq1 := hq1.pure kq_27
          replace hq2 := hq2.pure kq_27
          replace hd_4 := hd_4.pure kq_27
          replace hq7 := hq7.pure kq_27
          replace hq8 := hq8.pure kq_27
          refine WL.want rfl rfl rfl (?_)
          refine WL.sneqF rfl rfl rfl ((by rw [hx2]; rfl)) ?_
          refine WL.nil ?_
          refine WX.one ⟨hd_4, ?_⟩
          refine ⟨?_, trivial⟩
          refine DT.step [(82, _), (87, _)] rfl ⟨rfl, rfl, trivial⟩ rfl (fun wq_28 kq_28 => ?_)
          have zs_kq_28 := kq_28.size
          replace hf := hf.pure kq_28
          replace hb := hb.pure kq_28
          replace hw := hw.pure kq_28
          replace hR3 := hR3.pure kq_28
          replace hq1 := hq1.pure kq_28
          replace hq2 := hq2.pure kq_28
          replace hd_4 := hd_4.pure kq_28
          replace hq7 := hq7.pure kq_28
          replace hq8 := hq8.pure kq_28
          refine WL.pickF rfl rfl rfl (?_)
          refine WL.nil ?_
          refine WX.one ⟨hd_4, ?_⟩
          refine DT.done (fun we_29 ke_29 => ?_) _
          have zs_ke_29 := ke_29.size
          replace hf := hf.pure ke_29
          replace hb := hb.pure ke_29
          replace hw := hw.pure ke_29
          replace hR3 := hR3.pure ke_29
          replace hq1 := hq1.pure ke_29
          replace hq2 := hq2.pure ke_29
          replace hd_4 := hd_4.pure ke_29
          replace hq7 := hq7.pure ke_29
          replace hq8 := hq8.pure ke_29
          rotate_left
          refine DT.step [(85, _), (82, _)] rfl ⟨rfl, rfl, trivial⟩ rfl (fun wq_25 kq_25 => ?_)
          have zs_kq_25 := kq_25.size
          replace hf := hf.pure kq_25
          replace hb := hb.pure kq_25
          replace hw := hw.pure kq_25
          replace hR3 := hR3.pure kq_25
          replace hq1 := hq1.pure kq_25
          replace hq2 := hq2.pure kq_25
          replace hd_4 := hd_4.pure kq_25
          replace hq7 := hq7.pure kq_25
          replace hq8 := hq8.pure kq_25
          refine WL.want rfl rfl rfl (WL.toStr Try.underlying30 Try.underlying5 Try.underlying9 hq8.rsl rfl rfl (?_))
          refine WL.nil ?_
          refine WX.one ⟨hd_4, ?_⟩
          refine ⟨?_, trivial, trivial, trivial⟩
          refine DT.step [(83, _), (82, _)] rfl ⟨rfl, rfl, trivial⟩ rfl (fun wq_26 kq_26 => ?_)
          have zs_kq_26 := kq_26.size
          replace hf := hf.pure kq_26
          replace hb := hb.pure kq_26
          replace hw := hw.pure kq_26
          replace hR3 := hR3.pure kq_26
          replace hq1 := hq1.pure kq_26
          replace hq2 := hq2.pure kq_26
          replace hd_4 := hd_4.pure kq_26
          replace hq7 := hq7.pure kq_26
          replace hq8 := hq8.pure kq_26
          refine WL.want rfl rfl rfl (WL.toStr Try.underlying30 Try.underlying5 Try.underlying9 hq2 rfl rfl (?_))
          refine WL.nil ?_
          refine WX.one ⟨hd_4, ?_⟩
          refine ⟨?_, trivial, trivial⟩
          refine DT.step [(84, _), (86, _), (82, _)] rfl ⟨rfl, rfl, rfl, trivial⟩ rfl (fun wq_27 kq_27 => ?_)
          have zs_kq_27 := kq_27.size
          replace hf := hf.pure kq_27
          replace hb := hb.pure kq_27
          replace hw := hw.pure kq_27
          replace hR3 := hR3.pure kq_27
          replace hq1 := hq1.pure kq_27
          replace hq2 := hq2.pure kq_27
          replace hd_4 := hd_4.pure kq_27
          replace hq7 := hq7.pure kq_27
          replace hq8 := hq8.pure kq_27
          refine WL.want rfl rfl rfl (?_)
          refine WL.sneqF rfl rfl rfl ((by rw [hx2]; rfl)) ?_
          refine WL.nil ?_
          refine WX.one ⟨hd_4, ?_⟩
          refine ⟨?_, trivial⟩
          refine DT.step [(82, _), (87, _)] rfl ⟨rfl, rfl, trivial⟩ rfl (fun wq_28 kq_28 => ?_)
          have zs_kq_28 := kq_28.size
          replace hf := hf.pure kq_28
          replace hb := hb.pure kq_28
          replace hw := hw.pure kq_28
          replace hR3 := hR3.pure kq_28
          replace hq1 := hq1.pure kq_28
          replace hq2 := hq2.pure kq_28
          replace hd_4 := hd_4.pure kq_28
          replace hq7 := hq7.pure kq_28
          replace hq8 := hq8.pure kq_28
          refine WL.pickF rfl rfl rfl (?_)
          refine WL.nil ?_
          refine WX.one ⟨hd_4, ?_⟩
          refine DT.done (fun we_29 ke_29 => ?_) _
          have zs_ke_29 := ke_29.size
          replace hf := hf.pure ke_29
          replace hb := hb.pure ke_29
          replace hw := hw.pure ke_29
          replace hR3 := hR3.pure ke_29
          replace hq1 := hq1.pure ke_29
          replace hq2 := hq2.pure ke_29
          replace hd_4 := hd_4.pure ke_29
          replace hq7 := hq7.pure ke_29
          replace hq8 := hq8.pure ke_29
          rotate_left
          refine DT.step [(85, _), (82, _)] rfl ⟨rfl, rfl, trivial⟩ rfl (fun wq_24 kq_24 => ?_)
          have zs_kq_24 := kq_24.size
          replace hf := hf.pure kq_24
          replace hb := hb.pure kq_24
          replace hw := hw.pure kq_24
          replace hR3 := hR3.pure kq_24
          replace hq1 := hq1.pure kq_24
          replace hq2 := hq2.pure kq_24
          replace hd_4 := hd_4.pure kq_24
          replace hq7 := hq7.pure kq_24
          replace hq8 := hq8.pure kq_24
          refine WL.want rfl rfl rfl (WL.toStr Try.underlying30 Try.underlying5 Try.underlying9 hq8.rsl rfl rfl (?_))
          refine WL.nil ?_
          refine WX.one ⟨hd_4, ?_⟩
          refine ⟨?_, trivial, trivial, trivial, trivial⟩
          refine DT.step [(10, _), (82, _)] rfl ⟨rfl, rfl, trivial⟩ rfl (fun wq_25 kq_25 => ?_)
          have zs_kq_25 := kq_25.size
          replace hf := hf.pure kq_25
          replace hb := hb.pure kq_25
          replace hw := hw.pure kq_25
          replace hR3 := hR3.pure kq_25
          replace hq1 := hq1.pure kq_25
          replace hq2 := hq2.pure kq_25
          replace hd_4 := hd_4.pure kq_25
          replace hq7 := hq7.pure kq_25
          replace hq8 := hq8.pure kq_25
          refine WL.want rfl rfl rfl (WL.move rfl rfl (?_))
          refine WL.nil ?_
          refine WX.one ⟨hd_4, ?_⟩
          refine ⟨?_, trivial, trivial, trivial⟩
          refine DT.step [(83, _), (82, _)] rfl ⟨rfl, rfl, trivial⟩ rfl (fun wq_26 kq_26 => ?_)
          have zs_kq_26 := kq_26.size
          replace hf := hf.pure kq_26
          replace hb := hb.pure kq_26
          replace hw := hw.pure kq_26
          replace hR3 := hR3.pure kq_26
          replace hq1 := hq1.pure kq_26
          replace hq2 := hq2.pure kq_26
          replace hd_4 := hd_4.pure kq_26
          replace hq7 := hq7.pure kq_26
          replace hq8 := hq8.pure kq_26
          refine WL.want rfl rfl rfl (WL.toStr Try.underlying30 Try.underlying5 Try.underlying9 hq2 rfl rfl (?_))
          refine WL.nil ?_
          refine WX.one ⟨hd_4, ?_⟩
          refine ⟨?_, trivial, trivial⟩
          refine DT.step [(84, _), (86, _), (82, _)] rfl ⟨rfl, rfl, rfl, trivial⟩ rfl (fun wq_27 kq_27 => ?_)
          have zs_kq_27 := kq_27.size
          replace hf := hf.pure kq_27
          replace hb := hb.pure kq_27
          replace hw := hw.pure kq_27
          replace hR3 := hR3.pure kq_27
          replace hq1 := hq1.pure kq_27
          replace hq2 := hq2.pure kq_27
          replace hd_4 := hd_4.pure kq_27
          replace hq7 := hq7.pure kq_27
          replace hq8 := hq8.pure kq_27
          refine WL.want rfl rfl rfl (?_)
          refine WL.sneqF rfl rfl rfl ((by rw [hx2]; rfl)) ?_
          refine WL.nil ?_
          refine WX.one ⟨hd_4, ?_⟩
          refine ⟨?_, trivial⟩
          refine DT.step [(82, _), (87, _)] rfl ⟨rfl, rfl, trivial⟩ rfl (fun wq_28 kq_28 => ?_)
          have zs_kq_28 := kq_28.size
          replace hf := hf.pure kq_28
          replace hb := hb.pure kq_28
          replace hw := hw.pure kq_28
          replace hR3 := hR3.pure kq_28
          replace hq1 := hq1.pure kq_28
          replace hq2 := hq2.pure kq_28
          replace hd_4 := hd_4.pure kq_28
          replace hq7 := hq7.pure kq_28
          replace hq8 := hq8.pure kq_28
          refine WL.pickF rfl rfl rfl (?_)
          refine WL.nil ?_
          refine WX.one ⟨hd_4, ?_⟩
          refine DT.done (fun we_29 ke_29 => ?_) _
          have zs_ke_29 := ke_29.size
          replace hf := hf.pure ke_29
          replace hb := hb.pure ke_29
          replace hw := hw.pure ke_29
          replace hR3 := hR3.pure ke_29
          replace hq1 := hq1.pure ke_29
          replace hq2 := hq2.pure ke_29
          replace hd_4 := hd_4.pure ke_29
          replace hq7 := hq7.pure ke_29
          replace hq8 := hq8.pure ke_29
          rotate_left
          all_goals
            refine WX.then_normal (WC.cond_false rfl (WC.skip (WX.block_normal (WX.then_normal (WC.region (WL.move rfl rfl (WL.add64 rfl rfl (by first | omega | (constructor <;> omega)) rfl (?_))))))))
            refine WL.assign rfl rfl (WL.nil (?_))
            exact WX.loop_next (i + 1) ⟨rfl, rfl, rfl, rfl, trivial⟩ ⟨by omega, hf, hb, hw, _, sd3, sn3, us3, sg3, hC, sw3, hR3⟩ (by omega)
        ·
          refine WL.pass rfl rfl rfl rfl (WL.pass rfl rfl rfl rfl (WL.pass rfl rfl rfl rfl (WL.want rfl rfl rfl (WL.pickF rfl rfl rfl (WL.pickF rfl rfl rfl (WL.nil (WX.then_normal (?_))))))))
          refine WC.cond_false rfl (WC.skip (WX.then_normal (WC.seq (WC.region (WL.move rfl rfl (?_))))))
          refine WL.call eg_16 rfl rfl (ReadU hR3 us3 (by unfold inS; rw [sd3, sn3]; decide) (sg3 1)) ?_
          rintro v w5 ⟨⟨r1, rfl, hx1, hq1⟩, k5⟩
          rw [hA] at hx1
          have zs_k5 := k5.size
          replace hf := hf.pure k5
          replace hb := hb.pure k5
          replace hw := hw.pure k5
          replace hR3 := hR3.pure k5
          refine WL.move rfl rfl (?_)
          refine WL.extract rfl rfl rfl ?_
          refine WL.extract rfl rfl rfl (WL.assign rfl rfl (WL.assign rfl rfl (WL.nil (WX.then_normal (WC.seq (WC.region (WL.move rfl rfl (?_))))))))
          refine WL.call eg_16 rfl rfl (ReadU hR3 us3 (by unfold inS; rw [sd3, sn3]; decide) (sg3 0)) ?_
          rintro v w6 ⟨⟨r2, rfl, hx2, hq2⟩, k6⟩
          rw [hC] at hx2
          have zs_k6 := k6.size
          replace hf := hf.pure k6
          replace hb := hb.pure k6
          replace hw := hw.pure k6
          replace hR3 := hR3.pure k6
          replace hq1 := hq1.pure k6
          refine WL.move rfl rfl (?_)
          refine WL.extract rfl rfl rfl ?_
          refine WL.extract rfl rfl rfl (WL.assign rfl rfl (WL.assign rfl rfl (WL.nil (WX.then_normal (WC.seq (?_))))))
          have zw6 := hw.size
          obtain ⟨b1, o1, rfl⟩ := hf.place hx
          refine WC.drawM (Nob) [0, 1, 2, 3, 4, 5, 6, 7, 8, 9, 10, 11, 12] [13, 14, 15, 16, 17, 18, 19, 20, 21, 22, 23] mixed rfl rfl (fun wd_3 kd_3 zd_3 => ?_)
          have zs_kd_3 := kd_3.size
          replace hf := hf.pure kd_3
          replace hb := hb.pure kd_3
          replace hw := hw.pure kd_3
          replace hR3 := hR3.pure kd_3
          replace hq1 := hq1.pure kd_3
          replace hq2 := hq2.pure kd_3
          apply DQT.step (E' := [(9, _)])
          case ho => rfl
          case hs => exact ⟨rfl, trivial⟩
          case hk => rfl
          case h1 =>
            intro wq_5 kq_5
            refine WL.move rfl rfl (?_)
            refine WL.nil ?_
            exact WX.one ⟨rfl, by first | exact Chg.refl _ _ | assumption⟩
          apply DQT.step (E' := [(65, _)])
          case ho => rfl
          case hs => exact ⟨rfl, trivial⟩
          case hk => rfl
          case h1 =>
            intro wq_6 kq_6
            refine WL.neqF rfl rfl rfl (by first | rfl | omega | decide) ?_
            refine WL.nil ?_
            exact WX.one ⟨rfl, by first | exact Chg.refl _ _ | assumption⟩
          apply DQT.step (E' := [(66, _)])
          case ho => rfl
          case hs => exact ⟨rfl, trivial⟩
          case hk => rfl
          case h1 =>
            intro wq_7 kq_7
            refine WL.move rfl rfl (?_)
            refine WL.nil ?_
            exact WX.one ⟨rfl, by first | exact Chg.refl _ _ | assumption⟩
          apply DQT.step (E' := [(11, _), (67, _)])
          case ho => rfl
          case hs => exact ⟨rfl, rfl, trivial⟩
          case hk => rfl
          case h1 =>
            intro wq_8 kq_8
            refine WL.want rfl rfl rfl (WL.move rfl rfl (?_))
            refine WL.nil ?_
            exact WX.one ⟨rfl, by first | exact Chg.refl _ _ | assumption⟩
          apply DQT.step (E' := [(68, _), (67, _)])
          case ho => rfl
          case hs => exact ⟨rfl, rfl, trivial⟩
          case hk => rfl
          case h1 =>
            intro wq_9 kq_9
            refine WL.want rfl rfl rfl (?_)
            refine WL.neqF rfl rfl rfl (by first | rfl | omega | decide) ?_
            refine WL.nil ?_
            exact WX.one ⟨rfl, by first | exact Chg.refl _ _ | assumption⟩
          apply DQT.step (E' := [(67, _), (69, _)])
          case ho => rfl
          case hs => exact ⟨rfl, rfl, trivial⟩
          case hk => rfl
          case h1 =>
            intro wq_10 kq_10
            refine WL.pickF rfl rfl rfl (?_)
            refine WL.nil ?_
            exact WX.one ⟨rfl, by first | exact Chg.refl _ _ | assumption⟩
          apply DQT.step (E' := [(70, _)])
          case ho => rfl
          case hs => exact ⟨rfl, trivial⟩
          case hk => rfl
          case h1 =>
            intro wq_11 kq_11
            refine WL.move rfl rfl (?_)
            refine WL.nil ?_
            exact WX.one ⟨rfl, by first | exact Chg.refl _ _ | assumption⟩
          apply DQT.step (E' := [(8, _), (71, _)])
          case ho => rfl
          case hs => exact ⟨rfl, rfl, trivial⟩
          case hk => rfl
          case h1 =>
            intro wq_12 kq_12
            refine WL.want rfl rfl rfl (WL.move rfl rfl (?_))
            refine WL.nil ?_
            exact WX.one ⟨rfl, by first | exact Chg.refl _ _ | assumption⟩
          apply DQT.step (E' := [(72, _), (71, _)])
          case ho => rfl
          case hs => exact ⟨rfl, rfl, trivial⟩
          case hk => rfl
          case h1 =>
            intro wq_13 kq_13
            have zs_kq_13 := kq_13.size
            replace hf := hf.pure kq_13
            replace hb := hb.pure kq_13
            replace hw := hw.pure kq_13
            replace hR3 := hR3.pure kq_13
            replace hq1 := hq1.pure kq_13
            replace hq2 := hq2.pure kq_13
            refine WL.want rfl rfl rfl (WL.toStr Try.underlying30 Try.underlying5 Try.underlying9 hq1 rfl rfl (?_))
            refine WL.nil ?_
            exact WX.one ⟨rfl, by first | exact Chg.refl _ _ | assumption⟩
          apply DQT.step (E' := [(0, _), (71, _)])
          case ho => rfl
          case hs => exact ⟨rfl, rfl, trivial⟩
          case hk => rfl
          case h1 =>
            intro wq_14 kq_14
            refine WL.want rfl rfl rfl (WL.move rfl rfl (?_))
            refine WL.nil ?_
            exact WX.one ⟨rfl, by first | exact Chg.refl _ _ | assumption⟩
          apply DQT.step (E' := [(7, _), (71, _)])
          case ho => rfl
          case hs => exact ⟨rfl, rfl, trivial⟩
          case hk => rfl
          case h1 =>
            intro wq_15 kq_15
            refine WL.want rfl rfl rfl (WL.move rfl rfl (?_))
            refine WL.nil ?_
            exact WX.one ⟨rfl, by first | exact Chg.refl _ _ | assumption⟩
          apply DQT.step (E' := [(74, _), (75, _), (71, _)])
          case ho => rfl
          case hs => exact ⟨rfl, rfl, rfl, trivial⟩
          case hk => rfl
          case h1 =>
            intro wq_16 kq_16
            have zs_kq_16 := kq_16.size
            replace hf := hf.pure kq_16
            replace hb := hb.pure kq_16
            replace hw := hw.pure kq_16
            replace hR3 := hR3.pure kq_16
            replace hq1 := hq1.pure kq_16
            replace hq2 := hq2.pure kq_16
            refine WL.want rfl rfl rfl (?_)
            refine WL.indexC hf Try.underlying22 Try.sizeOf3 rfl rfl ⟨hx, rfl⟩ rfl ?_
            refine WL.nil ?_
            exact WX.one ⟨rfl, by first | exact Chg.refl _ _ | assumption⟩
          apply DQT.step (E' := [(76, _), (71, _)])
          case ho => rfl
          case hs => exact ⟨rfl, rfl, trivial⟩
          case hk => rfl
          case h1 =>
            intro wq_17 kq_17
            have zs_kq_17 := kq_17.size
            replace hf := hf.pure kq_17
            replace hb := hb.pure kq_17
            replace hw := hw.pure kq_17
            replace hR3 := hR3.pure kq_17
            replace hq1 := hq1.pure kq_17
            replace hq2 := hq2.pure kq_17
            refine WL.want rfl rfl rfl (WL.load Try.isAgg3 rfl ((hf.cellsAt hx) 0 _ rfl) rfl (?_))
            refine WL.nil ?_
            exact WX.one ⟨rfl, by first | exact Chg.refl _ _ | assumption⟩
          refine DQT.done (fun hd_4 => ?_)
          refine ⟨?_, trivial, trivial, trivial, trivial, trivial, trivial, trivial, trivial, trivial, trivial, trivial⟩
          refine DT.step [(77, _), (71, _)] rfl ⟨rfl, rfl, trivial⟩ rfl (fun wq_18 kq_18 => ?_)
          have zs_kq_18 := kq_18.size
          replace hf := hf.pure kq_18
          replace hb := hb.pure kq_18
          replace hw := hw.pure kq_18
          replace hR3 := hR3.pure kq_18
          replace hq1 := hq1.pure kq_18
          replace hq2 := hq2.pure kq_18
          replace hd_4 := hd_4.pure kq_18
          refine WL.want rfl rfl rfl (?_)
          refine WL.call eg_14 rfl rfl (hBc f _) ?_
          rintro v w7 ⟨⟨g7, rfl, hq7, hg71, hg72⟩, k7⟩
          have zs_k7 := k7.size
          replace hf := hf.pure k7
          replace hb := hb.pure k7
          replace hw := hw.pure k7
          replace hR3 := hR3.pure k7
          replace hq1 := hq1.pure k7
          replace hq2 := hq2.pure k7
          replace hd_4 := hd_4.pure k7
          refine WL.nil ?_
          refine WX.one ⟨hd_4, ?_⟩
          refine ⟨?_, trivial, trivial, trivial, trivial, trivial, trivial, trivial, trivial, trivial, trivial⟩
          refine DT.step [(78, _), (71, _)] rfl ⟨rfl, rfl, trivial⟩ rfl (fun wq_19 kq_19 => ?_)
          have zs_kq_19 := kq_19.size
          replace hf := hf.pure kq_19
          replace hb := hb.pure kq_19
          replace hw := hw.pure kq_19
          replace hR3 := hR3.pure kq_19
          replace hq1 := hq1.pure kq_19
          replace hq2 := hq2.pure kq_19
          replace hd_4 := hd_4.pure kq_19
          replace hq7 := hq7.pure kq_19
          refine WL.want rfl rfl rfl (WL.toStr Try.underlying30 Try.underlying5 Try.underlying9 hq7.rsl rfl rfl (?_))
          refine WL.nil ?_
          refine WX.one ⟨hd_4, ?_⟩
          refine ⟨?_, trivial, trivial, trivial, trivial, trivial, trivial, trivial, trivial, trivial⟩
          refine DT.step [(73, _), (79, _), (71, _)] rfl ⟨rfl, rfl, rfl, trivial⟩ rfl (fun wq_20 kq_20 => ?_)
          have zs_kq_20 := kq_20.size
          replace hf := hf.pure kq_20
          replace hb := hb.pure kq_20
          replace hw := hw.pure kq_20
          replace hR3 := hR3.pure kq_20
          replace hq1 := hq1.pure kq_20
          replace hq2 := hq2.pure kq_20
          replace hd_4 := hd_4.pure kq_20
          replace hq7 := hq7.pure kq_20
          refine WL.want rfl rfl rfl (?_)
          refine WL.sneqF rfl rfl rfl ((by rw [hx1])) ?_
          refine WL.nil ?_
          refine WX.one ⟨hd_4, ?_⟩
          refine ⟨?_, trivial, trivial, trivial, trivial, trivial, trivial, trivial, trivial⟩
          refine DT.step [(71, _), (80, _)] rfl ⟨rfl, rfl, trivial⟩ rfl (fun wq_21 kq_21 => ?_)
          have zs_kq_21 := kq_21.size
          replace hf := hf.pure kq_21
          replace hb := hb.pure kq_21
          replace hw := hw.pure kq_21
          replace hR3 := hR3.pure kq_21
          replace hq1 := hq1.pure kq_21
          replace hq2 := hq2.pure kq_21
          replace hd_4 := hd_4.pure kq_21
          replace hq7 := hq7.pure kq_21
          refine WL.pickF rfl rfl rfl (?_)
          refine WL.nil ?_
          refine WX.one ⟨hd_4, ?_⟩
          refine ⟨?_, trivial, trivial, trivial, trivial, trivial, trivial, trivial⟩
          refine DT.step [(81, _)] rfl ⟨rfl, trivial⟩ rfl (fun wq_22 kq_22 => ?_)
          have zs_kq_22 := kq_22.size
          replace hf := hf.pure kq_22
          replace hb := hb.pure kq_22
          replace hw := hw.pure kq_22
          replace hR3 := hR3.pure kq_22
          replace hq1 := hq1.pure kq_22
          replace hq2 := hq2.pure kq_22
          replace hd_4 := hd_4.pure kq_22
          replace hq7 := hq7.pure kq_22
          refine WL.move rfl rfl (?_)
          refine WL.nil ?_
          refine WX.one ⟨hd_4, ?_⟩
          refine ⟨?_, trivial, ?_, trivial, trivial, trivial, trivial⟩
          refine DT.step [(10, _), (82, _)] rfl ⟨rfl, rfl, trivial⟩ rfl (fun wq_23 kq_23 => ?_)
          have zs_kq_23 := kq_23.size
          replace hf := hf.pure kq_23
          replace hb := hb.pure kq_23
          replace hw := hw.pure kq_23
          replace hR3 := hR3.pure kq_23
          replace hq1 := hq1.pure kq_23
          replace hq2 := hq2.pure kq_23
          replace hd_4 := hd_4.pure kq_23
          replace hq7 := hq7.pure kq_23
          refine WL.want rfl rfl rfl (WL.move rfl rfl (?_))
          refine WL.nil ?_
          refine WX.one ⟨hd_4, ?_⟩
          refine ⟨?_, ?_, trivial, trivial, trivial, trivial⟩
          refine DT.step [(83, _), (82, _)] rfl ⟨rfl, rfl, trivial⟩ rfl (fun wq_24 kq_24 => ?_)
          have zs_kq_24 := kq_24.size
          replace hf := hf.pure kq_24
          replace hb := hb.pure kq_24
          replace hw := hw.pure kq_24
          replace hR3 := hR3.pure kq_24
          replace hq1 := hq1.pure kq_24
          replace hq2 := hq2.pure kq_24
          replace hd_4 := hd_4.pure kq_24
          replace hq7 := hq7.pure kq_24
          refine WL.want rfl rfl rfl (WL.toStr Try.underlying30 Try.underlying5 Try.underlying9 hq2 rfl rfl (?_))
          refine WL.nil ?_
          refine WX.one ⟨hd_4, ?_⟩
          refine ⟨?_, trivial, trivial, trivial, trivial⟩
          refine DT.step [(82, _)] rfl ⟨rfl, trivial⟩ rfl (fun wq_25 kq_25 => ?_)
          have zs_kq_25 := kq_25.size
          replace hf := hf.pure kq_25
          replace hb := hb.pure kq_25
          replace hw := hw.pure kq_25
          replace hR3 := hR3.pure kq_25
          replace hq1 := hq1.pure kq_25
          replace hq2 := hq2.pure kq_25
          replace hd_4 := hd_4.pure kq_25
          replace hq7 := hq7.pure kq_25
          refine WL.want rfl rfl rfl (?_)
          refine WL.make (e := eb) (0 : UInt8) 128 128 Try.underlying30 info_5 rfl rfl rfl ⟨rfl, rfl, Nat.le_refl _⟩ (by decide) rfl ?_
          intro g8 w8 hq8 k8 z8 eg8
          have zs_k8 := k8.size
          replace hf := hf.pure k8
          replace hb := hb.pure k8
          replace hw := hw.pure k8
          replace hR3 := hR3.pure k8
          replace hq1 := hq1.pure k8
          replace hq2 := hq2.pure k8
          replace hd_4 := hd_4.pure k8
          replace hq7 := hq7.pure k8
          refine WL.nil ?_
          refine WX.one ⟨hd_4, ?_⟩
          refine ⟨?_, trivial, trivial, trivial⟩
          refine DT.step [(85, _), (82, _)] rfl ⟨rfl, rfl, trivial⟩ rfl (fun wq_26 kq_26 => ?_)
          have zs_kq_26 := kq_26.size
          replace hf := hf.pure kq_26
          replace hb := hb.pure kq_26
          replace hw := hw.pure kq_26
          replace hR3 := hR3.pure kq_26
          replace hq1 := hq1.pure kq_26
          replace hq2 := hq2.pure kq_26
          replace hd_4 := hd_4.pure kq_26
          replace hq7 := hq7.pure kq_26
          replace hq8 := hq8.pure kq_26
          refine WL.want rfl rfl rfl (WL.toStr Try.underlying30 Try.underlying5 Try.underlying9 hq8.rsl rfl rfl (?_))
          refine WL.nil ?_
          refine WX.one ⟨hd_4, ?_⟩
          refine ⟨?_, trivial, trivial⟩
          refine DT.step [(84, _), (86, _), (82, _)] rfl ⟨rfl, rfl, rfl, trivial⟩ rfl (fun wq_27 kq_27 => ?_)
          have zs_kq_27 := kq_27.size
          replace hf := hf.pure kq_27
          replace hb := hb.pure kq_27
          replace hw := hw.pure kq_27
          replace hR3 := hR3.pure kq_27
          replace hq1 := hq1.pure kq_27
          replace hq2 := hq2.pure kq_27
          replace hd_4 := hd_4.pure kq_27
          replace hq7 := hq7.pure kq_27
          replace hq8 := hq8.pure kq_27
          refine WL.want rfl rfl rfl (?_)
          refine WL.sneqF rfl rfl rfl ((by rw [hx2]; rfl)) ?_
          refine WL.nil ?_
          refine WX.one ⟨hd_4, ?_⟩
          refine ⟨?_, trivial⟩
          refine DT.step [(82, _), (87, _)] rfl ⟨rfl, rfl, trivial⟩ rfl (fun wq_28 kq_28 => ?_)
          have zs_kq_28 := kq_28.size
          replace hf := hf.pure kq_28
          replace hb := hb.pure kq_28
          replace hw := hw.pure kq_28
          replace hR3 := hR3.pure kq_28
          replace hq1 := hq1.pure kq_28
          replace hq2 := hq2.pure kq_28
          replace hd_4 := hd_4.pure kq_28
          replace hq7 := hq7.pure kq_28
          replace hq8 := hq8.pure kq_28
          refine WL.pickF rfl rfl rfl (?_)
          refine WL.nil ?_
          refine WX.one ⟨hd_4, ?_⟩
          refine DT.done (fun we_29 ke_29 => ?_) _
          have zs_ke_29 := ke_29.size
          replace hf := hf.pure ke_29
          replace hb := hb.pure ke_29
          replace hw := hw.pure ke_29
          replace hR3 := hR3.pure ke_29
          replace hq1 := hq1.pure ke_29
          replace hq2 := hq2.pure ke_29
          replace hd_4 := hd_4.pure ke_29
          replace hq7 := hq7.pure ke_29
          replace hq8 := hq8.pure ke_29
          rotate_left
          refine DT.step [(82, _)] rfl ⟨rfl, trivial⟩ rfl (fun wq_24 kq_24 => ?_)
          have zs_kq_24 := kq_24.size
          replace hf := hf.pure kq_24
          replace hb := hb.pure kq_24
          replace hw := hw.pure kq_24
          replace hR3 := hR3.pure kq_24
          replace hq1 := hq1.pure kq_24
          replace hq2 := hq2.pure kq_24
          replace hd_4 := hd_4.pure kq_24
          replace hq7 := hq7.pure kq_24
          refine WL.want rfl rfl rfl (?_)
          refine WL.make (e := eb) (0 : UInt8) 128 128 Try.underlying30 info_5 rfl rfl rfl ⟨rfl, rfl, Nat.le_refl _⟩ (by decide) rfl ?_
          intro g8 w8 hq8 k8 z8 eg8
          have zs_k8 := k8.size
          replace hf := hf.pure k8
          replace hb := hb.pure k8
          replace hw := hw.pure k8
          replace hR3 := hR3.pure k8
          replace hq1 := hq1.pure k8
          replace hq2 := hq2.pure k8
          replace hd_4 := hd_4.pure k8
          replace hq7 := hq7.pure k8
          refine WL.nil ?_
          refine WX.one ⟨hd_4, ?_⟩
          refine ⟨?_, ?_, trivial, trivial, trivial⟩
          refine DT.step [(83, _), (82, _)] rfl ⟨rfl, rfl, trivial⟩ rfl (fun wq_25 kq_25 => ?_)
          have zs_kq_25 := kq_25.size
          replace hf := hf.pure kq_25
          replace hb := hb.pure kq_25
          replace hw := hw.pure kq_25
          replace hR3 := hR3.pure kq_25
          replace hq1 := hq1.pure kq_25
          replace hq2 := hq2.pure kq_25
          replace hd_4 := hd_4.pure kq_25
          replace hq7 := hq7.pure kq_25
          replace hq8 := hq8.pure kq_25
          refine WL.want rfl rfl rfl (WL.toStr Try.underlying30 Try.underlying5 Try.underlying9 hq2 rfl rfl (?_))
          refine WL.nil ?_
          refine WX.one ⟨hd_4, ?_⟩
          refine ⟨?_, trivial, trivial, trivial⟩
          refine DT.step [(85, _), (82, _)] rfl ⟨rfl, rfl, trivial⟩ rfl (fun wq_26 kq_26 => ?_)
          have zs_kq_26 := kq_26.size
          replace hf := hf.pure kq_26
          replace hb := hb.pure kq_26
          replace hw := hw.pure kq_26
          replace hR3 := hR3.pure kq_26
          replace hq1 := hq1.pure kq_26
          replace hq2 := hq2.pure kq_26
          replace hd_4 := hd_4.pure kq_26
          replace hq7 := hq7.pure kq_26
          replace hq8 := hq8.pure kq_26
          refine WL.want rfl rfl rfl (WL.toStr Try.underlying30 Try.underlying5 Try.underlying9 hq8.rsl rfl rfl (?_))
          refine WL.nil ?_
          refine WX.one ⟨hd_4, ?_⟩
          refine ⟨?_, trivial, trivial⟩
          refine DT.step [(84, _), (86, _), (82, _)] rfl ⟨rfl, rfl, rfl, trivial⟩ rfl (fun wq_27 kq_27 => ?_)
          have zs_kq_27 := kq_27.size
          replace hf := hf.pure kq_27
          replace hb := hb.pure kq_27
          replace hw := hw.pure kq_27
          replace hR3 := hR3.pure kq_27
          replace hq1 := hq1.pure kq_27
          replace hq2 := hq2.pure kq_27
          replace hd_4 := hd_4.pure kq_27
          replace hq7 := hq7.pure kq_27
          replace hq8 := hq8.pure kq_27
          refine WL.want rfl rfl rfl (?_)
          refine WL.sneqF rfl rfl rfl ((by rw [hx2]; rfl)) ?_
          refine WL.nil ?_
          refine WX.one ⟨hd_4, ?_⟩
          refine ⟨?_, trivial⟩
          refine DT.step [(82, _), (87, _)] rfl ⟨rfl, rfl, trivial⟩ rfl (fun wq_28 kq_28 => ?_)
          have zs_kq_28 := kq_28.size
          replace hf := hf.pure kq_28
          replace hb := hb.pure kq_28
          replace hw := hw.pure kq_28
          replace hR3 := hR3.pure kq_28
          replace hq1 := hq1.pure kq_28
          replace hq2 := hq2.pure kq_28
          replace hd_4 := hd_4.pure kq_28
          replace hq7 := hq7.pure kq_28
          replace hq8 := hq8.pure kq_28
          refine WL.pickF rfl rfl rfl (?_)
          refine WL.nil ?_
          refine WX.one ⟨hd_4, ?_⟩
          refine DT.done (fun we_29 ke_29 => ?_) _
          have zs_ke_29 := ke_29.size
          replace hf := hf.pure ke_29
          replace hb := hb.pure ke_29
          replace hw := hw.pure ke_29
          replace hR3 := hR3.pure ke_29
          replace hq1 := hq1.pure ke_29
          replace hq2 := hq2.pure ke_29
          replace hd_4 := hd_4.pure ke_29
          replace hq7 := hq7.pure ke_29
          replace hq8 := hq8.pure ke_29
          rotate_left
          refine DT.step [(85, _), (82, _)] rfl ⟨rfl, rfl, trivial⟩ rfl (fun wq_25 kq_25 => ?_)
          have zs_kq_25 := kq_25.size
          replace hf := hf.pure kq_25
          replace hb := hb.pure kq_25
          replace hw := hw.pure kq_25
          replace hR3 := hR3.pure kq_25
          replace hq1 := hq1.pure kq_25
          replace hq2 := hq2.pure kq_25
          replace hd_4 := hd_4.pure kq_25
          replace hq7 := hq7.pure kq_25
          replace hq8 := hq8.pure kq_25
          refine WL.want rfl rfl rfl (WL.toStr Try.underlying30 Try.underlying5 Try.underlying9 hq8.rsl rfl rfl (?_))
          refine WL.nil ?_
          refine WX.one ⟨hd_4, ?_⟩
          refine ⟨?_, trivial, trivial, trivial⟩
          refine DT.step [(83, _), (82, _)] rfl ⟨rfl, rfl, trivial⟩ rfl (fun wq_26 kq_26 => ?_)
          have zs_kq_26 := kq_26.size
          replace hf := hf.pure kq_26
          replace hb := hb.pure kq_26
          replace hw := hw.pure kq_26
          replace hR3 := hR3.pure kq_26
          replace hq1 := hq1.pure kq_26
          replace hq2 := hq2.pure kq_26
          replace hd_4 := hd_4.pure kq_26
          replace hq7 := hq7.pure kq_26
          replace hq8 := hq8.pure kq_26
          refine WL.want rfl rfl rfl (WL.toStr Try.underlying30 Try.underlying5 Try.underlying9 hq2 rfl rfl (?_))
          refine WL.nil ?_
          refine WX.one ⟨hd_4, ?_⟩
          refine ⟨?_, trivial, trivial⟩
          refine DT.step [(84, _), (86, _), (82, _)] rfl ⟨rfl, rfl, rfl, trivial⟩ rfl (fun wq_27 kq_27 => ?_)
          have zs_kq_27 := kq_27.size
          replace hf := hf.pure kq_27
          replace hb := hb.pure kq_27
          replace hw := hw.pure kq_27
          replace hR3 := hR3.pure kq_27
          replace hq1 := hq1.pure kq_27
          replace hq2 := hq2.pure kq_27
          replace hd_4 := hd_4.pure kq_27
          replace hq7 := hq7.pure kq_27
          replace hq8 := hq8.pure kq_27
          refine WL.want rfl rfl rfl (?_)
          refine WL.sneqF rfl rfl rfl ((by rw [hx2]; rfl)) ?_
          refine WL.nil ?_
          refine WX.one ⟨hd_4, ?_⟩
          refine ⟨?_, trivial⟩
          refine DT.step [(82, _), (87, _)] rfl ⟨rfl, rfl, trivial⟩ rfl (fun wq_28 kq_28 => ?_)
          have zs_kq_28 := kq_28.size
          replace hf := hf.pure kq_28
          replace hb := hb.pure kq_28
          replace hw := hw.pure kq_28
          replace hR3 := hR3.pure kq_28
          replace hq1 := hq1.pure kq_28
          replace hq2 := hq2.pure kq_28
          replace hd_4 := hd_4.pure kq_28
          replace hq7 := hq7.pure kq_28
          replace hq8 := hq8.pure kq_28
          refine WL.pickF rfl rfl rfl (?_)
          refine WL.nil ?_
          refine WX.one ⟨hd_4, ?_⟩
          refine DT.done (fun we_29 ke_29 => ?_) _
          have zs_ke_29 := ke_29.size
          replace hf := hf.pure ke_29
          replace hb := hb.pure ke_29
          replace hw := hw.pure ke_29
          replace hR3 := hR3.pure ke_29
          replace hq1 := hq1.pure ke_29
          replace hq2 := hq2.pure ke_29
          replace hd_4 := hd_4.pure ke_29
          replace hq7 := hq7.pure ke_29
          replace hq8 := hq8.pure ke_29
          rotate_left
          refine DT.step [(82, _)] rfl ⟨rfl, trivial⟩ rfl (fun wq_23 kq_23 => ?_)
          have zs_kq_23 := kq_23.size
          replace hf := hf.pure kq_23
          replace hb := hb.pure kq_23
          replace hw := hw.pure kq_23
          replace hR3 := hR3.pure kq_23
          replace hq1 := hq1.pure kq_23
          replace hq2 := hq2.pure kq_23
          replace hd_4 := hd_4.pure kq_23
          replace hq7 := hq7.pure kq_23
          refine WL.want rfl rfl rfl (?_)
          refine WL.make (e := eb) (0 : UInt8) 128 128 Try.underlying30 info_5 rfl rfl rfl ⟨rfl, rfl, Nat.le_refl _⟩ (by decide) rfl ?_
          intro g8 w8 hq8 k8 z8 eg8
          have zs_k8 := k8.size
          replace hf := hf.pure k8
          replace hb := hb.pure k8
          replace hw := hw.pure k8
          replace hR3 := hR3.pure k8
          replace hq1 := hq1.pure k8
          replace hq2 := hq2.pure k8
          replace hd_4 := hd_4.pure k8
          replace hq7 := hq7.pure k8
          refine WL.nil ?_
          refine WX.one ⟨hd_4, ?_⟩
          refine ⟨?_, trivial, ?_, trivial, trivial, trivial⟩
          refine DT.step [(10, _), (82, _)] rfl ⟨rfl, rfl, trivial⟩ rfl (fun wq_24 kq_24 => ?_)
          have zs_kq_24 := kq_24.size
          replace hf := hf.pure kq_24
          replace hb := hb.pure kq_24
          replace hw := hw.pure kq_24
          replace hR3 := hR3.pure kq_24
          replace hq1 := hq1.pure kq_24
          replace hq2 := hq2.pure kq_24
          replace hd_4 := hd_4.pure kq_24
          replace hq7 := hq7.pure kq_24
          replace hq8 := hq8.pure kq_24
          refine WL.want rfl rfl rfl (WL.move rfl rfl (?_))
          refine WL.nil ?_
          refine WX.one ⟨hd_4, ?_⟩
          refine ⟨?_, ?_, trivial, trivial, trivial⟩
          refine DT.step [(83, _), (82, _)] rfl ⟨rfl, rfl, trivial⟩ rfl (fun wq_25 kq_25 => ?_)
          have zs_kq_25 := kq_25.size
          replace hf := hf.pure kq_25
          replace hb := hb.pure kq_25
          replace hw := hw.pure kq_25
          replace hR3 := hR3.pure kq_25
          replace hq1 := hq1.pure kq_25
          replace hq2 := hq2.pure kq_25
          replace hd_4 := hd_4.pure kq_25
          replace hq7 := hq7.pure kq_25
          replace hq8 := hq8.pure kq_25
          refine WL.want rfl rfl rfl (WL.toStr Try.underlying30 Try.underlying5 Try.underlying9 hq2 rfl rfl (?_))
          refine WL.nil ?_
          refine WX.one ⟨hd_4, ?_⟩
          refine ⟨?_, trivial, trivial, trivial⟩
          refine DT.step [(85, _), (82, _)] rfl ⟨rfl, rfl, trivial⟩ rfl (fun wq_26 kq_26 => ?_)
          have zs_kq_26 := kq_26.size
          replace hf := hf.pure kq_26
          replace hb := hb.pure kq_26
          replace hw := hw.pure kq_26
          replace hR3 := hR3.pure kq_26
          replace hq1 := hq1.pure kq_26
          replace hq2 := hq2.pure kq_26
          replace hd_4 := hd_4.pure kq_26
          replace hq7 := hq7.pure kq_26
          replace hq8 := hq8.pure kq_26
          refine WL.want rfl rfl rfl (WL.toStr Try.underlying30 Try.underlying5 Try.underlying9 hq8.rsl rfl rfl (?_))
          refine WL.nil ?_
          refine WX.one ⟨hd_4, ?_⟩
          refine ⟨?_, trivial, trivial⟩
          refine DT.step [(84, _), (86, _), (82, _)] rfl ⟨rfl, rfl, rfl, trivial⟩ rfl (fun wq_27 kq_27 => ?_)
          have zs_kq_27 := kq_27.size
          replace hf := hf.pure kq_27
          replace hb := hb.pure kq_27
          replace hw := hw.pure kq_27
          replace hR3 := hR3.pure kq_27
          replace hq1 := hq1.pure kq_27
          replace hq2 := hq2.pure kq_27
          replace hd_4 := hd_4.pure kq_27
          replace hq7 := hq7.pure kq_27
          replace hq8 := hq8.pure kq_27
          refine WL.want rfl rfl rfl (?_)
          refine WL.sneqF rfl rfl rfl ((by rw [hx2]; rfl)) ?_
          refine WL.nil ?_
          refine WX.one ⟨hd_4, ?_⟩
          refine ⟨?_, trivial⟩
          refine DT.step [(82, _), (87, _)] rfl ⟨rfl, rfl, trivial⟩ rfl (fun wq_28 kq_28 => ?_)
          have zs_kq_28 := kq_28.size
          replace hf := hf.pure kq_28
          replace hb := hb.pure kq_28
          replace hw := hw.pure kq_28
          replace hR3 := hR3.pure kq_28
          replace hq1 := hq1.pure kq_28
          replace hq2 := hq2.pure kq_28
          replace hd_4 := hd_4.pure kq_28
          replace hq7 := hq7.pure kq_28
          replace hq8 := hq8.pure kq_28
          refine WL.pickF rfl rfl rfl (?_)
          refine WL.nil ?_
          refine WX.one ⟨hd_4, ?_⟩
          refine DT.done (fun we_29 ke_29 => ?_) _
          have zs_ke_29 := ke_29.size
          replace hf := hf.pure ke_29
          replace hb := hb.pure ke_29
          replace hw := hw.pure ke_29
          replace hR3 := hR3.pure ke_29
          replace hq1 := hq1.pure ke_29
          replace hq2 := hq2.pure ke_29
          replace hd_4 := hd_4.pure ke_29
          replace hq7 := hq7.pure ke_29
          replace hq8 := hq8.pure ke_29
          rotate_left
          refine DT.step [(85, _), (82, _)] rfl ⟨rfl, rfl, trivial⟩ rfl (fun wq_25 kq_25 => ?_)
          have zs_kq_25 := kq_25.size
          replace hf := hf.pure kq_25
          replace hb := hb.pure kq_25
          replace hw := hw.pure kq_25
          replace hR3 := hR3.pure kq_25
          replace hq1 := hq1.pure kq_25
          replace hq2 := hq2.pure kq_25
          replace hd_4 := hd_4.pure kq_25
          replace hq7 := hq7.pure kq_25
          replace hq8 := hq8.pure kq_25
          refine WL.want rfl rfl rfl (WL.toStr Try.underlying30 Try.underlying5 Try.underlying9 hq8.rsl rfl rfl (?_))
          refine WL.nil ?_
          refine WX.one ⟨hd_4, ?_⟩
          refine ⟨?_, trivial, trivial, trivial⟩
          refine DT.step [(83, _), (82, _)] rfl ⟨rfl, rfl, trivial⟩ rfl (fun wq_26 kq_26 => ?_)
          have zs_kq_26 := kq_26.size
          replace hf := hf.pure kq_26
          replace hb := hb.pure kq_26
          replace hw := hw.pure kq_26
          replace hR3 := hR3.pure kq_26
          replace hq1 := hq1.pure kq_26
          replace hq2 := hq2.pure kq_26
          replace hd_4 := hd_4.pure kq_26
          replace hq7 := hq7.pure kq_26
          replace hq8 := hq8.pure kq_26
          refine WL.want rfl rfl rfl (WL.toStr Try.underlying30 Try.underlying5 Try.underlying9 hq2 rfl rfl (?_))
          refine WL.nil ?_
          refine WX.one ⟨hd_4, ?_⟩
          refine ⟨?_, trivial, trivial⟩
          refine DT.step [(84, _), (86, _), (82, _)] rfl ⟨rfl, rfl, rfl, trivial⟩ rfl (fun wq_27 kq_27 => ?_)
          have zs_kq_27 := kq_27.size
          replace hf := hf.pure kq_27
          replace hb := hb.pure kq_27
          replace hw := hw.pure kq_27
          replace hR3 := hR3.pure kq_27
          replace hq1 := hq1.pure kq_27
          replace hq2 := hq2.pure kq_27
          replace hd_4 := hd_4.pure kq_27
          replace hq7 := hq7.pure kq_27
          replace hq8 := hq8.pure kq_27
          refine WL.want rfl rfl rfl (?_)
          refine WL.sneqF rfl rfl rfl ((by rw [hx2]; rfl)) ?_
          refine WL.nil ?_
          refine WX.one ⟨hd_4, ?_⟩
          refine ⟨?_, trivial⟩
          refine DT.step [(82, _), (87, _)] rfl ⟨rfl, rfl, trivial⟩ rfl (fun wq_28 kq_28 => ?_)
          have zs_kq_28 := kq_28.size
          replace hf := hf.pure kq_28
          replace hb := hb.pure kq_28
          replace hw := hw.pure kq_28
          replace hR3 := hR3.pure kq_28
          replace hq1 := hq1.pure kq_28
          replace hq2 := hq2.pure kq_28
          replace hd_4 := hd_4.pure kq_28
          replace hq7 := hq7.pure kq_28
          replace hq8 := hq8.pure kq_28
          refine WL.pickF rfl rfl rfl (?_)
          refine WL.nil ?_
          refine WX.one ⟨hd_4, ?_⟩
          refine DT.done (fun we_29 ke_29 => ?_) _
          have zs_ke_29 := ke_29.size
          replace hf := hf.pure ke_29
          replace hb := hb.pure ke_29
          replace hw := hw.pure ke_29
          replace hR3 := hR3.pure ke_29
          replace hq1 := hq1.pure ke_29
          replace hq2 := hq2.pure ke_29
          replace hd_4 := hd_4.pure ke_29
          replace hq7 := hq7.pure ke_29
          replace hq8 := hq8.pure ke_29
          rotate_left
          refine DT.step [(85, _), (82, _)] rfl ⟨rfl, rfl, trivial⟩ rfl (fun wq_24 kq_24 => ?_)
          have zs_kq_24 := kq_24.size
          replace hf := hf.pure kq_24
          replace hb := hb.pure kq_24
          replace hw := hw.pure kq_24
          replace hR3 := hR3.pure kq_24
          replace hq1 := hq1.pure kq_24
          replace hq2 := hq2.pure kq_24
          replace hd_4 := hd_4.pure kq_24
          replace hq7 := hq7.pure kq_24
          replace hq8 := hq8.pure kq_24
          refine WL.want rfl rfl rfl (WL.toStr Try.underlying30 Try.underlying5 Try.underlying9 hq8.rsl rfl rfl (?_))
          refine WL.nil ?_
          refine WX.one ⟨hd_4, ?_⟩
          refine ⟨?_, trivial, trivial, trivial, trivial⟩
          refine DT.step [(10, _), (82, _)] rfl ⟨rfl, rfl, trivial⟩ rfl (fun wq_25 kq_25 => ?_)
          have zs_kq_25 := kq_25.size
          replace hf := hf.pure kq_25
          replace hb := hb.pure kq_25
          replace hw := hw.pure kq_25
          replace hR3 := hR3.pure kq_25
          replace hq1 := hq1.pure kq_25
          replace hq2 := hq2.pure kq_25
          replace hd_4 := hd_4.pure kq_25
          replace hq7 := hq7.pure kq_25
          replace hq8 := hq8.pure kq_25
          refine WL.want rfl rfl rfl (WL.move rfl rfl (?_))
          refine WL.nil ?_
          refine WX.one ⟨hd_4, ?_⟩
          refine ⟨?_, trivial, trivial, trivial⟩
          refine DT.step [(83, _), (82, _)] rfl ⟨rfl, rfl, trivial⟩ rfl (fun wq_26 kq_26 => ?_)
          have zs_kq_26 := kq_26.size
          replace hf := hf.pure kq_26
          replace hb := hb.pure kq_26
          replace hw := hw.pure kq_26
          replace hR3 := hR3.pure kq_26
          replace hq1 := hq1.pure kq_26
          replace hq2 := hq2.pure kq_26
          replace hd_4 := hd_4.pure kq_26
          replace hq7 := hq7.pure kq_26
          replace hq8 := hq8.pure kq_26
          refine WL.want rfl rfl rfl (WL.toStr Try.underlying30 Try.underlying5 Try.underlying9 hq2 rfl rfl (?_))
          refine WL.nil ?_
          refine WX.one ⟨hd_4, ?_⟩
          refine ⟨?_, trivial, trivial⟩
          refine DT.step [(84, _), (86, _), (82, _)] rfl ⟨rfl, rfl, rfl, trivial⟩ rfl (fun wq_27 kq_27 => ?_)
          have zs_kq_27 := kq_27.size
          replace hf := hf.pure kq_27
          replace hb := hb.pure kq_27
          replace hw := hw.pure kq_27
          replace hR3 := hR3.pure kq_27
          replace hq1 := hq1.pure kq_27
          replace hq2 := hq2.pure kq_27
          replace hd_4 := hd_4.pure kq_27
          replace hq7 := hq7.pure kq_27
          replace hq8 := hq8.pure kq_27
          refine WL.want rfl rfl rfl (?_)
          refine WL.sneqF rfl rfl rfl ((by rw [hx2]; rfl)) ?_
          refine WL.nil ?_
          refine WX.one ⟨hd_4, ?_⟩
          refine ⟨?_, trivial⟩
          refine DT.step [(82, _), (87, _)] rfl ⟨rfl, rfl, trivial⟩ rfl (fun wq_28 kq_28 => ?_)
          have zs_kq_28 := kq_28.size
          replace hf := hf.pure kq_28
          replace hb := hb.pure kq_28
          replace hw := hw.pure kq_28
          replace hR3 := hR3.pure kq_28
          replace hq1 := hq1.pure kq_28
          replace hq2 := hq2.pure kq_28
          replace hd_4 := hd_4.pure kq_28
          replace hq7 := hq7.pure kq_28
          replace hq8 := hq8.pure kq_28
          refine WL.pickF rfl rfl rfl (?_)
          refine WL.nil ?_
          refine WX.one ⟨hd_4, ?_⟩
          refine DT.done (fun we_29 ke_29 => ?_) _
          have zs_ke_29 := ke_29.size
          replace hf := hf.pure ke_29
          replace hb := hb.pure ke_29
          replace hw := hw.pure ke_29
          replace hR3 := hR3.pure ke_29
          replace hq1 := hq1.pure ke_29
          replace hq2 := hq2.pure ke_29
          replace hd_4 := hd_4.pure ke_29
          replace hq7 := hq7.pure ke_29
          replace hq8 := hq8.pure ke_29
          rotate_left
          all_goals
            refine WX.then_normal (WC.cond_false rfl (WC.skip (WX.block_normal (WX.then_normal (WC.region (WL.move rfl rfl (WL.add64 rfl rfl (by first | omega | (constructor <;> omega)) rfl (?_))))))))
            refine WL.assign rfl rfl (WL.nil (?_))
            exact WX.loop_next (i + 1) ⟨rfl, rfl, rfl, rfl, trivial⟩ ⟨by omega, hf, hb, hw, _, sd3, sn3, us3, sg3, hC, sw3, hR3⟩ (by omega)
      ·
        refine WL.want rfl rfl rfl (WL.move rfl rfl (WL.pass rfl rfl rfl rfl (WL.pass rfl rfl rfl rfl (WL.pass rfl rfl rfl rfl (WL.pass rfl rfl rfl rfl (WL.want rfl rfl rfl (WL.pickF rfl rfl rfl (?_))))))))
        refine WL.want rfl rfl rfl (WL.move rfl rfl (WL.pass rfl rfl rfl rfl (WL.pass rfl rfl rfl rfl (WL.pass rfl rfl rfl rfl (WL.want rfl rfl rfl (WL.pickF rfl rfl rfl (WL.pickF rfl rfl rfl (?_))))))))
        refine WL.nil (WX.then_normal (WC.cond_false rfl (WC.skip (WX.then_normal (WC.seq (WC.region (WL.move rfl rfl (?_))))))))
        refine WL.call eg_16 rfl rfl (ReadU hR3 us3 (by unfold inS; rw [sd3, sn3]; decide) (sg3 1)) ?_
        rintro v w5 ⟨⟨r1, rfl, hx1, hq1⟩, k5⟩
        rw [hA] at hx1
        have zs_k5 := k5.size
        replace hf := hf.pure k5
        replace hb := hb.pure k5
        replace hw := hw.pure k5
        replace hR3 := hR3.pure k5
        refine WL.move rfl rfl (?_)
        refine WL.extract rfl rfl rfl ?_
        refine WL.extract rfl rfl rfl (WL.assign rfl rfl (WL.assign rfl rfl (WL.nil (WX.then_normal (WC.seq (WC.region (WL.move rfl rfl (?_))))))))
        refine WL.call eg_16 rfl rfl (ReadU hR3 us3 (by unfold inS; rw [sd3, sn3]; decide) (sg3 0)) ?_
        rintro v w6 ⟨⟨r2, rfl, hx2, hq2⟩, k6⟩
        rw [hC] at hx2
        have zs_k6 := k6.size
        replace hf := hf.pure k6
        replace hb := hb.pure k6
        replace hw := hw.pure k6
        replace hR3 := hR3.pure k6
        replace hq1 := hq1.pure k6
        refine WL.move rfl rfl (?_)
        refine WL.extract rfl rfl rfl ?_
        refine WL.extract rfl rfl rfl (WL.assign rfl rfl (WL.assign rfl rfl (WL.nil (WX.then_normal (WC.seq (?_))))))
        have zw6 := hw.size
        obtain ⟨b1, o1, rfl⟩ := hf.place hx
        refine WC.drawM (Nob) [0, 1, 2, 3, 4, 5, 6, 7, 8, 9, 10, 11, 12] [13, 14, 15, 16, 17, 18, 19, 20, 21, 22, 23] mixed rfl rfl (fun wd_2 kd_2 zd_2 => ?_)
        have zs_kd_2 := kd_2.size
        replace hf := hf.pure kd_2
        replace hb := hb.pure kd_2
        replace hw := hw.pure kd_2
        replace hR3 := hR3.pure kd_2
        replace hq1 := hq1.pure kd_2
        replace hq2 := hq2.pure kd_2
        apply DQT.step (E' := [(9, _)])
        case ho => rfl
        case hs => exact ⟨rfl, trivial⟩
        case hk => rfl
        case h1 =>
          intro wq_4 kq_4
          refine WL.move rfl rfl (?_)
          refine WL.nil ?_
          exact WX.one ⟨rfl, by first | exact Chg.refl _ _ | assumption⟩
        apply DQT.step (E' := [(65, _)])
        case ho => rfl
        case hs => exact ⟨rfl, trivial⟩
        case hk => rfl
        case h1 =>
          intro wq_5 kq_5
          refine WL.neqF rfl rfl rfl (by first | rfl | omega | decide) ?_
          refine WL.nil ?_
          exact WX.one ⟨rfl, by first | exact Chg.refl _ _ | assumption⟩
        apply DQT.step (E' := [(66, _)])
        case ho => rfl
        case hs => exact ⟨rfl, trivial⟩
        case hk => rfl
        case h1 =>
          intro wq_6 kq_6
          refine WL.move rfl rfl (?_)
          refine WL.nil ?_
          exact WX.one ⟨rfl, by first | exact Chg.refl _ _ | assumption⟩
        apply DQT.step (E' := [(11, _), (67, _)])
        case ho => rfl
        case hs => exact ⟨rfl, rfl, trivial⟩
        case hk => rfl
        case h1 =>
          intro wq_7 kq_7
          refine WL.want rfl rfl rfl (WL.move rfl rfl (?_))
          refine WL.nil ?_
          exact WX.one ⟨rfl, by first | exact Chg.refl _ _ | assumption⟩
        apply DQT.step (E' := [(68, _), (67, _)])
        case ho => rfl
        case hs => exact ⟨rfl, rfl, trivial⟩
        case hk => rfl
        case h1 =>
          intro wq_8 kq_8
          refine WL.want rfl rfl rfl (?_)
          refine WL.neqF rfl rfl rfl (by first | rfl | omega | decide) ?_
          refine WL.nil ?_
          exact WX.one ⟨rfl, by first | exact Chg.refl _ _ | assumption⟩
        apply DQT.step (E' := [(67, _), (69, _)])
        case ho => rfl
        case hs => exact ⟨rfl, rfl, trivial⟩
        case hk => rfl
        case h1 =>
          intro wq_9 kq_9
          refine WL.pickF rfl rfl rfl (?_)
          refine WL.nil ?_
          exact WX.one ⟨rfl, by first | exact Chg.refl _ _ | assumption⟩
        apply DQT.step (E' := [(70, _)])
        case ho => rfl
        case hs => exact ⟨rfl, trivial⟩
        case hk => rfl
        case h1 =>
          intro wq_10 kq_10
          refine WL.move rfl rfl (?_)
          refine WL.nil ?_
          exact WX.one ⟨rfl, by first | exact Chg.refl _ _ | assumption⟩
        apply DQT.step (E' := [(8, _), (71, _)])
        case ho => rfl
        case hs => exact ⟨rfl, rfl, trivial⟩
        case hk => rfl
        case h1 =>
          intro wq_11 kq_11
          refine WL.want rfl rfl rfl (WL.move rfl rfl (?_))
          refine WL.nil ?_
          exact WX.one ⟨rfl, by first | exact Chg.refl _ _ | assumption⟩
        apply DQT.step (E' := [(72, _), (71, _)])
        case ho => rfl
        case hs => exact ⟨rfl, rfl, trivial⟩
        case hk => rfl
        case h1 =>
          intro wq_12 kq_12
          have zs_kq_12 := kq_12.size
          replace hf := hf.pure kq_12
          replace hb := hb.pure kq_12
          replace hw := hw.pure kq_12
          replace hR3 := hR3.pure kq_12
          replace hq1 := hq1.pure kq_12
          replace hq2 := hq2.pure kq_12
          refine WL.want rfl rfl rfl (WL.toStr Try.underlying30 Try.underlying5 Try.underlying9 hq1 rfl rfl (?_))
          refine WL.nil ?_
          exact WX.one ⟨rfl, by first | exact Chg.refl _ _ | assumption⟩
        apply DQT.step (E' := [(0, _), (71, _)])
        case ho => rfl
        case hs => exact ⟨rfl, rfl, trivial⟩
        case hk => rfl
        case h1 =>
          intro wq_13 kq_13
          refine WL.want rfl rfl rfl (WL.move rfl rfl (?_))
          refine WL.nil ?_
          exact WX.one ⟨rfl, by first | exact Chg.refl _ _ | assumption⟩
        apply DQT.step (E' := [(7, _), (71, _)])
        case ho => rfl
        case hs => exact ⟨rfl, rfl, trivial⟩
        case hk => rfl
        case h1 =>
          intro wq_14 kq_14
          refine WL.want rfl rfl rfl (WL.move rfl rfl (?_))
          refine WL.nil ?_
          exact WX.one ⟨rfl, by first | exact Chg.refl _ _ | assumption⟩
        apply DQT.step (E' := [(74, _), (75, _), (71, _)])
        case ho => rfl
        case hs => exact ⟨rfl, rfl, rfl, trivial⟩
        case hk => rfl
        case h1 =>
          intro wq_15 kq_15
          have zs_kq_15 := kq_15.size
          replace hf := hf.pure kq_15
          replace hb := hb.pure kq_15
          replace hw := hw.pure kq_15
          replace hR3 := hR3.pure kq_15
          replace hq1 := hq1.pure kq_15
          replace hq2 := hq2.pure kq_15
          refine WL.want rfl rfl rfl (?_)
          refine WL.indexC hf Try.underlying22 Try.sizeOf3 rfl rfl ⟨hx, rfl⟩ rfl ?_
          refine WL.nil ?_
          exact WX.one ⟨rfl, by first | exact Chg.refl _ _ | assumption⟩
        apply DQT.step (E' := [(76, _), (71, _)])
        case ho => rfl
        case hs => exact ⟨rfl, rfl, trivial⟩
        case hk => rfl
        case h1 =>
          intro wq_16 kq_16
          have zs_kq_16 := kq_16.size
          replace hf := hf.pure kq_16
          replace hb := hb.pure kq_16
          replace hw := hw.pure kq_16
          replace hR3 := hR3.pure kq_16
          replace hq1 := hq1.pure kq_16
          replace hq2 := hq2.pure kq_16
          refine WL.want rfl rfl rfl (WL.load Try.isAgg3 rfl ((hf.cellsAt hx) 0 _ rfl) rfl (?_))
          refine WL.nil ?_
          exact WX.one ⟨rfl, by first | exact Chg.refl _ _ | assumption⟩
        refine DQT.done (fun hd_3 => ?_)
        refine ⟨?_, trivial, trivial, trivial, trivial, trivial, trivial, trivial, trivial, trivial, trivial, trivial⟩
        refine DT.step [(77, _), (71, _)] rfl ⟨rfl, rfl, trivial⟩ rfl (fun wq_17 kq_17 => ?_)
        have zs_kq_17 := kq_17.size
        replace hf := hf.pure kq_17
        replace hb := hb.pure kq_17
        replace hw := hw.pure kq_17
        replace hR3 := hR3.pure kq_17
        replace hq1 := hq1.pure kq_17
        replace hq2 := hq2.pure kq_17
        replace hd_3 := hd_3.pure kq_17
        refine WL.want rfl rfl rfl (?_)
        refine WL.call eg_14 rfl rfl (hBc f _) ?_
        rintro v w7 ⟨⟨g7, rfl, hq7, hg71, hg72⟩, k7⟩
        have zs_k7 := k7.size
        replace hf := hf.pure k7
        replace hb := hb.pure k7
        replace hw := hw.pure k7
        replace hR3 := hR3.pure k7
        replace hq1 := hq1.pure k7
        replace hq2 := hq2.pure k7
        replace hd_3 := hd_3.pure k7
        refine WL.nil ?_
        refine WX.one ⟨hd_3, ?_⟩
        refine ⟨?_, trivial, trivial, trivial, trivial, trivial, trivial, trivial, trivial, trivial, trivial⟩
        refine DT.step [(78, _), (71, _)] rfl ⟨rfl, rfl, trivial⟩ rfl (fun wq_18 kq_18 => ?_)
        have zs_kq_18 := kq_18.size
        replace hf := hf.pure kq_18
        replace hb := hb.pure kq_18
        replace hw := hw.pure kq_18
        replace hR3 := hR3.pure kq_18
        replace hq1 := hq1.pure kq_18
        replace hq2 := hq2.pure kq_18
        replace hd_3 := hd_3.pure kq_18
        replace hq7 := hq7.pure kq_18
        refine WL.want rfl rfl rfl (WL.toStr Try.underlying30 Try.underlying5 Try.underlying9 hq7.rsl rfl rfl (?_))
        refine WL.nil ?_
        refine WX.one ⟨hd_3, ?_⟩
        refine ⟨?_, trivial, trivial, trivial, trivial, trivial, trivial, trivial, trivial, trivial⟩
        refine DT.step [(73, _), (79, _), (71, _)] rfl ⟨rfl, rfl, rfl, trivial⟩ rfl (fun wq_19 kq_19 => ?_)
        have zs_kq_19 := kq_19.size
        replace hf := hf.pure kq_19
        replace hb := hb.pure kq_19
        replace hw := hw.pure kq_19
        replace hR3 := hR3.pure kq_19
        replace hq1 := hq1.pure kq_19
        replace hq2 := hq2.pure kq_19
        replace hd_3 := hd_3.pure kq_19
        replace hq7 := hq7.pure kq_19
        refine WL.want rfl rfl rfl (?_)
        refine WL.sneqF rfl rfl rfl ((by rw [hx1])) ?_
        refine WL.nil ?_
        refine WX.one ⟨hd_3, ?_⟩
        refine ⟨?_, trivial, trivial, trivial, trivial, trivial, trivial, trivial, trivial⟩
        refine DT.step [(71, _), (80, _)] rfl ⟨rfl, rfl, trivial⟩ rfl (fun wq_20 kq_20 => ?_)
        have zs_kq_20 := kq_20.size
        replace hf := hf.pure kq_20
        replace hb := hb.pure kq_20
        replace hw := hw.pure kq_20
        replace hR3 := hR3.pure kq_20
        replace hq1 := hq1.pure kq_20
        replace hq2 := hq2.pure kq_20
        replace hd_3 := hd_3.pure kq_20
        replace hq7 := hq7.pure kq_20
        refine WL.pickF rfl rfl rfl (?_)
        refine WL.nil ?_
        refine WX.one ⟨hd_3, ?_⟩
        refine ⟨?_, trivial, trivial, trivial, trivial, trivial, trivial, trivial⟩
        refine DT.step [(81, _)] rfl ⟨rfl, trivial⟩ rfl (fun wq_21 kq_21 => ?_)
        have zs_kq_21 := kq_21.size
        replace hf := hf.pure kq_21
        replace hb := hb.pure kq_21
        replace hw := hw.pure kq_21
        replace hR3 := hR3.pure kq_21
        replace hq1 := hq1.pure kq_21
        replace hq2 := hq2.pure kq_21
        replace hd_3 := hd_3.pure kq_21
        replace hq7 := hq7.pure kq_21
        refine WL.move rfl rfl (?_)
        refine WL.nil ?_
        refine WX.one ⟨hd_3, ?_⟩
        refine ⟨?_, trivial, ?_, trivial, trivial, trivial, trivial⟩
        refine DT.step [(10, _), (82, _)] rfl ⟨rfl, rfl, trivial⟩ rfl (fun wq_22 kq_22 => ?_)
        have zs_kq_22 := kq_22.size
        replace hf := hf.pure kq_22
        replace hb := hb.pure kq_22
        replace hw := hw.pure kq_22
        replace hR3 := hR3.pure kq_22
        replace hq1 := hq1.pure kq_22
        replace hq2 := hq2.pure kq_22
        replace hd_3 := hd_3.pure kq_22
        replace hq7 := hq7.pure kq_22
        refine WL.want rfl rfl rfl (WL.move rfl rfl (?_))
        refine WL.nil ?_
        refine WX.one ⟨hd_3, ?_⟩
        refine ⟨?_, ?_, trivial, trivial, trivial, trivial⟩
        refine DT.step [(83, _), (82, _)] rfl ⟨rfl, rfl, trivial⟩ rfl (fun wq_23 kq_23 => ?_)
        have zs_kq_23 := kq_23.size
        replace hf := hf.pure kq_23
        replace hb := hb.pure kq_23
        replace hw := hw.pure kq_23
        replace hR3 := hR3.pure kq_23
        replace hq1 := hq1.pure kq_23
        replace hq2 := hq2.pure kq_23
        replace hd_3 := hd_3.pure kq_23
        replace hq7 := hq7.pure kq_23
        refine WL.want rfl rfl rfl (WL.toStr Try.underlying30 Try.underlying5 Try.underlying9 hq2 rfl rfl (?_))
        refine WL.nil ?_
        refine WX.one ⟨hd_3, ?_⟩
        refine ⟨?_, trivial, trivial, trivial, trivial⟩
        refine DT.step [(82, _)] rfl ⟨rfl, trivial⟩ rfl (fun wq_24 kq_24 => ?_)
        have zs_kq_24 := kq_24.size
        replace hf := hf.pure kq_24
        replace hb := hb.pure kq_24
        replace hw := hw.pure kq_24
        replace hR3 := hR3.pure kq_24
        replace hq1 := hq1.pure kq_24
        replace hq2 := hq2.pure kq_24
        replace hd_3 := hd_3.pure kq_24
        replace hq7 := hq7.pure kq_24
        refine WL.want rfl rfl rfl (?_)
        refine WL.make (e := eb) (0 : UInt8) 128 128 Try.underlying30 info_5 rfl rfl rfl ⟨rfl, rfl, Nat.le_refl _⟩ (by decide) rfl ?_
        intro g8 w8 hq8 k8 z8 eg8
        have zs_k8 := k8.size
        replace hf := hf.pure k8
        replace hb := hb.pure k8
        replace hw := hw.pure k8
        replace hR3 := hR3.pure k8
        replace hq1 := hq1.pure k8
        replace hq2 := hq2.pure k8
        replace hd_3 := hd_3.pure k8
        replace hq7 := hq7.pure k8
        refine WL.nil ?_
        refine WX.one ⟨hd_3, ?_⟩
        refine ⟨?_, trivial, trivial, trivial⟩
        refine DT.step [(85, _), (82, _)] rfl ⟨rfl, rfl, trivial⟩ rfl (fun wq_25 kq_25 => ?_)
        have zs_kq_25 := kq_25.size
        replace hf := hf.pure kq_25
        replace hb := hb.pure kq_25
        replace hw := hw.pure kq_25
        replace hR3 := hR3.pure kq_25
        replace hq1 := hq1.pure kq_25
        replace hq2 := hq2.pure kq_25
        replace hd_3 := hd_3.pure kq_25
        replace hq7 := hq7.pure kq_25
        replace hq8 := hq8.pure kq_25
        refine WL.want rfl rfl rfl (WL.toStr Try.underlying30 Try.underlying5 Try.underlying9 hq8.rsl rfl rfl (?_))
        refine WL.nil ?_
        refine WX.one ⟨hd_3, ?_⟩
        refine ⟨?_, trivial, trivial⟩
        refine DT.step [(84, _), (86, _), (82, _)] rfl ⟨rfl, rfl, rfl, trivial⟩ rfl (fun wq_26 kq_26 => ?_)
        have zs_kq_26 := kq_26.size
        replace hf := hf.pure kq_26
        replace hb := hb.pure kq_26
        replace hw := hw.pure kq_26
        replace hR3 := hR3.pure kq_26
        replace hq1 := hq1.pure kq_26
        replace hq2 := hq2.pure kq_26
        replace hd_3 := hd_3.pure kq_26
        replace hq7 := hq7.pure kq_26
        replace hq8 := hq8.pure kq_26
        refine WL.want rfl rfl rfl (?_)
        refine WL.sneqF rfl rfl rfl ((by rw [hx2]; rfl)) ?_
        refine WL.nil ?_
        refine WX.one ⟨hd_3, ?_⟩
        refine ⟨?_, trivial⟩
        refine DT.step [(82, _), (87, _)] rfl ⟨rfl, rfl, trivial⟩ rfl (fun wq_27 kq_27 => ?_)
        have zs_kq_27 := kq_27.size
        replace hf := hf.pure kq_27
        replace hb := hb.pure kq_27
        replace hw := hw.pure kq_27
        replace hR3 := hR3.pure kq_27
        replace hq1 := hq1.pure kq_27
        replace hq2 := hq2.pure kq_27
        replace hd_3 := hd_3.pure kq_27
        replace hq7 := hq7.pure kq_27
        replace hq8 := hq8.pure kq_27
        refine WL.pickF rfl rfl rfl (?_)
        refine WL.nil ?_
        refine WX.one ⟨hd_3, ?_⟩
        refine DT.done (fun we_28 ke_28 => ?_) _
        have zs_ke_28 := ke_28.size
        replace hf := hf.pure ke_28
        replace hb := hb.pure ke_28
        replace hw := hw.pure ke_28
        replace hR3 := hR3.pure ke_28
        replace hq1 := hq1.pure ke_28
        replace hq2 := hq2.pure ke_28
        replace hd_3 := hd_3.pure ke_28
        replace hq7 := hq7.pure ke_28
        replace hq8 := hq8.pure ke_28
        rotate_left
        refine DT.step [(82, _)] rfl ⟨rfl, trivial⟩ rfl (fun wq_23 kq_23 => ?_)
        have zs_kq_23 := kq_23.size
        replace hf := hf.pure kq_23
        replace hb := hb.pure kq_23
        replace hw := hw.pure kq_23
        replace hR3 := hR3.pure kq_23
        replace hq1 := hq1.pure kq_23
        replace hq2 := hq2.pure kq_23
        replace hd_3 := hd_3.pure kq_23
        replace hq7 := hq7.pure kq_23
        refine WL.want rfl rfl rfl (?_)
        refine WL.make (e := eb) (0 : UInt8) 128 128 Try.underlying30 info_5 rfl rfl rfl ⟨rfl, rfl, Nat.le_refl _⟩ (by decide) rfl ?_
        intro g8 w8 hq8 k8 z8 eg8
        have zs_k8 := k8.size
        replace hf := hf.pure k8
        replace hb := hb.pure k8
        replace hw := hw.pure k8
        replace hR3 := hR3.pure k8
        replace hq1 := hq1.pure k8
        replace hq2 := hq2.pure k8
        replace hd_3 := hd_3.pure k8
        replace hq7 := hq7.pure k8
        refine WL.nil ?_
        refine WX.one ⟨hd_3, ?_⟩
        refine ⟨?_, ?_, trivial, trivial, trivial⟩
        refine DT.step [(83, _), (82, _)] rfl ⟨rfl, rfl, trivial⟩ rfl (fun wq_24 kq_24 => ?_)
        have zs_kq_24 := kq_24.size
        replace hf := hf.pure kq_24
        replace hb := hb.pure kq_24
        replace hw := hw.pure kq_24
        replace hR3 := hR3.pure kq_24
        replace hq1 := hq1.pure kq_24
        replace hq2 := hq2.pure kq_24
        replace hd_3 := hd_3.pure kq_24
        replace hq7 := hq7.pure kq_24
        replace hq8 := hq8.pure kq_24
        refine WL.want rfl rfl rfl (WL.toStr Try.underlying30 Try.underlying5 Try.underlying9 hq2 rfl rfl (?_))
        refine WL.nil ?_
        refine WX.one ⟨hd_3, ?_⟩
        refine ⟨?_, trivial, trivial, trivial⟩
        refine DT.step [(85, _), (82, _)] rfl ⟨rfl, rfl, trivial⟩ rfl (fun wq_25 kq_25 => ?_)
        have zs_kq_25 := kq_25.size
        replace hf := hf.pure kq_25
        replace hb := hb.pure kq_25
        replace hw := hw.pure kq_25
        replace hR3 := hR3.pure kq_25
        replace hq1 := hq1.pure kq_25
        replace hq2 := hq2.pure kq_25
        replace hd_3 := hd_3.pure kq_25
        replace hq7 := hq7.pure kq_25
        replace hq8 := hq8.pure kq_25
        refine WL.want rfl rfl rfl (WL.toStr Try.underlying30 Try.underlying5 Try.underlying9 hq8.rsl rfl rfl (?_))
        refine WL.nil ?_
        refine WX.one ⟨hd_3, ?_⟩
        refine ⟨?_, trivial, trivial⟩
        refine DT.step [(84, _), (86, _), (82, _)] rfl ⟨rfl, rfl, rfl, trivial⟩ rfl (fun wq_26 kq_26 => ?_)
        have zs_kq_26 := kq_26.size
        replace hf := hf.pure kq_26
        replace hb := hb.pure kq_26
        replace hw := hw.pure kq_26
        replace hR3 := hR3.pure kq_26
        replace hq1 := hq1.pure kq_26
        replace hq2 := hq2.pure kq_26
        replace hd_3 := hd_3.pure kq_26
        replace hq7 := hq7.pure kq_26
        replace hq8 := hq8.pure kq_26
        refine WL.want rfl rfl rfl (?_)
        refine WL.sneqF rfl rfl rfl ((by rw [hx2]; rfl)) ?_
        refine WL.nil ?_
        refine WX.one ⟨hd_3, ?_⟩
        refine ⟨?_, trivial⟩
        refine DT.step [(82, _), (87, _)] rfl ⟨rfl, rfl, trivial⟩ rfl (fun wq_27 kq_27 => ?_)
        have zs_kq_27 := kq_27.size
        replace hf := hf.pure kq_27
        replace hb := hb.pure kq_27
        replace hw := hw.pure kq_27
        replace hR3 := hR3.pure kq_27
        replace hq1 := hq1.pure kq_27
        replace hq2 := hq2.pure kq_27
        replace hd_3 := hd_3.pure kq_27
        replace hq7 := hq7.pure kq_27
        replace hq8 := hq8.pure kq_27
        refine WL.pickF rfl rfl rfl (?_)
        refine WL.nil ?_
        refine WX.one ⟨hd_3, ?_⟩
        refine DT.done (fun we_28 ke_28 => ?_) _
        have zs_ke_28 := ke_28.size
        replace hf := hf.pure ke_28
        replace hb := hb.pure ke_28
        replace hw := hw.pure ke_28
        replace hR3 := hR3.pure ke_28
        replace hq1 := hq1.pure ke_28
        replace hq2 := hq2.pure ke_28
        replace hd_3 := hd_3.pure ke_28
        replace hq7 := hq7.pure ke_28
        replace hq8 := hq8.pure ke_28
        rotate_left
        refine DT.step [(85, _), (82, _)] rfl ⟨rfl, rfl, trivial⟩ rfl (fun wq_24 kq_24 => ?_)
        have zs_kq_24 := kq_24.size
        replace hf := hf.pure kq_24
        replace hb := hb.pure kq_24
        replace hw := hw.pure kq_24
        replace hR3 := hR3.pure kq_24
        replace hq1 := hq1.pure kq_24
        replace hq2 := hq2.pure kq_24
        replace hd_3 := hd_3.pure kq_24
        replace hq7 := hq7.pure kq_24
        replace hq8 := hq8.pure kq_24
        refine WL.want rfl rfl rfl (WL.toStr Try.underlying30 Try.underlying5 Try.underlying9 hq8.rsl rfl rfl (?_))
        refine WL.nil ?_
        refine WX.one ⟨hd_3, ?_⟩
        refine ⟨?_, trivial, trivial, trivial⟩
        refine DT.step [(83, _), (82, _)] rfl ⟨rfl, rfl, trivial⟩ rfl (fun wq_25 kq_25 => ?_)
        have zs_kq_25 := kq_25.size
        replace hf := hf.pure kq_25
        replace hb := hb.pure kq_25
        replace hw := hw.pure kq_25
        replace hR3 := hR3.pure kq_25
        replace hq1 := hq1.pure kq_25
        replace hq2 := hq2.pure kq_25
        replace hd_3 := hd_3.pure kq_25
        replace hq7 := hq7.pure kq_25
        replace hq8 := hq8.pure kq_25
        refine WL.want rfl rfl rfl (WL.toStr Try.underlying30 Try.underlying5 Try.underlying9 hq2 rfl rfl (?_))
        refine WL.nil ?_
        refine WX.one ⟨hd_3, ?_⟩
        refine ⟨?_, trivial, trivial⟩
        refine DT.step [(84, _), (86, _), (82, _)] rfl ⟨rfl, rfl, rfl, trivial⟩ rfl (fun wq_26 kq_26 => ?_)
        have zs_kq_26 := kq_26.size
        replace hf := hf.pure kq_26
        replace hb := hb.pure kq_26
        replace hw := hw.pure kq_26
        replace hR3 := hR3.pure kq_26
        replace hq1 := hq1.pure kq_26
        replace hq2 := hq2.pure kq_26
        replace hd_3 := hd_3.pure kq_26
        replace hq7 := hq7.pure kq_26
        replace hq8 := hq8.pure kq_26
        refine WL.want rfl rfl rfl (?_)
        refine WL.sneqF rfl rfl rfl ((by rw [hx2]; rfl)) ?_
        refine WL.nil ?_
        refine WX.one ⟨hd_3, ?_⟩
        refine ⟨?_, trivial⟩
        refine DT.step [(82, _), (87, _)] rfl ⟨rfl, rfl, trivial⟩ rfl (fun wq_27 kq_27 => ?_)
        have zs_kq_27 := kq_27.size
        replace hf := hf.pure kq_27
        replace hb := hb.pure kq_27
        replace hw := hw.pure kq_27
        replace hR3 := hR3.pure kq_27
        replace hq1 := hq1.pure kq_27
        replace hq2 := hq2.pure kq_27
        replace hd_3 := hd_3.pure kq_27
        replace hq7 := hq7.pure kq_27
        replace hq8 := hq8.pure kq_27
        refine WL.pickF rfl rfl rfl (?_)
        refine WL.nil ?_
        refine WX.one ⟨hd_3, ?_⟩
        refine DT.done (fun we_28 ke_28 => ?_) _
        have zs_ke_28 := ke_28.size
        replace hf := hf.pure ke_28
        replace hb := hb.pure ke_28
        replace hw := hw.pure ke_28
        replace hR3 := hR3.pure ke_28
        replace hq1 := hq1.pure ke_28
        replace hq2 := hq2.pure ke_28
        replace hd_3 := hd_3.pure ke_28
        replace hq7 := hq7.pure ke_28
        replace hq8 := hq8.pure ke_28
        rotate_left
        refine DT.step [(82, _)] rfl ⟨rfl, trivial⟩ rfl (fun wq_22 kq_22 => ?_)
        have zs_kq_22 := kq_22.size
        replace hf := hf.pure kq_22
        replace hb := hb.pure kq_22
        replace hw := hw.pure kq_22
        replace hR3 := hR3.pure kq_22
        replace hq1 := hq1.pure kq_22
        replace hq2 := hq2.pure kq_22
        replace hd_3 := hd_3.pure kq_22
        replace hq7 := hq7.pure kq_22
        refine WL.want rfl rfl rfl (?_)
        refine WL.make (e := eb) (0 : UInt8) 128 128 Try.underlying30 info_5 rfl rfl rfl ⟨rfl, rfl, Nat.le_refl _⟩ (by decide) rfl ?_
        intro g8 w8 hq8 k8 z8 eg8
        have zs_k8 := k8.size
        replace hf := hf.pure k8
        replace hb := hb.pure k8
        replace hw := hw.pure k8
        replace hR3 := hR3.pure k8
        replace hq1 := hq1.pure k8
        replace hq2 := hq2.pure k8
        replace hd_3 := hd_3.pure k8
        replace hq7 := hq7.pure k8
        refine WL.nil ?_
        refine WX.one ⟨hd_3, ?_⟩
        refine ⟨?_, trivial, ?_, trivial, trivial, trivial⟩
        refine DT.step [(10, _), (82, _)] rfl ⟨rfl, rfl, trivial⟩ rfl (fun wq_23 kq_23 => ?_)
        have zs_kq_23 := kq_23.size
        replace hf := hf.pure kq_23
        replace hb := hb.pure kq_23
        replace hw := hw.pure kq_23
        replace hR3 := hR3.pure kq_23
        replace hq1 := hq1.pure kq_23
        replace hq2 := hq2.pure kq_23
        replace hd_3 := hd_3.pure kq_23
        replace hq7 := hq7.pure kq_23
        replace hq8 := hq8.pure kq_23
        refine WL.want rfl rfl rfl (WL.move rfl rfl (?_))
        refine WL.nil ?_
        refine WX.one ⟨hd_3, ?_⟩
        refine ⟨?_, ?_, trivial, trivial, trivial⟩
        refine DT.step [(83, _), (82, _)] rfl ⟨rfl, rfl, trivial⟩ rfl (fun wq_24 kq_24 => ?_)
        have zs_kq_24 := kq_24.size
        replace hf := hf.pure kq_24
        replace hb := hb.pure kq_24
        replace hw := hw.pure kq_24
        replace hR3 := hR3.pure kq_24
        replace hq1 := hq1.pure kq_24
        replace hq2 := hq2.pure kq_24
        replace hd_3 := hd_3.pure kq_24
        replace hq7 := hq7.pure kq_24
        replace hq8 := hq8.pure kq_24
        refine WL.want rfl rfl rfl (WL.toStr Try.underlying30 Try.underlying5 Try.underlying9 hq2 rfl rfl (?_))
        refine WL.nil ?_
        refine WX.one ⟨hd_3, ?_⟩
        refine ⟨?_, trivial, trivial, trivial⟩
        refine DT.step [(85, _), (82, _)] rfl ⟨rfl, rfl, trivial⟩ rfl (fun wq_25 kq_25 => ?_)
        have zs_kq_25 := kq_25.size
        replace hf := hf.pure kq_25
        replace hb := hb.pure kq_25
        replace hw := hw.pure kq_25
        replace hR3 := hR3.pure kq_25
        replace hq1 := hq1.pure kq_25
        replace hq2 := hq2.pure kq_25
        replace hd_3 := hd_3.pure kq_25
        replace hq7 := hq7.pure kq_25
        replace hq8 := hq8.pure kq_25
        refine WL.want rfl rfl rfl (WL.toStr Try.underlying30 Try.underlying5 Try.underlying9 hq8.rsl rfl rfl (?_))
        refine WL.nil ?_
        refine WX.one ⟨hd_3, ?_⟩
        refine ⟨?_, trivial, trivial⟩
        refine DT.step [(84, _), (86, _), (82, _)] rfl ⟨rfl, rfl, rfl, trivial⟩ rfl (fun wq_26 kq_26 => ?_)
        have zs_kq_26 := kq_26.size
        replace hf := hf.pure kq_26
        replace hb := hb.pure kq_26
        replace hw := hw.pure kq_26
        replace hR3 := hR3.pure kq_26
        replace hq1 := hq1.pure kq_26
        replace hq2 := hq2.pure kq_26
        replace hd_3 := hd_3.pure kq_26
        replace hq7 := hq7.pure kq_26
        replace hq8 := hq8.pure kq_26
        refine WL.want rfl rfl rfl (?_)
        refine WL.sneqF rfl rfl rfl ((by rw [hx2]; rfl)) ?_
        refine WL.nil ?_
        refine WX.one ⟨hd_3, ?_⟩
        refine ⟨?_, trivial⟩
        refine DT.step [(82, _), (87, _)] rfl ⟨rfl, rfl, trivial⟩ rfl (fun wq_27 kq_27 => ?_)
        have zs_kq_27 := kq_27.size
        replace hf := hf.pure kq_27
        replace hb := hb.pure kq_27
        replace hw := hw.pure kq_27
        replace hR3 := hR3.pure kq_27
        replace hq1 := hq1.pure kq_27
        replace hq2 := hq2.pure kq_27
        replace hd_3 := hd_3.pure kq_27
        replace hq7 := hq7.pure kq_27
        replace hq8 := hq8.pure kq_27
        refine WL.pickF rfl rfl rfl (?_)
        refine WL.nil ?_
        refine WX.one ⟨hd_3, ?_⟩
        refine DT.done (fun we_28 ke_28 => ?_) _
        have zs_ke_28 := ke_28.size
        replace hf := hf.pure ke_28
        replace hb := hb.pure ke_28
        replace hw := hw.pure ke_28
        replace hR3 := hR3.pure ke_28
        replace hq1 := hq1.pure ke_28
        replace hq2 := hq2.pure ke_28
        replace hd_3 := hd_3.pure ke_28
        replace hq7 := hq7.pure ke_28
        replace hq8 := hq8.pure ke_28
        rotate_left
        refine DT.step [(85, _), (82, _)] rfl ⟨rfl, rfl, trivial⟩ rfl (fun wq_24 kq_24 => ?_)
        have zs_kq_24 := kq_24.size
        replace hf := hf.pure kq_24
        replace hb := hb.pure kq_24
        replace hw := hw.pure kq_24
        replace hR3 := hR3.pure kq_24
        replace hq1 := hq1.pure kq_24
        replace hq2 := hq2.pure kq_24
        replace hd_3 := hd_3.pure kq_24
        replace hq7 := hq7.pure kq_24
        replace hq8 := hq8.pure kq_24
        refine WL.want rfl rfl rfl (WL.toStr Try.underlying30 Try.underlying5 Try.underlying9 hq8.rsl rfl rfl (?_))
        refine WL.nil ?_
        refine WX.one ⟨hd_3, ?_⟩
        refine ⟨?_, trivial, trivial, trivial⟩
        refine DT.step [(83, _), (82, _)] rfl ⟨rfl, rfl, trivial⟩ rfl (fun wq_25 kq_25 => ?_)
        have zs_kq_25 := kq_25.size
        replace hf := hf.pure kq_25
        replace hb := hb.pure kq_25
        replace hw := hw.pure kq_25
        replace hR3 := hR3.pure kq_25
        replace hq1 := hq1.pure kq_25
        replace hq2 := hq2.pure kq_25
        replace hd_3 := hd_3.pure kq_25
        replace hq7 := hq7.pure kq_25
        replace hq8 := hq8.pure kq_25
        refine WL.want rfl rfl rfl (WL.toStr Try.underlying30 Try.underlying5 Try.underlying9 hq2 rfl rfl (?_))
        refine WL.nil ?_
        refine WX.one ⟨hd_3, ?_⟩
        refine ⟨?_, trivial, trivial⟩
        refine DT.step [(84, _), (86, _), (82, _)] rfl ⟨rfl, rfl, rfl, trivial⟩ rfl (fun wq_26 kq_26 => ?_)
        have zs_kq_26 := kq_26.size
        replace hf := hf.pure kq_26
        replace hb := hb.pure kq_26
        replace hw := hw.pure kq_26
        replace hR3 := hR3.pure kq_26
        replace hq1 := hq1.pure kq_26
        replace hq2 := hq2.pure kq_26
        replace hd_3 := hd_3.pure kq_26
        replace hq7 := hq7.pure kq_26
        replace hq8 := hq8.pure kq_26
        refine WL.want rfl rfl rfl (?_)
        refine WL.sneqF rfl rfl rfl ((by rw [hx2]; rfl)) ?_
        refine WL.nil ?_
        refine WX.one ⟨hd_3, ?_⟩
        refine ⟨?_, trivial⟩
        refine DT.step [(82, _), (87, _)] rfl ⟨rfl, rfl, trivial⟩ rfl (fun wq_27 kq_27 => ?_)
        have zs_kq_27 := kq_27.size
        replace hf := hf.pure kq_27
        replace hb := hb.pure kq_27
        replace hw := hw.pure kq_27
        replace hR3 := hR3.pure kq_27
        replace hq1 := hq1.pure kq_27
        replace hq2 := hq2.pure kq_27
        replace hd_3 := hd_3.pure kq_27
        replace hq7 := hq7.pure kq_27
        replace hq8 := hq8.pure kq_27
        refine WL.pickF rfl rfl rfl (?_)
        refine WL.nil ?_
        refine WX.one ⟨hd_3, ?_⟩
        refine DT.done (fun we_28 ke_28 => ?_) _
        have zs_ke_28 := ke_28.size
        replace hf := hf.pure ke_28
        replace hb := hb.pure ke_28
        replace hw := hw.pure ke_28
        replace hR3 := hR3.pure ke_28
        replace hq1 := hq1.pure ke_28
        replace hq2 := hq2.pure ke_28
        replace hd_3 := hd_3.pure ke_28
        replace hq7 := hq7.pure ke_28
        replace hq8 := hq8.pure ke_28
        rotate_left
        refine DT.step [(85, _), (82, _)] rfl ⟨rfl, rfl, trivial⟩ rfl (fun wq_23 kq_23 => ?_)
        have zs_kq_23 := kq_23.size
        replace hf := hf.pure kq_23
        replace hb := hb.pure kq_23
        replace hw := hw.pure kq_23
        replace hR3 := hR3.pure kq_23
        replace hq1 := hq1.pure kq_23
        replace hq2 := hq2.pure kq_23
        replace hd_3 := hd_3.pure kq_23
        replace hq7 := hq7.pure kq_23
        replace hq8 := hq8.pure kq_23
        refine WL.want rfl rfl rfl (WL.toStr Try.underlying30 Try.underlying5 Try.underlying9 hq8.rsl rfl rfl (?_))
        refine WL.nil ?_
        refine WX.one ⟨hd_3, ?_⟩
        refine ⟨?_, trivial, trivial, trivial, trivial⟩
        refine DT.step [(10, _), (82, _)] rfl ⟨rfl, rfl, trivial⟩ rfl (fun wq_24 kq_24 => ?_)
        have zs_kq_24 := kq_24.size
        replace hf := hf.pure kq_24
        replace hb := hb.pure kq_24
        replace hw := hw.pure kq_24
        replace hR3 := hR3.pure kq_24
        replace hq1 := hq1.pure kq_24
        replace hq2 := hq2.pure kq_24
        replace hd_3 := hd_3.pure kq_24
        replace hq7 := hq7.pure kq_24
        replace hq8 := hq8.pure kq_24
        refine WL.want rfl rfl rfl (WL.move rfl rfl (?_))
        refine WL.nil ?_
        refine WX.one ⟨hd_3, ?_⟩
        refine ⟨?_, trivial, trivial, trivial⟩
        refine DT.step [(83, _), (82, _)] rfl ⟨rfl, rfl, trivial⟩ rfl (fun wq_25 kq_25 => ?_)
        have zs_kq_25 := kq_25.size
        replace hf := hf.pure kq_25
        replace hb := hb.pure kq_25
        replace hw := hw.pure kq_25
        replace hR3 := hR3.pure kq_25
        replace hq1 := hq1.pure kq_25
        replace hq2 := hq2.pure kq_25
        replace hd_3 := hd_3.pure kq_25
        replace hq7 := hq7.pure kq_25
        replace hq8 := hq8.pure kq_25
        refine WL.want rfl rfl rfl (WL.toStr Try.underlying30 Try.underlying5 Try.underlying9 hq2 rfl rfl (?_))
        refine WL.nil ?_
        refine WX.one ⟨hd_3, ?_⟩
        refine ⟨?_, trivial, trivial⟩
        refine DT.step [(84, _), (86, _), (82, _)] rfl ⟨rfl, rfl, rfl, trivial⟩ rfl (fun wq_26 kq_26 => ?_)
        have zs_kq_26 := kq_26.size
        replace hf := hf.pure kq_26
        replace hb := hb.pure kq_26
        replace hw := hw.pure kq_26
        replace hR3 := hR3.pure kq_26
        replace hq1 := hq1.pure kq_26
        replace hq2 := hq2.pure kq_26
        replace hd_3 := hd_3.pure kq_26
        replace hq7 := hq7.pure kq_26
        replace hq8 := hq8.pure kq_26
        refine WL.want rfl rfl rfl (?_)
        refine WL.sneqF rfl rfl rfl ((by rw [hx2]; rfl)) ?_
        refine WL.nil ?_
        refine WX.one ⟨hd_3, ?_⟩
        refine ⟨?_, trivial⟩
        refine DT.step [(82, _), (87, _)] rfl ⟨rfl, rfl, trivial⟩ rfl (fun wq_27 kq_27 => ?_)
        have zs_kq_27 := kq_27.size
        replace hf := hf.pure kq_27
        replace hb := hb.pure kq_27
        replace hw := hw.pure kq_27
        replace hR3 := hR3.pure kq_27
        replace hq1 := hq1.pure kq_27
        replace hq2 := hq2.pure kq_27
        replace hd_3 := hd_3.pure kq_27
        replace hq7 := hq7.pure kq_27
        replace hq8 := hq8.pure kq_27
        refine WL.pickF rfl rfl rfl (?_)
        refine WL.nil ?_
        refine WX.one ⟨hd_3, ?_⟩
        refine DT.done (fun we_28 ke_28 => ?_) _
        have zs_ke_28 := ke_28.size
        replace hf := hf.pure ke_28
        replace hb := hb.pure ke_28
        replace hw := hw.pure ke_28
        replace hR3 := hR3.pure ke_28
        replace hq1 := hq1.pure ke_28
        replace hq2 := hq2.pure ke_28
        replace hd_3 := hd_3.pure ke_28
        replace hq7 := hq7.pure ke_28
        replace hq8 := hq8.pure ke_28
        rotate_left
        all_goals
          refine WX.then_normal (WC.cond_false rfl (WC.skip (WX.block_normal (WX.then_normal (WC.region (WL.move rfl rfl (WL.add64 rfl rfl (by first | omega | (constructor <;> omega)) rfl (?_))))))))
          refine WL.assign rfl rfl (WL.nil (?_))
          exact WX.loop_next (i + 1) ⟨rfl, rfl, rfl, rfl, trivial⟩ ⟨by omega, hf, hb, hw, _, sd3, sn3, us3, sg3, hC, sw3, hR3⟩ (by omega)
    ·
      refine WL.pickT rfl rfl rfl (WL.nil (WX.then_normal (WC.cond_false rfl (WC.exit (WX.then_exit (WX.then_exit (WX.block_here (?_))))))))
      refine WX.then_normal (WC.seq (WC.region (WL.assign rfl rfl (WL.nil (WX.then_normal (WC.ret (?_)))))))
      refine WX.ret1 (.inl rfl) Try.results3 rfl ?_
      exact ⟨_, rfl, rfl, hw⟩
  ·
    refine WL.move rfl rfl (WL.pass rfl rfl rfl rfl (WL.pass rfl rfl rfl rfl (WL.pickF rfl rfl rfl (WL.nil (WX.then_normal (WC.cond_false rfl (WC.exit (?_))))))))
    refine WX.then_exit (WX.then_exit (WX.block_here (WX.then_normal (WC.seq (WC.region (WL.assign rfl rfl (WL.nil (?_))))))))
    refine WX.then_normal (WC.ret (?_))
    refine WX.ret1 (.inl rfl) Try.results3 rfl ?_
    exact ⟨_, rfl, rfl, hw⟩
end Go.Proofs.Ytdjlfbadcijjaaa
