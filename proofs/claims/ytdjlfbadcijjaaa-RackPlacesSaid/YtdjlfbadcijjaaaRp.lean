import Derived.Test.YtdjlfbadcijjaaaRn
namespace Go.Proofs.Ytdjlfbadcijjaaa
open Go.RowKit Go.HL

/-! more on racks that have power -/
theorem rotS_held (s : RA) (p q : Pl) (n : Int) : heldS (rotS s p n) q = if q = p then rotB (heldS s p) n else heldS s q := by
  rw [heldS_eq (rotS s p n), heldS_eq s q]
  unfold rotS
  cases h : newV s.waits p with
  | some u =>
    have h1 : newV (putW s.waits p (rotB (heldS s p) n)) q = if q = p then some (rotB (heldS s p) n) else newV s.waits q := by
      unfold newV putW
      rw [List.reverse_reverse, mget_put]
    simp only [h1]
    by_cases e : q = p
    · simp [e]
    · simp [e]
      rfl
  | none =>
    have h1 : lastS { s with last := mput s.last p (rotB (heldS s p) n) } q = if q = p then rotB (heldS s p) n else lastS s q := by
      unfold lastS
      simp only [mget_put]
      by_cases e : q = p <;> simp [e]
    simp only [h1]
    by_cases e : q = p
    · subst e
      simp [h]
    · simp [e]
theorem rotS_dn (s : RA) (p : Pl) (n : Int) : (rotS s p n).dn = s.dn := by unfold rotS; split <;> rfl
theorem rotS_sn (s : RA) (p : Pl) (n : Int) : (rotS s p n).sn = s.sn := by unfold rotS; split <;> rfl
theorem rotS_gone (s : RA) (p : Pl) (n d : Int) : goneS (rotS s p n) d = goneS s d := by
  unfold rotS
  split <;> rfl
theorem rotS_up {s : RA} (h : Up s) (p : Pl) (n : Int) : Up (rotS s p n) := by
  unfold rotS
  split
  · exact ⟨h.off, h.armed⟩
  · exact ⟨h.off, h.armed⟩
theorem mput_len {K V : Type} [DecidableEq K] {l : List (K × V)} {k : K} {v : V} (h : (mget l k).isSome = true) : (mput l k v).length = l.length := by
  induction l with
  | nil => cases h
  | cons p r ih =>
    obtain ⟨k', u⟩ := p
    simp only [mget] at h
    simp only [mput]
    by_cases e : k = k'
    · simp [e]
    · rw [if_neg e] at h
      simp [e, ih h]
theorem rotS_len (s : RA) (p : Pl) (n : Int) : (rotS s p n).waits.length = s.waits.length := by
  unfold rotS
  split
  · rename_i u h
    show (putW s.waits p _).length = _
    unfold putW
    rw [List.length_reverse, mput_len (by unfold newV at h; rw [h]; rfl), List.length_reverse]
  · rfl
theorem rotX_ne {n : Int} (hn : 0 ≤ n) : rotX n ≠ 0 := by
  intro h
  have h1 := congrArg UInt8.toNat h
  have h2 : (rotX n).toNat = (1 + n / 128 % 255).toNat := by
    unfold rotX B8
    rw [UInt8.toNat_ofNat']
    omega
  rw [h2] at h1
  have h3 : (0 : UInt8).toNat = 0 := rfl
  omega
theorem rotB_at {b : List UInt8} {n : Int} (hn : 0 ≤ n) (hb : b.length = 128) {i : Nat} {y z : UInt8} (hy : (rotB b n)[i]? = some y) (hz : b[i]? = some z) : y = z ↔ i ≠ (n % 128).toNat := by
  have hi := (List.getElem?_eq_some_iff.1 hz).1
  unfold rotB at hy
  by_cases h : i = (n % 128).toNat
  · subst h
    rw [List.getElem?_set_self hi, List.getD_eq_getElem?_getD, hz] at hy
    injection hy with hy
    refine ⟨fun e => ?_, fun e => absurd rfl e⟩
    exfalso
    rw [← hy] at e
    have h1 : z ^^^ rotX n ^^^ z = z ^^^ z := by
      have h2 : (Option.some z).getD 0 ^^^ rotX n = z := e
      have h3 : z ^^^ rotX n = z := h2
      rw [h3]
    rw [UInt8.xor_comm (z ^^^ rotX n) z, ← UInt8.xor_assoc, UInt8.xor_self, UInt8.zero_xor] at h1
    exact rotX_ne hn h1
  · rw [List.getElem?_set_ne (fun e => h e.symm), hz] at hy
    injection hy with hy
    exact ⟨fun _ => h, fun _ => hy.symm⟩
theorem rotB_rotB {b : List UInt8} {n : Int} (hb : b.length = 128) : rotB (rotB b n) n = b := by
  have hk : (n % 128).toNat < b.length := by omega
  have h1 : (rotB b n).getD (n % 128).toNat 0 = b.getD (n % 128).toNat 0 ^^^ rotX n := by
    rw [List.getD_eq_getElem?_getD, rotB, List.getElem?_set_self hk]
    rfl
  rw [rotB, h1]
  unfold rotB
  rw [List.set_set, UInt8.xor_assoc, UInt8.xor_self, UInt8.xor_zero, List.getD_eq_getElem?_getD, List.getElem?_eq_getElem hk]
  show b.set _ b[(n % 128).toNat] = b
  exact List.set_getElem_self hk
theorem RotU {A : Nat → Prop} {w : World} {R : Nat} {s : RA} (h : RK A w R s) (hA : ∀ x, w.heap.size ≤ x → A x) {d a n : Int} (hi : inS s d a) (hg : goneS s d = false) (hn : 0 ≤ n ∧ n ≤ 9223372036854775807) :
    Calls Try.prog 19 [ptr R, vi d, vi a, vi n].toArray w (Ret fun v w' => v = vi 0 ∧ RK A w' R (rotS s (d, a) n) ∧ Chg A w w') := by
  have h2 : ¬ n < 0 := by omega
  have e0 : rotE s d a n = 0 := by simp [rotE, hi, hg, h2]
  refine (Rot_calls h d a n hn.2).mono ?_
  rintro e w' ⟨v, rfl, rfl, hR, k⟩
  rw [e0, if_pos rfl] at hR
  exact ⟨_, rfl, by rw [e0], hR.grow hA, k⟩
theorem RotN {A : Nat → Prop} {w : World} {R : Nat} {s : RA} (h : RK A w R s) (hA : ∀ x, w.heap.size ≤ x → A x) {d a n : Int} (hn : n < 0) :
    Calls Try.prog 19 [ptr R, vi d, vi a, vi n].toArray w (Ret fun v w' => v = vi 1 ∧ RK A w' R s ∧ Chg A w w') := by
  have e0 : rotE s d a n = 1 := by simp [rotE, hn]
  refine (Rot_calls h d a n (by omega)).mono ?_
  rintro e w' ⟨v, rfl, rfl, hR, k⟩
  rw [e0, if_neg (by decide)] at hR
  exact ⟨_, rfl, by rw [e0], hR.grow hA, k⟩
structure RotV where
  fill : Int
  at_ : Int
  n : Int
  waits : Bool
def ert : Enc RotV := ⟨4, fun x => [vi x.fill, vi x.at_, vi x.n, .bool x.waits], fun _ => rfl, by simp [Value.oneCell'], by decide⟩
set_option maxHeartbeats 4000000 in
theorem rackSpoils_calls (w : World) (x : RotV) :
    Calls Try.prog 5 [.agg (ert.f x).toArray].toArray w (Ret fun v w' => v = .bool true ∧ Chg Nob w w') := by
  have hw := Chg.refl Nob w
  obtain ⟨B, hBl, hBc⟩ := bytes_all
  obtain ⟨s0, sd, sn, u0, sg, sh, sl, sw, hNew⟩ := new_all 2 6 (by decide) (by decide)
  have sw0 : s0.waits.length = 0 := by rw [sw]; rfl
  clear sl sw
  obtain ⟨k, hk⟩ : ∃ k, k = (B64 x.at_ % 6).toNat := ⟨_, rfl⟩
  have hk6 : k < 6 := by rw [hk, UInt64.toNat_mod]; exact Nat.mod_lt _ (by decide)
  obtain ⟨n, hn⟩ : ∃ n, n = (B64 x.n >>> 1).toNat := ⟨_, rfl⟩
  have hn63 : n ≤ 9223372036854775807 := by
    rw [hn, UInt64.toNat_shiftRight]
    have := (B64 x.n).toNat_lt
    rw [Nat.shiftRight_eq_div_pow]
    show _ / 2 ≤ _
    omega
  obtain ⟨q, hq⟩ : ∃ q, q = ((n : Int) % 128).toNat := ⟨_, rfl⟩
  have i1k : inS s0 1 k := by unfold inS; rw [sd, sn]; omega
  have i0k : inS s0 0 k := by unfold inS; rw [sd, sn]; omega
  refine Calls.of_WC Try.func5 rfl Try.ntmps5 (by simp) ?_
  refine WC.seq (WC.region (?_))
  refine WL.box rfl rfl ?_
  intro g_1 w_1 hge_1 hlt_1 hb_1 k_1
  have zs_k_1 := k_1.size
  replace hw := hw.pure k_1
  refine WL.assign rfl rfl (WL.nil (WX.then_normal (WC.seq (WC.seq (WC.region (?_))))))
  refine WL.call eg_11 rfl rfl (known_calls _) ?_
  rintro v w1 ⟨rfl, k1⟩
  have zs_k1 := k1.size
  replace hw := hw.pure k1
  replace hb_1 := hb_1.pure k1
  refine WL.not rfl rfl (WL.nil (WX.then_normal (WC.cond_false rfl (WC.skip (WX.then_normal (WC.seq (WC.region (?_))))))))
  obtain ⟨N, hN⟩ : ∃ N, N = w1.heap.size := ⟨_, rfl⟩
  have zN := hw.size
  refine WL.call eg_12 rfl rfl (hNew _) ?_
  rintro v w2 ⟨⟨R, rfl, hR⟩, k2⟩
  rw [← hN] at hR
  have zs_k2 := k2.size
  replace hw := hw.pure k2
  replace hb_1 := hb_1.pure k2
  refine WL.move rfl rfl (WL.extract rfl rfl rfl (WL.extract rfl rfl rfl (WL.assign rfl rfl (WL.assign rfl rfl (WL.nil (WX.then_normal (WC.seq (?_))))))))
  refine WC.region (WL.fieldAddr (fld_40_1) rfl rfl (WL.loadB Try.isAgg3 hb_1 rfl rfl rfl (WL.c_i64_u64 Try.underlying3 Try.underlying41 rfl rfl (WL.num rfl rfl (n_rem64 _ _ _ 6 (by decide)) rfl (?_)))))
  refine WL.c_u64_i64s (n := k) Try.underlying41 Try.underlying3 rfl ⟨hk.symm, by omega⟩ rfl ?_
  refine WL.assign rfl rfl (WL.nil (WX.then_normal (WC.seq (WC.region (WL.fieldAddr (fld_40_2) rfl rfl (WL.loadB Try.isAgg3 hb_1 rfl rfl rfl (WL.c_i64_u64 Try.underlying3 Try.underlying41 rfl rfl (?_))))))))
  refine WL.num rfl rfl (n_shr64 _ _ _ _ 1 (by decide)) rfl (?_)
  refine WL.c_u64_i64s (n := n) Try.underlying41 Try.underlying3 rfl ⟨hn.symm, hn63⟩ rfl ?_
  refine WL.assign rfl rfl (WL.nil (WX.then_normal (WC.seq (WC.seq (WC.region (WL.move rfl rfl (?_)))))))
  refine WL.neqF rfl rfl rfl (by first | rfl | omega | decide) ?_
  refine WL.move rfl rfl (WL.want rfl rfl rfl (WL.move rfl rfl (WL.want rfl rfl rfl (WL.move rfl rfl (WL.want rfl rfl rfl (WL.fieldAddr (fld_40_0) rfl rfl (WL.want rfl rfl rfl (?_))))))))
  refine WL.loadB Try.isAgg3 hb_1 rfl rfl rfl (WL.want rfl rfl rfl (?_))
  refine WL.call eg_14 rfl rfl (hBc x.fill _) ?_
  rintro v w2 ⟨⟨g, rfl, hqb, hg1, hg2⟩, k2⟩
  have zs_k2 := k2.size
  replace hw := hw.pure k2
  replace hb_1 := hb_1.pure k2
  replace hR := hR.pure k2
  refine WL.want rfl rfl rfl (?_)
  refine WL.call eg_13 rfl rfl (WriteU hR (fun x hx => by omega) u0 i1k (sg 1) hqb (hBl _) (by omega)) ?_
  rintro v w3 ⟨rfl, hR3, k3⟩
  have zs_k3 := k3.size
  replace hw := hw.chg k3 (by first | (intro x h1 h2; exact h2) | (intro x h0 h1 h2; exact hS x h1 h2) | (intro x h0 h1 h2; have h3 : _ = _ := h2; subst h3; exact hSR h1.1) | (intro x h1 h2; have h3 : _ = _ := h2; subst h3; assumption) | (intro x h1 h2; have h3 : _ = _ := h2; exfalso; omega) | (intro b h1 h2 h3; have h4 : _ = _ := h3; (try dsimp only at h2); exfalso; omega) | (intro h1; have h2 : _ = _ := h1; exfalso; omega) | (intro h1; have h2 : _ ≤ _ := h1; exfalso; omega) | (intros; exfalso; (try dsimp only at *); omega) | (intro b h1 h2 h3; exfalso; have h4 := h3.2; (try dsimp only at *); omega) | (intro h1; exfalso; have h4 := h1.2; (try dsimp only at *); omega) | (intro x h1 h2; exfalso; have h4 := h2.2; (try dsimp only at *); omega) | (intro x h1 h2; exact ⟨_, rfl, h2⟩) | (intro x h1 h2; have h4 := h2.1; have h5 := h2.2; exfalso; omega) | (intro x h1 h2; exact h2.1) | (intro x h1 h2; rcases h2.1 with h3 | h3; exact h3; exfalso; omega) | (intro x h1 h2; rcases h2 with h3 | h3; exact h3; exfalso; omega))
  replace hb_1 := hb_1.chg k3 (by first | (intro x h1 h2; exact h2) | (intro x h0 h1 h2; exact hS x h1 h2) | (intro x h0 h1 h2; have h3 : _ = _ := h2; subst h3; exact hSR h1.1) | (intro x h1 h2; have h3 : _ = _ := h2; subst h3; assumption) | (intro x h1 h2; have h3 : _ = _ := h2; exfalso; omega) | (intro b h1 h2 h3; have h4 : _ = _ := h3; (try dsimp only at h2); exfalso; omega) | (intro h1; have h2 : _ = _ := h1; exfalso; omega) | (intro h1; have h2 : _ ≤ _ := h1; exfalso; omega) | (intros; exfalso; (try dsimp only at *); omega) | (intro b h1 h2 h3; exfalso; have h4 := h3.2; (try dsimp only at *); omega) | (intro h1; exfalso; have h4 := h1.2; (try dsimp only at *); omega) | (intro x h1 h2; exfalso; have h4 := h2.2; (try dsimp only at *); omega) | (intro x h1 h2; exact ⟨_, rfl, h2⟩) | (intro x h1 h2; have h4 := h2.1; have h5 := h2.2; exfalso; omega) | (intro x h1 h2; exact h2.1) | (intro x h1 h2; rcases h2.1 with h3 | h3; exact h3; exfalso; omega) | (intro x h1 h2; rcases h2 with h3 | h3; exact h3; exfalso; omega))
  have us := addS_up u0 (1, (k : Int)) (B x.fill)
  have hA : heldS (addS s0 (1, k) (B x.fill)) (1, k) = B x.fill := by rw [addS_held, if_pos rfl]
  have hC : heldS (addS s0 (1, k) (B x.fill)) (0, k) = zeros := by rw [addS_held, if_neg (fun e => by injection e with e; omega), sh]
  have sd3 : (addS s0 (1, k) (B x.fill)).dn = 2 := sd
  have sn3 : (addS s0 (1, k) (B x.fill)).sn = 6 := sn
  have sg3 : ∀ d, goneS (addS s0 (1, k) (B x.fill)) d = false := sg
  obtain ⟨s3, es3⟩ : ∃ s3, s3 = addS s0 (1, k) (B x.fill) := ⟨_, rfl⟩
  rw [← es3] at hR3 hA hC us sd3 sn3 sg3
  clear es3
  refine WL.want rfl rfl rfl (?_)
  refine WL.neqF rfl rfl rfl (by first | rfl | omega | decide) ?_
  refine WL.pickF rfl rfl rfl (WL.move rfl rfl (WL.want rfl rfl rfl (WL.fieldAddr (fld_40_3) rfl rfl (WL.want rfl rfl rfl (WL.loadB Try.isAgg4 hb_1 rfl rfl rfl (WL.want rfl rfl rfl (WL.not rfl rfl (?_))))))))
  refine WL.want rfl rfl rfl (WL.move rfl rfl (?_))
  refine WL.caseB (t := 47) rfl (fun hb47 => ?_) (fun hb47 => ?_)
  ·
    refine WL.want rfl rfl rfl (WL.move rfl rfl (WL.want rfl rfl rfl (?_)))
    refine WL.call eg_15 rfl rfl (FlushU hR3 us) ?_
    rintro v w4 ⟨rfl, hR4, k4⟩
    have zs_k4 := k4.size
    replace hw := hw.chg k4 (by first | (intro x h1 h2; exact h2) | (intro x h0 h1 h2; exact hS x h1 h2) | (intro x h0 h1 h2; have h3 : _ = _ := h2; subst h3; exact hSR h1.1) | (intro x h1 h2; have h3 : _ = _ := h2; subst h3; assumption) | (intro x h1 h2; have h3 : _ = _ := h2; exfalso; omega) | (intro b h1 h2 h3; have h4 : _ = _ := h3; (try dsimp only at h2); exfalso; omega) | (intro h1; have h2 : _ = _ := h1; exfalso; omega) | (intro h1; have h2 : _ ≤ _ := h1; exfalso; omega) | (intros; exfalso; (try dsimp only at *); omega) | (intro b h1 h2 h3; exfalso; have h4 := h3.2; (try dsimp only at *); omega) | (intro h1; exfalso; have h4 := h1.2; (try dsimp only at *); omega) | (intro x h1 h2; exfalso; have h4 := h2.2; (try dsimp only at *); omega) | (intro x h1 h2; exact ⟨_, rfl, h2⟩) | (intro x h1 h2; have h4 := h2.1; have h5 := h2.2; exfalso; omega) | (intro x h1 h2; exact h2.1) | (intro x h1 h2; rcases h2.1 with h3 | h3; exact h3; exfalso; omega) | (intro x h1 h2; rcases h2 with h3 | h3; exact h3; exfalso; omega))
    replace hb_1 := hb_1.chg k4 (by first | (intro x h1 h2; exact h2) | (intro x h0 h1 h2; exact hS x h1 h2) | (intro x h0 h1 h2; have h3 : _ = _ := h2; subst h3; exact hSR h1.1) | (intro x h1 h2; have h3 : _ = _ := h2; subst h3; assumption) | (intro x h1 h2; have h3 : _ = _ := h2; exfalso; omega) | (intro b h1 h2 h3; have h4 : _ = _ := h3; (try dsimp only at h2); exfalso; omega) | (intro h1; have h2 : _ = _ := h1; exfalso; omega) | (intro h1; have h2 : _ ≤ _ := h1; exfalso; omega) | (intros; exfalso; (try dsimp only at *); omega) | (intro b h1 h2 h3; exfalso; have h4 := h3.2; (try dsimp only at *); omega) | (intro h1; exfalso; have h4 := h1.2; (try dsimp only at *); omega) | (intro x h1 h2; exfalso; have h4 := h2.2; (try dsimp only at *); omega) | (intro x h1 h2; exact ⟨_, rfl, h2⟩) | (intro x h1 h2; have h4 := h2.1; have h5 := h2.2; exfalso; omega) | (intro x h1 h2; exact h2.1) | (intro x h1 h2; rcases h2.1 with h3 | h3; exact h3; exfalso; omega) | (intro x h1 h2; rcases h2 with h3 | h3; exact h3; exfalso; omega))
    rw [← allS_held] at hA hC
    replace us := allS_up us
    replace sd3 : (allS s3).dn = 2 := sd3
    replace sn3 : (allS s3).sn = 6 := sn3
    replace sg3 : ∀ d, goneS (allS s3) d = false := sg3
    obtain ⟨s4, es4⟩ : ∃ s4, s4 = allS s3 := ⟨_, rfl⟩
    rw [← es4] at hR4 hA hC us sd3 sn3 sg3
    clear es4
    clear hR3
    have hR3 := hR4
    clear hR4
    refine WL.want rfl rfl rfl (?_)
    refine WL.neqF rfl rfl rfl (by first | rfl | omega | decide) ?_
    refine WL.want rfl rfl rfl (WL.pickT rfl rfl rfl (WL.pickF rfl rfl rfl (WL.move rfl rfl (WL.want rfl rfl rfl (WL.move rfl rfl (WL.want rfl rfl rfl (WL.move rfl rfl (?_))))))))
    refine WL.want rfl rfl rfl (WL.move rfl rfl (WL.want rfl rfl rfl (?_)))
    have zw5 := hw.size
    refine WL.call eg_19 rfl rfl (RotU (n := (n : Int)) hR3 (fun x hx => by omega) (by unfold inS; rw [sd3, sn3]; omega) (sg3 1) ⟨by omega, by omega⟩) ?_
    rintro v w5 ⟨rfl, hR5, k5⟩
    have zs_k5 := k5.size
    replace hw := hw.chg k5 (by first | (intro x h1 h2; exact h2) | (intro x h0 h1 h2; exact hS x h1 h2) | (intro x h0 h1 h2; have h3 : _ = _ := h2; subst h3; exact hSR h1.1) | (intro x h1 h2; have h3 : _ = _ := h2; subst h3; assumption) | (intro x h1 h2; have h3 : _ = _ := h2; exfalso; omega) | (intro b h1 h2 h3; have h4 : _ = _ := h3; (try dsimp only at h2); exfalso; omega) | (intro h1; have h2 : _ = _ := h1; exfalso; omega) | (intro h1; have h2 : _ ≤ _ := h1; exfalso; omega) | (intros; exfalso; (try dsimp only at *); omega) | (intro b h1 h2 h3; exfalso; have h4 := h3.2; (try dsimp only at *); omega) | (intro h1; exfalso; have h4 := h1.2; (try dsimp only at *); omega) | (intro x h1 h2; exfalso; have h4 := h2.2; (try dsimp only at *); omega) | (intro x h1 h2; exact ⟨_, rfl, h2⟩) | (intro x h1 h2; have h4 := h2.1; have h5 := h2.2; exfalso; omega) | (intro x h1 h2; exact h2.1) | (intro x h1 h2; rcases h2.1 with h3 | h3; exact h3; exfalso; omega) | (intro x h1 h2; rcases h2 with h3 | h3; exact h3; exfalso; omega))
    replace hb_1 := hb_1.chg k5 (by first | (intro x h1 h2; exact h2) | (intro x h0 h1 h2; exact hS x h1 h2) | (intro x h0 h1 h2; have h3 : _ = _ := h2; subst h3; exact hSR h1.1) | (intro x h1 h2; have h3 : _ = _ := h2; subst h3; assumption) | (intro x h1 h2; have h3 : _ = _ := h2; exfalso; omega) | (intro b h1 h2 h3; have h4 : _ = _ := h3; (try dsimp only at h2); exfalso; omega) | (intro h1; have h2 : _ = _ := h1; exfalso; omega) | (intro h1; have h2 : _ ≤ _ := h1; exfalso; omega) | (intros; exfalso; (try dsimp only at *); omega) | (intro b h1 h2 h3; exfalso; have h4 := h3.2; (try dsimp only at *); omega) | (intro h1; exfalso; have h4 := h1.2; (try dsimp only at *); omega) | (intro x h1 h2; exfalso; have h4 := h2.2; (try dsimp only at *); omega) | (intro x h1 h2; exact ⟨_, rfl, h2⟩) | (intro x h1 h2; have h4 := h2.1; have h5 := h2.2; exfalso; omega) | (intro x h1 h2; exact h2.1) | (intro x h1 h2; rcases h2.1 with h3 | h3; exact h3; exfalso; omega) | (intro x h1 h2; rcases h2 with h3 | h3; exact h3; exfalso; omega))
    obtain ⟨s5, us5, sd5, sn5, sg5, hA5, hC5, hR5'⟩ : ∃ s5 : RA, Up s5 ∧ s5.dn = 2 ∧ s5.sn = 6 ∧ (∀ d, goneS s5 d = false) ∧ heldS s5 (1, (k : Int)) = rotB (B x.fill) n ∧ heldS s5 (0, (k : Int)) = zeros ∧ RK (fun x => N ≤ x) w5 R s5 :=
      ⟨_, rotS_up us _ _, by rw [rotS_dn, sd3], by rw [rotS_sn, sn3], fun d => by rw [rotS_gone, sg3], by rw [rotS_held, if_pos rfl, hA], by rw [rotS_held, if_neg (fun e => by injection e with e; omega), hC], hR5⟩
    clear hR5
    have hR5 := hR5'
    clear hR5'
    refine WL.want rfl rfl rfl (?_)
    refine WL.neqF rfl rfl rfl (by first | rfl | omega | decide) ?_
    refine WL.pickF rfl rfl rfl (WL.nil (WX.then_normal (WC.cond_false rfl (WC.skip (WX.then_normal (WC.seq (WC.region (?_))))))))
    refine WL.move rfl rfl (WL.move rfl rfl (?_))
    refine WL.call eg_16 rfl rfl (ReadU hR5 us5 (by unfold inS; rw [sd5, sn5]; omega) (sg5 1)) ?_
    rintro v w6 ⟨⟨⟨ao1, cp1, xs1⟩, rfl, hx1, hq1⟩, k6⟩
    simp only at hx1 hq1
    rw [hA5] at hx1
    subst hx1
    have zs_k6 := k6.size
    replace hw := hw.pure k6
    replace hb_1 := hb_1.pure k6
    replace hR5 := hR5.pure k6
    refine WL.move rfl rfl (WL.extract rfl rfl rfl (?_))
    refine WL.extract rfl rfl rfl ?_
    refine WL.assign rfl rfl (WL.assign rfl rfl (WL.nil (WX.then_normal (WC.seq (WC.region (WL.move rfl rfl (WL.move rfl rfl (?_))))))))
    refine WL.call eg_16 rfl rfl (ReadU hR5 us5 (by unfold inS; rw [sd5, sn5]; omega) (sg5 0)) ?_
    rintro v w7 ⟨⟨⟨ao2, cp2, xs2⟩, rfl, hx2, hq2⟩, k7⟩
    simp only at hx2 hq2
    rw [hC5] at hx2
    subst hx2
    have zs_k7 := k7.size
    replace hw := hw.pure k7
    replace hb_1 := hb_1.pure k7
    replace hR5 := hR5.pure k7
    replace hq1 := hq1.pure k7
    refine WL.move rfl rfl (WL.extract rfl rfl rfl (?_))
    refine WL.extract rfl rfl rfl ?_
    refine WL.assign rfl rfl (WL.assign rfl rfl (WL.nil (WX.then_normal (WC.seq (WC.region (WL.fieldAddr (fld_40_0) rfl rfl (WL.loadB Try.isAgg3 hb_1 rfl rfl rfl (?_))))))))
    replace hR5 := hR5.old
    have zw8 := hw.size
    refine WL.call eg_14 rfl rfl (hBc x.fill _) ?_
    rintro v w8 ⟨⟨gw, rfl, hg, hgw1, hgw2⟩, k8⟩
    have zs_k8 := k8.size
    replace hw := hw.pure k8
    replace hb_1 := hb_1.pure k8
    replace hR5 := hR5.pure k8
    replace hq1 := hq1.pure k8
    replace hq2 := hq2.pure k8
    replace hR5 := hR5.mono (A' := fun x => N ≤ x ∧ x ≠ gw) (fun x hx => ⟨hx.1, by omega⟩)
    have hg' := hg.rsl
    refine WL.assign rfl rfl (WL.nil (WX.then_normal (WC.seq (WC.region (WL.assign rfl rfl (WL.nil (WX.then_normal (?_))))))))
    refine WC.seq (WC.seq (WC.region (WL.assign rfl rfl (WL.nil (WX.then_normal (WC.block (?_)))))))
    have hNg : N ≤ gw := by have := k5.size; omega
    refine WC.loop (σ := Nat) (fun i => [(3, ptr R), (4, vi 0), (5, vi (k : Int)), (6, vi (n : Int)), (7, .slice ao1 (rotB (B x.fill) n).length cp1), (8, .slice ao2 zeros.length cp2), (9, vi 0), (10, .slice (some ⟨gw, 0, none⟩) (B x.fill).length 128), (11, vi (if q < i then 1 else 0)), (12, vi (i : Int))]) (fun i w' => i ≤ 128 ∧ Chg Nob w w' ∧ RK (fun x => N ≤ x ∧ x ≠ gw) w' R s5 ∧ RSl (fun x => x < w6.heap.size) w' eb ao1 cp1 (rotB (B x.fill) n) ∧ RSl (fun x => x < w7.heap.size) w' eb ao2 cp2 zeros ∧ RSl (· = gw) w' eb (some ⟨gw, 0, none⟩) 128 (B x.fill) ∧ w8.heap.size ≤ w'.heap.size) (fun i => 128 - i) 0 ⟨rfl, rfl, rfl, rfl, rfl, rfl, rfl, rfl, rfl, rfl, trivial⟩ ⟨by omega, hw, hR5, hq1, hq2, hg', Nat.le_refl _⟩ ?_
    clear hw hR5 hq1 hq2 hg' hg
    rintro i w1 ⟨hi, hw, hR, hq1, hq2, hg, zl⟩
    have hbl := hBl x.fill
    have hrl : (rotB (B x.fill) n).length = 128 := by rw [rotB_len, hbl]
    refine WC.seq (WC.seq (WC.region (WL.move rfl rfl (WL.move rfl rfl (WL.len Try.underlying30 rfl rfl (?_))))))
    refine WL.lss? rfl rfl rfl (fun h78 => ?_) (fun h78 => ?_)
    ·
      refine WL.move rfl rfl (WL.want rfl rfl rfl (WL.move rfl rfl (WL.want rfl rfl rfl (WL.move rfl rfl (WL.want rfl rfl rfl (WL.len Try.underlying30 rfl rfl (WL.want rfl rfl rfl (?_))))))))
      refine WL.lss? rfl rfl rfl (fun h83 => ?_) (fun h83 => ?_)
      ·
        refine WL.pickT rfl rfl rfl (WL.nil (WX.then_normal (WC.cond_true rfl (WC.skip (WX.then_normal (WC.seq (WC.block (?_))))))))
        refine WC.seq (?_)
        obtain ⟨y, hy⟩ : ∃ y, (rotB (B x.fill) n)[i]? = some y := ⟨_, List.getElem?_eq_getElem (by omega)⟩
        obtain ⟨z, hz⟩ : ∃ z, (B x.fill)[i]? = some z := ⟨_, List.getElem?_eq_getElem (by omega)⟩
        obtain ⟨b1, o1, rfl⟩ := hq1.place hy
        have hrot := rotB_at (n := (n : Int)) (by omega) hbl hy hz
        refine WC.draw (Nob) [0, 1, 2, 3, 4, 5, 6, 7, 8] [] mixed rfl rfl (fun wd_2 kd_2 zd_2 => ?_)
        have zs_kd_2 := kd_2.size
        replace hw := hw.pure kd_2
        replace hR := hR.pure kd_2
        replace hq1 := hq1.pure kd_2
        replace hq2 := hq2.pure kd_2
        replace hg := hg.pure kd_2
        apply DQ.step (E' := [(7, _)])
        case ho => rfl
        case hs => exact ⟨rfl, trivial⟩
        case hk => rfl
        case h1 =>
          intro wq_3 kq_3
          refine WL.move rfl rfl (?_)
          refine WL.nil ?_
          exact WX.one ⟨rfl, by first | exact Chg.refl _ _ | assumption⟩
        apply DQ.step (E' := [(12, _)])
        case ho => rfl
        case hs => exact ⟨rfl, trivial⟩
        case hk => rfl
        case h1 =>
          intro wq_4 kq_4
          refine WL.move rfl rfl (?_)
          refine WL.nil ?_
          exact WX.one ⟨rfl, by first | exact Chg.refl _ _ | assumption⟩
        apply DQ.step (E' := [(87, _), (88, _)])
        case ho => rfl
        case hs => exact ⟨rfl, rfl, trivial⟩
        case hk => rfl
        case h1 =>
          intro wq_5 kq_5
          have zs_kq_5 := kq_5.size
          replace hw := hw.pure kq_5
          replace hR := hR.pure kq_5
          replace hq1 := hq1.pure kq_5
          replace hq2 := hq2.pure kq_5
          replace hg := hg.pure kq_5
          refine WL.indexC hq1 Try.underlying30 Try.sizeOf5 rfl rfl ⟨hy, rfl⟩ rfl ?_
          refine WL.nil ?_
          exact WX.one ⟨rfl, by first | exact Chg.refl _ _ | assumption⟩
        apply DQ.step (E' := [(89, _)])
        case ho => rfl
        case hs => exact ⟨rfl, trivial⟩
        case hk => rfl
        case h1 =>
          intro wq_6 kq_6
          have zs_kq_6 := kq_6.size
          replace hw := hw.pure kq_6
          replace hR := hR.pure kq_6
          replace hq1 := hq1.pure kq_6
          replace hq2 := hq2.pure kq_6
          replace hg := hg.pure kq_6
          refine WL.load Try.isAgg5 rfl ((hq1.cellsAt hy) 0 _ rfl) rfl (?_)
          refine WL.nil ?_
          exact WX.one ⟨rfl, by first | exact Chg.refl _ _ | assumption⟩
        apply DQ.step (E' := [(10, _)])
        case ho => rfl
        case hs => exact ⟨rfl, trivial⟩
        case hk => rfl
        case h1 =>
          intro wq_7 kq_7
          refine WL.move rfl rfl (?_)
          refine WL.nil ?_
          exact WX.one ⟨rfl, by first | exact Chg.refl _ _ | assumption⟩
        apply DQ.step (E' := [(12, _)])
        case ho => rfl
        case hs => exact ⟨rfl, trivial⟩
        case hk => rfl
        case h1 =>
          intro wq_8 kq_8
          refine WL.move rfl rfl (?_)
          refine WL.nil ?_
          exact WX.one ⟨rfl, by first | exact Chg.refl _ _ | assumption⟩
        apply DQ.step (E' := [(91, _), (92, _)])
        case ho => rfl
        case hs => exact ⟨rfl, rfl, trivial⟩
        case hk => rfl
        case h1 =>
          intro wq_9 kq_9
          have zs_kq_9 := kq_9.size
          replace hw := hw.pure kq_9
          replace hR := hR.pure kq_9
          replace hq1 := hq1.pure kq_9
          replace hq2 := hq2.pure kq_9
          replace hg := hg.pure kq_9
          refine WL.indexC hg Try.underlying30 Try.sizeOf5 rfl rfl ⟨hz, rfl⟩ rfl ?_
          refine WL.nil ?_
          exact WX.one ⟨rfl, by first | exact Chg.refl _ _ | assumption⟩
        apply DQ.step (E' := [(93, _)])
        case ho => rfl
        case hs => exact ⟨rfl, trivial⟩
        case hk => rfl
        case h1 =>
          intro wq_10 kq_10
          have zs_kq_10 := kq_10.size
          replace hw := hw.pure kq_10
          replace hR := hR.pure kq_10
          replace hq1 := hq1.pure kq_10
          replace hq2 := hq2.pure kq_10
          replace hg := hg.pure kq_10
          refine WL.load Try.isAgg5 rfl ((hg.cellsAt hz) 0 _ rfl) rfl (?_)
          refine WL.nil ?_
          exact WX.one ⟨rfl, by first | exact Chg.refl _ _ | assumption⟩
        apply DQ.split (E' := [(90, _), (94, _)])
        case ho => rfl
        case hs => exact ⟨rfl, rfl, trivial⟩
        case hk => rfl
        case h1 =>
          intro wq_11 kq_11
          refine WL.neq rfl rfl rfl ?_
          refine WL.nil ?_
          exact WX.one ⟨rfl, by first | exact Chg.refl _ _ | assumption⟩
        case ht =>
          intro h95
          replace h95 := of_decide_eq_true h95
          refine DQ.done (fun _ => ?_)
          refine DL.done (fun we_12 ke_12 => ?_)
          have zs_ke_12 := ke_12.size
          replace hw := hw.pure ke_12
          replace hR := hR.pure ke_12
          replace hq1 := hq1.pure ke_12
          replace hq2 := hq2.pure ke_12
          replace hg := hg.pure ke_12
          refine WX.then_normal (WC.cond_true rfl (WC.region (WL.move rfl rfl (?_))))
          refine WL.add64 rfl rfl (by split <;> omega) rfl ?_
          refine WL.assign rfl rfl (WL.nil (WX.block_normal (WX.then_normal (WC.region (WL.move rfl rfl (WL.add64 rfl rfl (by first | omega | (constructor <;> omega)) rfl (WL.assign rfl rfl (?_))))))))
          refine WL.nil (?_)
          first
            | (have hne : (y.toNat : Int) ≠ (z.toNat : Int) := h95
               have hiq : i = q := by
                 rcases Nat.decEq i q with h1 | h1
                 ·
                   exfalso
                   rw [hq] at h1
                   exact hne (by rw [hrot.2 h1])
                 ·
                   exact h1
               refine WX.loop_next (i + 1) ⟨rfl, rfl, rfl, rfl, rfl, rfl, rfl, rfl, ?_, rfl, trivial⟩ ⟨by omega, hw, hR, hq1, hq2, hg, by omega⟩ (by omega)
               rw [if_pos (show q < i + 1 by omega)]
               show some (vi ((if q < i then (1 : Int) else 0) + 1)) = _
               rw [if_neg (by omega)]
               rfl)
            | (have hne : (y.toNat : Int) = (z.toNat : Int) := by simpa using h95
               have hiq : i ≠ q := by
                 rw [hq]
                 exact hrot.1 (UInt8.toNat_inj.1 (by omega))
               refine WX.loop_next (i + 1) ⟨rfl, rfl, rfl, rfl, rfl, rfl, rfl, rfl, ?_, rfl, trivial⟩ ⟨by omega, hw, hR, hq1, hq2, hg, by omega⟩ (by omega)
               show some (vi (if q < i then (1 : Int) else 0)) = some (vi (if q < i + 1 then (1 : Int) else 0))
               by_cases h1 : q < i
               ·
                 rw [if_pos h1, if_pos (by omega)]
               ·
                 rw [if_neg h1, if_neg (by omega)])
        case hf =>
          intro h95
          replace h95 := of_decide_eq_false h95
          refine DQ.done (fun _ => ?_)
          refine DL.done (fun we_12 ke_12 => ?_)
          have zs_ke_12 := ke_12.size
          replace hw := hw.pure ke_12
          replace hR := hR.pure ke_12
          replace hq1 := hq1.pure ke_12
          replace hq2 := hq2.pure ke_12
          replace hg := hg.pure ke_12
          refine WX.then_normal (WC.cond_false rfl (WC.skip (WX.block_normal (WX.then_normal (WC.region (WL.move rfl rfl (WL.add64 rfl rfl (by first | omega | (constructor <;> omega)) rfl (?_))))))))
          refine WL.assign rfl rfl (WL.nil (?_))
          first
            | (have hne : (y.toNat : Int) ≠ (z.toNat : Int) := h95
               have hiq : i = q := by
                 rcases Nat.decEq i q with h1 | h1
                 ·
                   exfalso
                   rw [hq] at h1
                   exact hne (by rw [hrot.2 h1])
                 ·
                   exact h1
               refine WX.loop_next (i + 1) ⟨rfl, rfl, rfl, rfl, rfl, rfl, rfl, rfl, ?_, rfl, trivial⟩ ⟨by omega, hw, hR, hq1, hq2, hg, by omega⟩ (by omega)
               rw [if_pos (show q < i + 1 by omega)]
               show some (vi ((if q < i then (1 : Int) else 0) + 1)) = _
               rw [if_neg (by omega)]
               rfl)
            | (have hne : (y.toNat : Int) = (z.toNat : Int) := by simpa using h95
               have hiq : i ≠ q := by
                 rw [hq]
                 exact hrot.1 (UInt8.toNat_inj.1 (by omega))
               refine WX.loop_next (i + 1) ⟨rfl, rfl, rfl, rfl, rfl, rfl, rfl, rfl, ?_, rfl, trivial⟩ ⟨by omega, hw, hR, hq1, hq2, hg, by omega⟩ (by omega)
               show some (vi (if q < i then (1 : Int) else 0)) = some (vi (if q < i + 1 then (1 : Int) else 0))
               by_cases h1 : q < i
               ·
                 rw [if_pos h1, if_pos (by omega)]
               ·
                 rw [if_neg h1, if_neg (by omega)])
      ·
        refine WL.pickT rfl rfl rfl (WL.nil (WX.then_normal (WC.cond_false rfl (WC.exit (WX.then_exit (WX.then_exit (WX.block_here (?_))))))))
        refine WX.then_normal (WC.seq (WC.seq (?_)))
        have hil : i = 128 := by omega
        have hql : q < 128 := by omega
        subst hil
        rw [if_pos hql]
        have zw9 := hw.size
        refine WC.drawM ((fun x => N ≤ x ∧ x ≠ gw)) [0, 1, 2, 3, 4, 5, 6, 7, 8, 9, 10, 11, 12, 13, 14, 15, 16] [17, 18, 19, 20, 21, 22, 23, 24, 25, 26, 27] mixed rfl rfl (fun wd_2 kd_2 zd_2 => ?_)
        have zs_kd_2 := kd_2.size
        replace hw := hw.pure kd_2
        replace hR := hR.pure kd_2
        replace hq1 := hq1.pure kd_2
        replace hq2 := hq2.pure kd_2
        replace hg := hg.pure kd_2
        apply DQT.step (E' := [(4, _)])
        case ho => rfl
        case hs => exact ⟨rfl, trivial⟩
        case hk => rfl
        case h1 =>
          intro wq_4 kq_4
          refine WL.move rfl rfl (?_)
          refine WL.nil ?_
          exact WX.one ⟨rfl, by first | exact Chg.refl _ _ | assumption⟩
        apply DQT.step (E' := [(98, _)])
        case ho => rfl
        case hs => exact ⟨rfl, trivial⟩
        case hk => rfl
        case h1 =>
          intro wq_5 kq_5
          refine WL.neqF rfl rfl rfl (by first | rfl | omega | decide) ?_
          refine WL.nil ?_
          exact WX.one ⟨rfl, by first | exact Chg.refl _ _ | assumption⟩
        apply DQT.step (E' := [(99, _)])
        case ho => rfl
        case hs => exact ⟨rfl, trivial⟩
        case hk => rfl
        case h1 =>
          intro wq_6 kq_6
          refine WL.move rfl rfl (?_)
          refine WL.nil ?_
          exact WX.one ⟨rfl, by first | exact Chg.refl _ _ | assumption⟩
        apply DQT.step (E' := [(9, _), (100, _)])
        case ho => rfl
        case hs => exact ⟨rfl, rfl, trivial⟩
        case hk => rfl
        case h1 =>
          intro wq_7 kq_7
          refine WL.want rfl rfl rfl (WL.move rfl rfl (?_))
          refine WL.nil ?_
          exact WX.one ⟨rfl, by first | exact Chg.refl _ _ | assumption⟩
        apply DQT.step (E' := [(101, _), (100, _)])
        case ho => rfl
        case hs => exact ⟨rfl, rfl, trivial⟩
        case hk => rfl
        case h1 =>
          intro wq_8 kq_8
          refine WL.want rfl rfl rfl (?_)
          refine WL.neqF rfl rfl rfl (by first | rfl | omega | decide) ?_
          refine WL.nil ?_
          exact WX.one ⟨rfl, by first | exact Chg.refl _ _ | assumption⟩
        apply DQT.step (E' := [(100, _), (102, _)])
        case ho => rfl
        case hs => exact ⟨rfl, rfl, trivial⟩
        case hk => rfl
        case h1 =>
          intro wq_9 kq_9
          refine WL.pickF rfl rfl rfl (?_)
          refine WL.nil ?_
          exact WX.one ⟨rfl, by first | exact Chg.refl _ _ | assumption⟩
        apply DQT.step (E' := [(103, _)])
        case ho => rfl
        case hs => exact ⟨rfl, trivial⟩
        case hk => rfl
        case h1 =>
          intro wq_10 kq_10
          refine WL.move rfl rfl (?_)
          refine WL.nil ?_
          exact WX.one ⟨rfl, by first | exact Chg.refl _ _ | assumption⟩
        apply DQT.step (E' := [(7, _), (104, _)])
        case ho => rfl
        case hs => exact ⟨rfl, rfl, trivial⟩
        case hk => rfl
        case h1 =>
          intro wq_11 kq_11
          refine WL.want rfl rfl rfl (WL.move rfl rfl (?_))
          refine WL.nil ?_
          exact WX.one ⟨rfl, by first | exact Chg.refl _ _ | assumption⟩
        apply DQT.step (E' := [(105, _), (104, _)])
        case ho => rfl
        case hs => exact ⟨rfl, rfl, trivial⟩
        case hk => rfl
        case h1 =>
          intro wq_12 kq_12
          have zs_kq_12 := kq_12.size
          refine WL.want rfl rfl rfl (WL.len Try.underlying30 rfl rfl (?_))
          refine WL.nil ?_
          exact WX.one ⟨rfl, by first | exact Chg.refl _ _ | assumption⟩
        apply DQT.step (E' := [(106, _), (104, _)])
        case ho => rfl
        case hs => exact ⟨rfl, rfl, trivial⟩
        case hk => rfl
        case h1 =>
          intro wq_13 kq_13
          refine WL.want rfl rfl rfl (?_)
          refine WL.neqF rfl rfl rfl ((by show ((rotB (B x.fill) n).length : Int) = 128; omega)) ?_
          refine WL.nil ?_
          exact WX.one ⟨rfl, by first | exact Chg.refl _ _ | assumption⟩
        apply DQT.step (E' := [(104, _), (107, _)])
        case ho => rfl
        case hs => exact ⟨rfl, rfl, trivial⟩
        case hk => rfl
        case h1 =>
          intro wq_14 kq_14
          refine WL.pickF rfl rfl rfl (?_)
          refine WL.nil ?_
          exact WX.one ⟨rfl, by first | exact Chg.refl _ _ | assumption⟩
        apply DQT.step (E' := [(108, _)])
        case ho => rfl
        case hs => exact ⟨rfl, trivial⟩
        case hk => rfl
        case h1 =>
          intro wq_15 kq_15
          refine WL.move rfl rfl (?_)
          refine WL.nil ?_
          exact WX.one ⟨rfl, by first | exact Chg.refl _ _ | assumption⟩
        apply DQT.step (E' := [(11, _), (109, _)])
        case ho => rfl
        case hs => exact ⟨rfl, rfl, trivial⟩
        case hk => rfl
        case h1 =>
          intro wq_16 kq_16
          refine WL.want rfl rfl rfl (WL.move rfl rfl (?_))
          refine WL.nil ?_
          exact WX.one ⟨rfl, by first | exact Chg.refl _ _ | assumption⟩
        apply DQT.step (E' := [(110, _), (109, _)])
        case ho => rfl
        case hs => exact ⟨rfl, rfl, trivial⟩
        case hk => rfl
        case h1 =>
          intro wq_17 kq_17
          refine WL.want rfl rfl rfl (?_)
          refine WL.neqF rfl rfl rfl (by first | rfl | omega | decide) ?_
          refine WL.nil ?_
          exact WX.one ⟨rfl, by first | exact Chg.refl _ _ | assumption⟩
        apply DQT.step (E' := [(109, _), (111, _)])
        case ho => rfl
        case hs => exact ⟨rfl, rfl, trivial⟩
        case hk => rfl
        case h1 =>
          intro wq_18 kq_18
          refine WL.pickF rfl rfl rfl (?_)
          refine WL.nil ?_
          exact WX.one ⟨rfl, by first | exact Chg.refl _ _ | assumption⟩
        apply DQT.step (E' := [(112, _)])
        case ho => rfl
        case hs => exact ⟨rfl, trivial⟩
        case hk => rfl
        case h1 =>
          intro wq_19 kq_19
          refine WL.move rfl rfl (?_)
          refine WL.nil ?_
          exact WX.one ⟨rfl, by first | exact Chg.refl _ _ | assumption⟩
        apply DQT.step (E' := [(8, _), (113, _)])
        case ho => rfl
        case hs => exact ⟨rfl, rfl, trivial⟩
        case hk => rfl
        case h1 =>
          intro wq_20 kq_20
          refine WL.want rfl rfl rfl (WL.move rfl rfl (?_))
          refine WL.nil ?_
          exact WX.one ⟨rfl, by first | exact Chg.refl _ _ | assumption⟩
        refine DQT.done (fun hd_3 => ?_)
        refine ⟨?_, ?_, trivial, trivial, trivial, trivial, trivial, trivial, trivial, trivial, trivial, trivial⟩
        refine DT.step [(114, _), (113, _)] rfl ⟨rfl, rfl, trivial⟩ rfl (fun wq_21 kq_21 => ?_)
        have zs_kq_21 := kq_21.size
        replace hw := hw.pure kq_21
        replace hR := hR.pure kq_21
        replace hq1 := hq1.pure kq_21
        replace hq2 := hq2.pure kq_21
        replace hg := hg.pure kq_21
        replace hd_3 := hd_3.pure kq_21
        refine WL.want rfl rfl rfl (WL.toStr Try.underlying30 Try.underlying5 Try.underlying9 hq2 rfl rfl (?_))
        refine WL.nil ?_
        refine WX.one ⟨hd_3, ?_⟩
        refine ⟨?_, trivial, trivial, trivial, trivial, trivial, trivial, trivial, trivial, trivial, trivial⟩
        refine DT.step [(113, _)] rfl ⟨rfl, trivial⟩ rfl (fun wq_22 kq_22 => ?_)
        have zs_kq_22 := kq_22.size
        replace hw := hw.pure kq_22
        replace hR := hR.pure kq_22
        replace hq1 := hq1.pure kq_22
        replace hq2 := hq2.pure kq_22
        replace hg := hg.pure kq_22
        replace hd_3 := hd_3.pure kq_22
        refine WL.want rfl rfl rfl (?_)
        refine WL.make (e := eb) (0 : UInt8) 128 128 Try.underlying30 info_5 rfl rfl rfl ⟨rfl, rfl, Nat.le_refl _⟩ (by decide) rfl ?_
        intro g9 w9 hm k9 z9 eg9
        have zs_k9 := k9.size
        replace hw := hw.pure k9
        replace hR := hR.pure k9
        replace hq1 := hq1.pure k9
        replace hq2 := hq2.pure k9
        replace hg := hg.pure k9
        replace hd_3 := hd_3.pure k9
        refine WL.nil ?_
        refine WX.one ⟨hd_3, ?_⟩
        refine ⟨?_, trivial, trivial, trivial, trivial, trivial, trivial, trivial, trivial, trivial⟩
        refine DT.step [(116, _), (113, _)] rfl ⟨rfl, rfl, trivial⟩ rfl (fun wq_23 kq_23 => ?_)
        have zs_kq_23 := kq_23.size
        replace hw := hw.pure kq_23
        replace hR := hR.pure kq_23
        replace hq1 := hq1.pure kq_23
        replace hq2 := hq2.pure kq_23
        replace hg := hg.pure kq_23
        replace hd_3 := hd_3.pure kq_23
        replace hm := hm.pure kq_23
        refine WL.want rfl rfl rfl (WL.toStr Try.underlying30 Try.underlying5 Try.underlying9 hm.rsl rfl rfl (?_))
        refine WL.nil ?_
        refine WX.one ⟨hd_3, ?_⟩
        refine ⟨?_, trivial, trivial, trivial, trivial, trivial, trivial, trivial, trivial⟩
        refine DT.step [(115, _), (117, _), (113, _)] rfl ⟨rfl, rfl, rfl, trivial⟩ rfl (fun wq_24 kq_24 => ?_)
        have zs_kq_24 := kq_24.size
        replace hw := hw.pure kq_24
        replace hR := hR.pure kq_24
        replace hq1 := hq1.pure kq_24
        replace hq2 := hq2.pure kq_24
        replace hg := hg.pure kq_24
        replace hd_3 := hd_3.pure kq_24
        replace hm := hm.pure kq_24
        refine WL.want rfl rfl rfl (?_)
        refine WL.sneqF rfl rfl rfl ((by rfl)) ?_
        refine WL.nil ?_
        refine WX.one ⟨hd_3, ?_⟩
        refine ⟨?_, trivial, trivial, trivial, trivial, trivial, trivial, trivial⟩
        refine DT.step [(113, _), (118, _)] rfl ⟨rfl, rfl, trivial⟩ rfl (fun wq_25 kq_25 => ?_)
        have zs_kq_25 := kq_25.size
        replace hw := hw.pure kq_25
        replace hR := hR.pure kq_25
        replace hq1 := hq1.pure kq_25
        replace hq2 := hq2.pure kq_25
        replace hg := hg.pure kq_25
        replace hd_3 := hd_3.pure kq_25
        replace hm := hm.pure kq_25
        refine WL.pickF rfl rfl rfl (?_)
        refine WL.nil ?_
        refine WX.one ⟨hd_3, ?_⟩
        refine ⟨?_, trivial, trivial, trivial, trivial, trivial, trivial⟩
        refine DT.step [(119, _)] rfl ⟨rfl, trivial⟩ rfl (fun wq_26 kq_26 => ?_)
        have zs_kq_26 := kq_26.size
        replace hw := hw.pure kq_26
        replace hR := hR.pure kq_26
        replace hq1 := hq1.pure kq_26
        replace hq2 := hq2.pure kq_26
        replace hg := hg.pure kq_26
        replace hd_3 := hd_3.pure kq_26
        replace hm := hm.pure kq_26
        refine WL.move rfl rfl (?_)
        refine WL.nil ?_
        refine WX.one ⟨hd_3, ?_⟩
        refine ⟨?_, ?_, trivial, trivial, trivial, trivial⟩
        refine DT.step [(3, _), (120, _)] rfl ⟨rfl, rfl, trivial⟩ rfl (fun wq_27 kq_27 => ?_)
        have zs_kq_27 := kq_27.size
        replace hw := hw.pure kq_27
        replace hR := hR.pure kq_27
        replace hq1 := hq1.pure kq_27
        replace hq2 := hq2.pure kq_27
        replace hg := hg.pure kq_27
        replace hd_3 := hd_3.pure kq_27
        replace hm := hm.pure kq_27
        refine WL.want rfl rfl rfl (WL.move rfl rfl (?_))
        refine WL.nil ?_
        refine WX.one ⟨hd_3, ?_⟩
        refine ⟨?_, trivial, trivial, trivial, trivial⟩
        refine DT.step [(5, _), (120, _)] rfl ⟨rfl, rfl, trivial⟩ rfl (fun wq_28 kq_28 => ?_)
        have zs_kq_28 := kq_28.size
        replace hw := hw.pure kq_28
        replace hR := hR.pure kq_28
        replace hq1 := hq1.pure kq_28
        replace hq2 := hq2.pure kq_28
        replace hg := hg.pure kq_28
        replace hd_3 := hd_3.pure kq_28
        replace hm := hm.pure kq_28
        refine WL.want rfl rfl rfl (WL.move rfl rfl (?_))
        refine WL.nil ?_
        refine WX.one ⟨hd_3, ?_⟩
        refine ⟨?_, trivial, trivial, trivial⟩
        refine DT.step [(121, _), (122, _), (120, _)] rfl ⟨rfl, rfl, rfl, trivial⟩ rfl (fun wq_29 kq_29 => ?_)
        have zs_kq_29 := kq_29.size
        replace hw := hw.pure kq_29
        replace hR := hR.pure kq_29
        replace hq1 := hq1.pure kq_29
        replace hq2 := hq2.pure kq_29
        replace hg := hg.pure kq_29
        replace hd_3 := hd_3.pure kq_29
        replace hm := hm.pure kq_29
        refine WL.want rfl rfl rfl (?_)
        refine WL.call eg_19 rfl rfl (RotN (n := -1) (d := 1) (a := (k : Int)) hR (fun x hx => by omega) (by omega)) ?_
        rintro v w10 ⟨rfl, hR10, k10⟩
        have zs_k10 := k10.size
        replace hw := hw.chg k10 (by first | (intro x h1 h2; exact h2) | (intro x h0 h1 h2; exact hS x h1 h2) | (intro x h0 h1 h2; have h3 : _ = _ := h2; subst h3; exact hSR h1.1) | (intro x h1 h2; have h3 : _ = _ := h2; subst h3; assumption) | (intro x h1 h2; have h3 : _ = _ := h2; exfalso; omega) | (intro b h1 h2 h3; have h4 : _ = _ := h3; (try dsimp only at h2); exfalso; omega) | (intro h1; have h2 : _ = _ := h1; exfalso; omega) | (intro h1; have h2 : _ ≤ _ := h1; exfalso; omega) | (intros; exfalso; (try dsimp only at *); omega) | (intro b h1 h2 h3; exfalso; have h4 := h3.2; (try dsimp only at *); omega) | (intro h1; exfalso; have h4 := h1.2; (try dsimp only at *); omega) | (intro x h1 h2; exfalso; have h4 := h2.2; (try dsimp only at *); omega) | (intro x h1 h2; exact ⟨_, rfl, h2⟩) | (intro x h1 h2; have h4 := h2.1; have h5 := h2.2; exfalso; omega) | (intro x h1 h2; exact h2.1) | (intro x h1 h2; rcases h2.1 with h3 | h3; exact h3; exfalso; omega) | (intro x h1 h2; rcases h2 with h3 | h3; exact h3; exfalso; omega))
        replace hg := hg.chg k10 (by first | (intro x h1 h2; exact h2) | (intro x h0 h1 h2; exact hS x h1 h2) | (intro x h0 h1 h2; have h3 : _ = _ := h2; subst h3; exact hSR h1.1) | (intro x h1 h2; have h3 : _ = _ := h2; subst h3; assumption) | (intro x h1 h2; have h3 : _ = _ := h2; exfalso; omega) | (intro b h1 h2 h3; have h4 : _ = _ := h3; (try dsimp only at h2); exfalso; omega) | (intro h1; have h2 : _ = _ := h1; exfalso; omega) | (intro h1; have h2 : _ ≤ _ := h1; exfalso; omega) | (intros; exfalso; (try dsimp only at *); omega) | (intro b h1 h2 h3; exfalso; have h4 := h3.2; (try dsimp only at *); omega) | (intro h1; exfalso; have h4 := h1.2; (try dsimp only at *); omega) | (intro x h1 h2; exfalso; have h4 := h2.2; (try dsimp only at *); omega) | (intro x h1 h2; exact ⟨_, rfl, h2⟩) | (intro x h1 h2; have h4 := h2.1; have h5 := h2.2; exfalso; omega) | (intro x h1 h2; exact h2.1) | (intro x h1 h2; rcases h2.1 with h3 | h3; exact h3; exfalso; omega) | (intro x h1 h2; rcases h2 with h3 | h3; exact h3; exfalso; omega))
        replace hd_3 := hd_3.chg k10 (by first | (intro x h1 h2; exact h2) | (intro x h0 h1 h2; exact hS x h1 h2) | (intro x h0 h1 h2; have h3 : _ = _ := h2; subst h3; exact hSR h1.1) | (intro x h1 h2; have h3 : _ = _ := h2; subst h3; assumption) | (intro x h1 h2; have h3 : _ = _ := h2; exfalso; omega) | (intro b h1 h2 h3; have h4 : _ = _ := h3; (try dsimp only at h2); exfalso; omega) | (intro h1; have h2 : _ = _ := h1; exfalso; omega) | (intro h1; have h2 : _ ≤ _ := h1; exfalso; omega) | (intros; exfalso; (try dsimp only at *); omega) | (intro b h1 h2 h3; exfalso; have h4 := h3.2; (try dsimp only at *); omega) | (intro h1; exfalso; have h4 := h1.2; (try dsimp only at *); omega) | (intro x h1 h2; exfalso; have h4 := h2.2; (try dsimp only at *); omega) | (intro x h1 h2; exact ⟨_, rfl, h2⟩) | (intro x h1 h2; have h4 := h2.1; have h5 := h2.2; exfalso; omega) | (intro x h1 h2; exact h2.1) | (intro x h1 h2; rcases h2.1 with h3 | h3; exact h3; exfalso; omega) | (intro x h1 h2; rcases h2 with h3 | h3; exact h3; exfalso; omega))
        refine WL.nil ?_
        refine WX.one ⟨hd_3, ?_⟩
        refine ⟨?_, trivial, trivial⟩
        refine DT.step [(123, _), (120, _)] rfl ⟨rfl, rfl, trivial⟩ rfl (fun wq_30 kq_30 => ?_)
        have zs_kq_30 := kq_30.size
        replace hw := hw.pure kq_30
        replace hg := hg.pure kq_30
        replace hd_3 := hd_3.pure kq_30
        replace hR10 := hR10.pure kq_30
        refine WL.want rfl rfl rfl (?_)
        refine WL.neqF rfl rfl rfl (by first | rfl | omega | decide) ?_
        refine WL.nil ?_
        refine WX.one ⟨hd_3, ?_⟩
        refine ⟨?_, trivial⟩
        refine DT.step [(120, _), (124, _)] rfl ⟨rfl, rfl, trivial⟩ rfl (fun wq_31 kq_31 => ?_)
        have zs_kq_31 := kq_31.size
        replace hw := hw.pure kq_31
        replace hg := hg.pure kq_31
        replace hd_3 := hd_3.pure kq_31
        replace hR10 := hR10.pure kq_31
        refine WL.pickF rfl rfl rfl (?_)
        refine WL.nil ?_
        refine WX.one ⟨hd_3, ?_⟩
        refine DT.done (fun we_32 ke_32 => ?_) _
        have zs_ke_32 := ke_32.size
        replace hw := hw.pure ke_32
        replace hg := hg.pure ke_32
        replace hd_3 := hd_3.pure ke_32
        replace hR10 := hR10.pure ke_32
        rotate_left
        refine DT.step [(5, _), (120, _)] rfl ⟨rfl, rfl, trivial⟩ rfl (fun wq_27 kq_27 => ?_)
        have zs_kq_27 := kq_27.size
        replace hw := hw.pure kq_27
        replace hR := hR.pure kq_27
        replace hq1 := hq1.pure kq_27
        replace hq2 := hq2.pure kq_27
        replace hg := hg.pure kq_27
        replace hd_3 := hd_3.pure kq_27
        replace hm := hm.pure kq_27
        refine WL.want rfl rfl rfl (WL.move rfl rfl (?_))
        refine WL.nil ?_
        refine WX.one ⟨hd_3, ?_⟩
        refine ⟨?_, trivial, trivial, trivial, trivial⟩
        refine DT.step [(3, _), (120, _)] rfl ⟨rfl, rfl, trivial⟩ rfl (fun wq_28 kq_28 => ?_)
        have zs_kq_28 := kq_28.size
        replace hw := hw.pure kq_28
        replace hR := hR.pure kq_28
        replace hq1 := hq1.pure kq_28
        replace hq2 := hq2.pure kq_28
        replace hg := hg.pure kq_28
        replace hd_3 := hd_3.pure kq_28
        replace hm := hm.pure kq_28
        refine WL.want rfl rfl rfl (WL.move rfl rfl (?_))
        refine WL.nil ?_
        refine WX.one ⟨hd_3, ?_⟩
        refine ⟨?_, trivial, trivial, trivial⟩
        refine DT.step [(121, _), (122, _), (120, _)] rfl ⟨rfl, rfl, rfl, trivial⟩ rfl (fun wq_29 kq_29 => ?_)
        have zs_kq_29 := kq_29.size
        replace hw := hw.pure kq_29
        replace hR := hR.pure kq_29
        replace hq1 := hq1.pure kq_29
        replace hq2 := hq2.pure kq_29
        replace hg := hg.pure kq_29
        replace hd_3 := hd_3.pure kq_29
        replace hm := hm.pure kq_29
        refine WL.want rfl rfl rfl (?_)
        refine WL.call eg_19 rfl rfl (RotN (n := -1) (d := 1) (a := (k : Int)) hR (fun x hx => by omega) (by omega)) ?_
        rintro v w10 ⟨rfl, hR10, k10⟩
        have zs_k10 := k10.size
        replace hw := hw.chg k10 (by first | (intro x h1 h2; exact h2) | (intro x h0 h1 h2; exact hS x h1 h2) | (intro x h0 h1 h2; have h3 : _ = _ := h2; subst h3; exact hSR h1.1) | (intro x h1 h2; have h3 : _ = _ := h2; subst h3; assumption) | (intro x h1 h2; have h3 : _ = _ := h2; exfalso; omega) | (intro b h1 h2 h3; have h4 : _ = _ := h3; (try dsimp only at h2); exfalso; omega) | (intro h1; have h2 : _ = _ := h1; exfalso; omega) | (intro h1; have h2 : _ ≤ _ := h1; exfalso; omega) | (intros; exfalso; (try dsimp only at *); omega) | (intro b h1 h2 h3; exfalso; have h4 := h3.2; (try dsimp only at *); omega) | (intro h1; exfalso; have h4 := h1.2; (try dsimp only at *); omega) | (intro x h1 h2; exfalso; have h4 := h2.2; (try dsimp only at *); omega) | (intro x h1 h2; exact ⟨_, rfl, h2⟩) | (intro x h1 h2; have h4 := h2.1; have h5 := h2.2; exfalso; omega) | (intro x h1 h2; exact h2.1) | (intro x h1 h2; rcases h2.1 with h3 | h3; exact h3; exfalso; omega) | (intro x h1 h2; rcases h2 with h3 | h3; exact h3; exfalso; omega))
        replace hg := hg.chg k10 (by first | (intro x h1 h2; exact h2) | (intro x h0 h1 h2; exact hS x h1 h2) | (intro x h0 h1 h2; have h3 : _ = _ := h2; subst h3; exact hSR h1.1) | (intro x h1 h2; have h3 : _ = _ := h2; subst h3; assumption) | (intro x h1 h2; have h3 : _ = _ := h2; exfalso; omega) | (intro b h1 h2 h3; have h4 : _ = _ := h3; (try dsimp only at h2); exfalso; omega) | (intro h1; have h2 : _ = _ := h1; exfalso; omega) | (intro h1; have h2 : _ ≤ _ := h1; exfalso; omega) | (intros; exfalso; (try dsimp only at *); omega) | (intro b h1 h2 h3; exfalso; have h4 := h3.2; (try dsimp only at *); omega) | (intro h1; exfalso; have h4 := h1.2; (try dsimp only at *); omega) | (intro x h1 h2; exfalso; have h4 := h2.2; (try dsimp only at *); omega) | (intro x h1 h2; exact ⟨_, rfl, h2⟩) | (intro x h1 h2; have h4 := h2.1; have h5 := h2.2; exfalso; omega) | (intro x h1 h2; exact h2.1) | (intro x h1 h2; rcases h2.1 with h3 | h3; exact h3; exfalso; omega) | (intro x h1 h2; rcases h2 with h3 | h3; exact h3; exfalso; omega))
        replace hd_3 := hd_3.chg k10 (by first | (intro x h1 h2; exact h2) | (intro x h0 h1 h2; exact hS x h1 h2) | (intro x h0 h1 h2; have h3 : _ = _ := h2; subst h3; exact hSR h1.1) | (intro x h1 h2; have h3 : _ = _ := h2; subst h3; assumption) | (intro x h1 h2; have h3 : _ = _ := h2; exfalso; omega) | (intro b h1 h2 h3; have h4 : _ = _ := h3; (try dsimp only at h2); exfalso; omega) | (intro h1; have h2 : _ = _ := h1; exfalso; omega) | (intro h1; have h2 : _ ≤ _ := h1; exfalso; omega) | (intros; exfalso; (try dsimp only at *); omega) | (intro b h1 h2 h3; exfalso; have h4 := h3.2; (try dsimp only at *); omega) | (intro h1; exfalso; have h4 := h1.2; (try dsimp only at *); omega) | (intro x h1 h2; exfalso; have h4 := h2.2; (try dsimp only at *); omega) | (intro x h1 h2; exact ⟨_, rfl, h2⟩) | (intro x h1 h2; have h4 := h2.1; have h5 := h2.2; exfalso; omega) | (intro x h1 h2; exact h2.1) | (intro x h1 h2; rcases h2.1 with h3 | h3; exact h3; exfalso; omega) | (intro x h1 h2; rcases h2 with h3 | h3; exact h3; exfalso; omega))
        refine WL.nil ?_
        refine WX.one ⟨hd_3, ?_⟩
        refine ⟨?_, trivial, trivial⟩
        refine DT.step [(123, _), (120, _)] rfl ⟨rfl, rfl, trivial⟩ rfl (fun wq_30 kq_30 => ?_)
        have zs_kq_30 := kq_30.size
        replace hw := hw.pure kq_30
        replace hg := hg.pure kq_30
        replace hd_3 := hd_3.pure kq_30
        replace hR10 := hR10.pure kq_30
        refine WL.want rfl rfl rfl (?_)
        refine WL.neqF rfl rfl rfl (by first | rfl | omega | decide) ?_
        refine WL.nil ?_
        refine WX.one ⟨hd_3, ?_⟩
        refine ⟨?_, trivial⟩
        refine DT.step [(120, _), (124, _)] rfl ⟨rfl, rfl, trivial⟩ rfl (fun wq_31 kq_31 => ?_)
        have zs_kq_31 := kq_31.size
        replace hw := hw.pure kq_31
        replace hg := hg.pure kq_31
        replace hd_3 := hd_3.pure kq_31
        replace hR10 := hR10.pure kq_31
        refine WL.pickF rfl rfl rfl (?_)
        refine WL.nil ?_
        refine WX.one ⟨hd_3, ?_⟩
        refine DT.done (fun we_32 ke_32 => ?_) _
        have zs_ke_32 := ke_32.size
        replace hw := hw.pure ke_32
        replace hg := hg.pure ke_32
        replace hd_3 := hd_3.pure ke_32
        replace hR10 := hR10.pure ke_32
        rotate_left
        refine DT.step [(113, _)] rfl ⟨rfl, trivial⟩ rfl (fun wq_21 kq_21 => ?_)
        have zs_kq_21 := kq_21.size
        replace hw := hw.pure kq_21
        replace hR := hR.pure kq_21
        replace hq1 := hq1.pure kq_21
        replace hq2 := hq2.pure kq_21
        replace hg := hg.pure kq_21
        replace hd_3 := hd_3.pure kq_21
        refine WL.want rfl rfl rfl (?_)
        refine WL.make (e := eb) (0 : UInt8) 128 128 Try.underlying30 info_5 rfl rfl rfl ⟨rfl, rfl, Nat.le_refl _⟩ (by decide) rfl ?_
        intro g9 w9 hm k9 z9 eg9
        have zs_k9 := k9.size
        replace hw := hw.pure k9
        replace hR := hR.pure k9
        replace hq1 := hq1.pure k9
        replace hq2 := hq2.pure k9
        replace hg := hg.pure k9
        replace hd_3 := hd_3.pure k9
        refine WL.nil ?_
        refine WX.one ⟨hd_3, ?_⟩
        refine ⟨?_, ?_, trivial, trivial, trivial, trivial, trivial, trivial, trivial, trivial, trivial⟩
        refine DT.step [(114, _), (113, _)] rfl ⟨rfl, rfl, trivial⟩ rfl (fun wq_22 kq_22 => ?_)
        have zs_kq_22 := kq_22.size
        replace hw := hw.pure kq_22
        replace hR := hR.pure kq_22
        replace hq1 := hq1.pure kq_22
        replace hq2 := hq2.pure kq_22
        replace hg := hg.pure kq_22
        replace hd_3 := hd_3.pure kq_22
        replace hm := hm.pure kq_22
        refine WL.want rfl rfl rfl (WL.toStr Try.underlying30 Try.underlying5 Try.underlying9 hq2 rfl rfl (?_))
        refine WL.nil ?_
        refine WX.one ⟨hd_3, ?_⟩
        refine ⟨?_, trivial, trivial, trivial, trivial, trivial, trivial, trivial, trivial, trivial⟩
        refine DT.step [(116, _), (113, _)] rfl ⟨rfl, rfl, trivial⟩ rfl (fun wq_23 kq_23 => ?_)
        have zs_kq_23 := kq_23.size
        replace hw := hw.pure kq_23
        replace hR := hR.pure kq_23
        replace hq1 := hq1.pure kq_23
        replace hq2 := hq2.pure kq_23
        replace hg := hg.pure kq_23
        replace hd_3 := hd_3.pure kq_23
        replace hm := hm.pure kq_23
        refine WL.want rfl rfl rfl (WL.toStr Try.underlying30 Try.underlying5 Try.underlying9 hm.rsl rfl rfl (?_))
        refine WL.nil ?_
        refine WX.one ⟨hd_3, ?_⟩
        refine ⟨?_, trivial, trivial, trivial, trivial, trivial, trivial, trivial, trivial⟩
        refine DT.step [(115, _), (117, _), (113, _)] rfl ⟨rfl, rfl, rfl, trivial⟩ rfl (fun wq_24 kq_24 => ?_)
        have zs_kq_24 := kq_24.size
        replace hw := hw.pure kq_24
        replace hR := hR.pure kq_24
        replace hq1 := hq1.pure kq_24
        replace hq2 := hq2.pure kq_24
        replace hg := hg.pure kq_24
        replace hd_3 := hd_3.pure kq_24
        replace hm := hm.pure kq_24
        refine WL.want rfl rfl rfl (?_)
        refine WL.sneqF rfl rfl rfl ((by rfl)) ?_
        refine WL.nil ?_
        refine WX.one ⟨hd_3, ?_⟩
        refine ⟨?_, trivial, trivial, trivial, trivial, trivial, trivial, trivial⟩
        refine DT.step [(113, _), (118, _)] rfl ⟨rfl, rfl, trivial⟩ rfl (fun wq_25 kq_25 => ?_)
        have zs_kq_25 := kq_25.size
        replace hw := hw.pure kq_25
        replace hR := hR.pure kq_25
        replace hq1 := hq1.pure kq_25
        replace hq2 := hq2.pure kq_25
        replace hg := hg.pure kq_25
        replace hd_3 := hd_3.pure kq_25
        replace hm := hm.pure kq_25
        refine WL.pickF rfl rfl rfl (?_)
        refine WL.nil ?_
        refine WX.one ⟨hd_3, ?_⟩
        refine ⟨?_, trivial, trivial, trivial, trivial, trivial, trivial⟩
        refine DT.step [(119, _)] rfl ⟨rfl, trivial⟩ rfl (fun wq_26 kq_26 => ?_)
        have zs_kq_26 := kq_26.size
        replace hw := hw.pure kq_26
        replace hR := hR.pure kq_26
        replace hq1 := hq1.pure kq_26
        replace hq2 := hq2.pure kq_26
        replace hg := hg.pure kq_26
        replace hd_3 := hd_3.pure kq_26
        replace hm := hm.pure kq_26
        refine WL.move rfl rfl (?_)
        refine WL.nil ?_
        refine WX.one ⟨hd_3, ?_⟩
        refine ⟨?_, ?_, trivial, trivial, trivial, trivial⟩
        refine DT.step [(3, _), (120, _)] rfl ⟨rfl, rfl, trivial⟩ rfl (fun wq_27 kq_27 => ?_)
        have zs_kq_27 := kq_27.size
        replace hw := hw.pure kq_27
        replace hR := hR.pure kq_27
        replace hq1 := hq1.pure kq_27
        replace hq2 := hq2.pure kq_27
        replace hg := hg.pure kq_27
        replace hd_3 := hd_3.pure kq_27
        replace hm := hm.pure kq_27
        refine WL.want rfl rfl rfl (WL.move rfl rfl (?_))
        refine WL.nil ?_
        refine WX.one ⟨hd_3, ?_⟩
        refine ⟨?_, trivial, trivial, trivial, trivial⟩
        refine DT.step [(5, _), (120, _)] rfl ⟨rfl, rfl, trivial⟩ rfl (fun wq_28 kq_28 => ?_)
        have zs_kq_28 := kq_28.size
        replace hw := hw.pure kq_28
        replace hR := hR.pure kq_28
        replace hq1 := hq1.pure kq_28
        replace hq2 := hq2.pure kq_28
        replace hg := hg.pure kq_28
        replace hd_3 := hd_3.pure kq_28
        replace hm := hm.pure kq_28
        refine WL.want rfl rfl rfl (WL.move rfl rfl (?_))
        refine WL.nil ?_
        refine WX.one ⟨hd_3, ?_⟩
        refine ⟨?_, trivial, trivial, trivial⟩
        refine DT.step [(121, _), (122, _), (120, _)] rfl ⟨rfl, rfl, rfl, trivial⟩ rfl (fun wq_29 kq_29 => ?_)
        have zs_kq_29 := kq_29.size
        replace hw := hw.pure kq_29
        replace hR := hR.pure kq_29
        replace hq1 := hq1.pure kq_29
        replace hq2 := hq2.pure kq_29
        replace hg := hg.pure kq_29
        replace hd_3 := hd_3.pure kq_29
        replace hm := hm.pure kq_29
        refine WL.want rfl rfl rfl (?_)
        refine WL.call eg_19 rfl rfl (RotN (n := -1) (d := 1) (a := (k : Int)) hR (fun x hx => by omega) (by omega)) ?_
        rintro v w10 ⟨rfl, hR10, k10⟩
        have zs_k10 := k10.size
        replace hw := hw.chg k10 (by first | (intro x h1 h2; exact h2) | (intro x h0 h1 h2; exact hS x h1 h2) | (intro x h0 h1 h2; have h3 : _ = _ := h2; subst h3; exact hSR h1.1) | (intro x h1 h2; have h3 : _ = _ := h2; subst h3; assumption) | (intro x h1 h2; have h3 : _ = _ := h2; exfalso; omega) | (intro b h1 h2 h3; have h4 : _ = _ := h3; (try dsimp only at h2); exfalso; omega) | (intro h1; have h2 : _ = _ := h1; exfalso; omega) | (intro h1; have h2 : _ ≤ _ := h1; exfalso; omega) | (intros; exfalso; (try dsimp only at *); omega) | (intro b h1 h2 h3; exfalso; have h4 := h3.2; (try dsimp only at *); omega) | (intro h1; exfalso; have h4 := h1.2; (try dsimp only at *); omega) | (intro x h1 h2; exfalso; have h4 := h2.2; (try dsimp only at *); omega) | (intro x h1 h2; exact ⟨_, rfl, h2⟩) | (intro x h1 h2; have h4 := h2.1; have h5 := h2.2; exfalso; omega) | (intro x h1 h2; exact h2.1) | (intro x h1 h2; rcases h2.1 with h3 | h3; exact h3; exfalso; omega) | (intro x h1 h2; rcases h2 with h3 | h3; exact h3; exfalso; omega))
        replace hg := hg.chg k10 (by first | (intro x h1 h2; exact h2) | (intro x h0 h1 h2; exact hS x h1 h2) | (intro x h0 h1 h2; have h3 : _ = _ := h2; subst h3; exact hSR h1.1) | (intro x h1 h2; have h3 : _ = _ := h2; subst h3; assumption) | (intro x h1 h2; have h3 : _ = _ := h2; exfalso; omega) | (intro b h1 h2 h3; have h4 : _ = _ := h3; (try dsimp only at h2); exfalso; omega) | (intro h1; have h2 : _ = _ := h1; exfalso; omega) | (intro h1; have h2 : _ ≤ _ := h1; exfalso; omega) | (intros; exfalso; (try dsimp only at *); omega) | (intro b h1 h2 h3; exfalso; have h4 := h3.2; (try dsimp only at *); omega) | (intro h1; exfalso; have h4 := h1.2; (try dsimp only at *); omega) | (intro x h1 h2; exfalso; have h4 := h2.2; (try dsimp only at *); omega) | (intro x h1 h2; exact ⟨_, rfl, h2⟩) | (intro x h1 h2; have h4 := h2.1; have h5 := h2.2; exfalso; omega) | (intro x h1 h2; exact h2.1) | (intro x h1 h2; rcases h2.1 with h3 | h3; exact h3; exfalso; omega) | (intro x h1 h2; rcases h2 with h3 | h3; exact h3; exfalso; omega))
        replace hd_3 := hd_3.chg k10 (by first | (intro x h1 h2; exact h2) | (intro x h0 h1 h2; exact hS x h1 h2) | (intro x h0 h1 h2; have h3 : _ = _ := h2; subst h3; exact hSR h1.1) | (intro x h1 h2; have h3 : _ = _ := h2; subst h3; assumption) | (intro x h1 h2; have h3 : _ = _ := h2; exfalso; omega) | (intro b h1 h2 h3; have h4 : _ = _ := h3; (try dsimp only at h2); exfalso; omega) | (intro h1; have h2 : _ = _ := h1; exfalso; omega) | (intro h1; have h2 : _ ≤ _ := h1; exfalso; omega) | (intros; exfalso; (try dsimp only at *); omega) | (intro b h1 h2 h3; exfalso; have h4 := h3.2; (try dsimp only at *); omega) | (intro h1; exfalso; have h4 := h1.2; (try dsimp only at *); omega) | (intro x h1 h2; exfalso; have h4 := h2.2; (try dsimp only at *); omega) | (intro x h1 h2; exact ⟨_, rfl, h2⟩) | (intro x h1 h2; have h4 := h2.1; have h5 := h2.2; exfalso; omega) | (intro x h1 h2; exact h2.1) | (intro x h1 h2; rcases h2.1 with h3 | h3; exact h3; exfalso; omega) | (intro x h1 h2; rcases h2 with h3 | h3; exact h3; exfalso; omega))
        refine WL.nil ?_
        refine WX.one ⟨hd_3, ?_⟩
        refine ⟨?_, trivial, trivial⟩
        refine DT.step [(123, _), (120, _)] rfl ⟨rfl, rfl, trivial⟩ rfl (fun wq_30 kq_30 => ?_)
        have zs_kq_30 := kq_30.size
        replace hw := hw.pure kq_30
        replace hg := hg.pure kq_30
        replace hd_3 := hd_3.pure kq_30
        replace hR10 := hR10.pure kq_30
        refine WL.want rfl rfl rfl (?_)
        refine WL.neqF rfl rfl rfl (by first | rfl | omega | decide) ?_
        refine WL.nil ?_
        refine WX.one ⟨hd_3, ?_⟩
        refine ⟨?_, trivial⟩
        refine DT.step [(120, _), (124, _)] rfl ⟨rfl, rfl, trivial⟩ rfl (fun wq_31 kq_31 => ?_)
        have zs_kq_31 := kq_31.size
        replace hw := hw.pure kq_31
        replace hg := hg.pure kq_31
        replace hd_3 := hd_3.pure kq_31
        replace hR10 := hR10.pure kq_31
        refine WL.pickF rfl rfl rfl (?_)
        refine WL.nil ?_
        refine WX.one ⟨hd_3, ?_⟩
        refine DT.done (fun we_32 ke_32 => ?_) _
        have zs_ke_32 := ke_32.size
        replace hw := hw.pure ke_32
        replace hg := hg.pure ke_32
        replace hd_3 := hd_3.pure ke_32
        replace hR10 := hR10.pure ke_32
        rotate_left
        refine DT.step [(5, _), (120, _)] rfl ⟨rfl, rfl, trivial⟩ rfl (fun wq_27 kq_27 => ?_)
        have zs_kq_27 := kq_27.size
        replace hw := hw.pure kq_27
        replace hR := hR.pure kq_27
        replace hq1 := hq1.pure kq_27
        replace hq2 := hq2.pure kq_27
        replace hg := hg.pure kq_27
        replace hd_3 := hd_3.pure kq_27
        replace hm := hm.pure kq_27
        refine WL.want rfl rfl rfl (WL.move rfl rfl (?_))
        refine WL.nil ?_
        refine WX.one ⟨hd_3, ?_⟩
        refine ⟨?_, trivial, trivial, trivial, trivial⟩
        refine DT.step [(3, _), (120, _)] rfl ⟨rfl, rfl, trivial⟩ rfl (fun wq_28 kq_28 => ?_)
        have zs_kq_28 := kq_28.size
        replace hw := hw.pure kq_28
        replace hR := hR.pure kq_28
        replace hq1 := hq1.pure kq_28
        replace hq2 := hq2.pure kq_28
        replace hg := hg.pure kq_28
        replace hd_3 := hd_3.pure kq_28
        replace hm := hm.pure kq_28
        refine WL.want rfl rfl rfl (WL.move rfl rfl (?_))
        refine WL.nil ?_
        refine WX.one ⟨hd_3, ?_⟩
        refine ⟨?_, trivial, trivial, trivial⟩
        refine DT.step [(121, _), (122, _), (120, _)] rfl ⟨rfl, rfl, rfl, trivial⟩ rfl (fun wq_29 kq_29 => ?_)
        have zs_kq_29 := kq_29.size
        replace hw := hw.pure kq_29
        replace hR := hR.pure kq_29
        replace hq1 := hq1.pure kq_29
        replace hq2 := hq2.pure kq_29
        replace hg := hg.pure kq_29
        replace hd_3 := hd_3.pure kq_29
        replace hm := hm.pure kq_29
        refine WL.want rfl rfl rfl (?_)
        refine WL.call eg_19 rfl rfl (RotN (n := -1) (d := 1) (a := (k : Int)) hR (fun x hx => by omega) (by omega)) ?_
        rintro v w10 ⟨rfl, hR10, k10⟩
        have zs_k10 := k10.size
        replace hw := hw.chg k10 (by first | (intro x h1 h2; exact h2) | (intro x h0 h1 h2; exact hS x h1 h2) | (intro x h0 h1 h2; have h3 : _ = _ := h2; subst h3; exact hSR h1.1) | (intro x h1 h2; have h3 : _ = _ := h2; subst h3; assumption) | (intro x h1 h2; have h3 : _ = _ := h2; exfalso; omega) | (intro b h1 h2 h3; have h4 : _ = _ := h3; (try dsimp only at h2); exfalso; omega) | (intro h1; have h2 : _ = _ := h1; exfalso; omega) | (intro h1; have h2 : _ ≤ _ := h1; exfalso; omega) | (intros; exfalso; (try dsimp only at *); omega) | (intro b h1 h2 h3; exfalso; have h4 := h3.2; (try dsimp only at *); omega) | (intro h1; exfalso; have h4 := h1.2; (try dsimp only at *); omega) | (intro x h1 h2; exfalso; have h4 := h2.2; (try dsimp only at *); omega) | (intro x h1 h2; exact ⟨_, rfl, h2⟩) | (intro x h1 h2; have h4 := h2.1; have h5 := h2.2; exfalso; omega) | (intro x h1 h2; exact h2.1) | (intro x h1 h2; rcases h2.1 with h3 | h3; exact h3; exfalso; omega) | (intro x h1 h2; rcases h2 with h3 | h3; exact h3; exfalso; omega))
        replace hg := hg.chg k10 (by first | (intro x h1 h2; exact h2) | (intro x h0 h1 h2; exact hS x h1 h2) | (intro x h0 h1 h2; have h3 : _ = _ := h2; subst h3; exact hSR h1.1) | (intro x h1 h2; have h3 : _ = _ := h2; subst h3; assumption) | (intro x h1 h2; have h3 : _ = _ := h2; exfalso; omega) | (intro b h1 h2 h3; have h4 : _ = _ := h3; (try dsimp only at h2); exfalso; omega) | (intro h1; have h2 : _ = _ := h1; exfalso; omega) | (intro h1; have h2 : _ ≤ _ := h1; exfalso; omega) | (intros; exfalso; (try dsimp only at *); omega) | (intro b h1 h2 h3; exfalso; have h4 := h3.2; (try dsimp only at *); omega) | (intro h1; exfalso; have h4 := h1.2; (try dsimp only at *); omega) | (intro x h1 h2; exfalso; have h4 := h2.2; (try dsimp only at *); omega) | (intro x h1 h2; exact ⟨_, rfl, h2⟩) | (intro x h1 h2; have h4 := h2.1; have h5 := h2.2; exfalso; omega) | (intro x h1 h2; exact h2.1) | (intro x h1 h2; rcases h2.1 with h3 | h3; exact h3; exfalso; omega) | (intro x h1 h2; rcases h2 with h3 | h3; exact h3; exfalso; omega))
        replace hd_3 := hd_3.chg k10 (by first | (intro x h1 h2; exact h2) | (intro x h0 h1 h2; exact hS x h1 h2) | (intro x h0 h1 h2; have h3 : _ = _ := h2; subst h3; exact hSR h1.1) | (intro x h1 h2; have h3 : _ = _ := h2; subst h3; assumption) | (intro x h1 h2; have h3 : _ = _ := h2; exfalso; omega) | (intro b h1 h2 h3; have h4 : _ = _ := h3; (try dsimp only at h2); exfalso; omega) | (intro h1; have h2 : _ = _ := h1; exfalso; omega) | (intro h1; have h2 : _ ≤ _ := h1; exfalso; omega) | (intros; exfalso; (try dsimp only at *); omega) | (intro b h1 h2 h3; exfalso; have h4 := h3.2; (try dsimp only at *); omega) | (intro h1; exfalso; have h4 := h1.2; (try dsimp only at *); omega) | (intro x h1 h2; exfalso; have h4 := h2.2; (try dsimp only at *); omega) | (intro x h1 h2; exact ⟨_, rfl, h2⟩) | (intro x h1 h2; have h4 := h2.1; have h5 := h2.2; exfalso; omega) | (intro x h1 h2; exact h2.1) | (intro x h1 h2; rcases h2.1 with h3 | h3; exact h3; exfalso; omega) | (intro x h1 h2; rcases h2 with h3 | h3; exact h3; exfalso; omega))
        refine WL.nil ?_
        refine WX.one ⟨hd_3, ?_⟩
        refine ⟨?_, trivial, trivial⟩
        refine DT.step [(123, _), (120, _)] rfl ⟨rfl, rfl, trivial⟩ rfl (fun wq_30 kq_30 => ?_)
        have zs_kq_30 := kq_30.size
        replace hw := hw.pure kq_30
        replace hg := hg.pure kq_30
        replace hd_3 := hd_3.pure kq_30
        replace hR10 := hR10.pure kq_30
        refine WL.want rfl rfl rfl (?_)
        refine WL.neqF rfl rfl rfl (by first | rfl | omega | decide) ?_
        refine WL.nil ?_
        refine WX.one ⟨hd_3, ?_⟩
        refine ⟨?_, trivial⟩
        refine DT.step [(120, _), (124, _)] rfl ⟨rfl, rfl, trivial⟩ rfl (fun wq_31 kq_31 => ?_)
        have zs_kq_31 := kq_31.size
        replace hw := hw.pure kq_31
        replace hg := hg.pure kq_31
        replace hd_3 := hd_3.pure kq_31
        replace hR10 := hR10.pure kq_31
        refine WL.pickF rfl rfl rfl (?_)
        refine WL.nil ?_
        refine WX.one ⟨hd_3, ?_⟩
        refine DT.done (fun we_32 ke_32 => ?_) _
        have zs_ke_32 := ke_32.size
        replace hw := hw.pure ke_32
        replace hg := hg.pure ke_32
        replace hd_3 := hd_3.pure ke_32
        replace hR10 := hR10.pure ke_32
        rotate_left
        refine DT.step [(116, _), (113, _)] rfl ⟨rfl, rfl, trivial⟩ rfl (fun wq_22 kq_22 => ?_)
        have zs_kq_22 := kq_22.size
        replace hw := hw.pure kq_22
        replace hR := hR.pure kq_22
        replace hq1 := hq1.pure kq_22
        replace hq2 := hq2.pure kq_22
        replace hg := hg.pure kq_22
        replace hd_3 := hd_3.pure kq_22
        replace hm := hm.pure kq_22
        refine WL.want rfl rfl rfl (WL.toStr Try.underlying30 Try.underlying5 Try.underlying9 hm.rsl rfl rfl (?_))
        refine WL.nil ?_
        refine WX.one ⟨hd_3, ?_⟩
        refine ⟨?_, trivial, trivial, trivial, trivial, trivial, trivial, trivial, trivial, trivial⟩
        refine DT.step [(114, _), (113, _)] rfl ⟨rfl, rfl, trivial⟩ rfl (fun wq_23 kq_23 => ?_)
        have zs_kq_23 := kq_23.size
        replace hw := hw.pure kq_23
        replace hR := hR.pure kq_23
        replace hq1 := hq1.pure kq_23
        replace hq2 := hq2.pure kq_23
        replace hg := hg.pure kq_23
        replace hd_3 := hd_3.pure kq_23
        replace hm := hm.pure kq_23
        refine WL.want rfl rfl rfl (WL.toStr Try.underlying30 Try.underlying5 Try.underlying9 hq2 rfl rfl (?_))
        refine WL.nil ?_
        refine WX.one ⟨hd_3, ?_⟩
        refine ⟨?_, trivial, trivial, trivial, trivial, trivial, trivial, trivial, trivial⟩
        refine DT.step [(115, _), (117, _), (113, _)] rfl ⟨rfl, rfl, rfl, trivial⟩ rfl (fun wq_24 kq_24 => ?_)
        have zs_kq_24 := kq_24.size
        replace hw := hw.pure kq_24
        replace hR := hR.pure kq_24
        replace hq1 := hq1.pure kq_24
        replace hq2 := hq2.pure kq_24
        replace hg := hg.pure kq_24
        replace hd_3 := hd_3.pure kq_24
        replace hm := hm.pure kq_24
        refine WL.want rfl rfl rfl (?_)
        refine WL.sneqF rfl rfl rfl ((by rfl)) ?_
        refine WL.nil ?_
        refine WX.one ⟨hd_3, ?_⟩
        refine ⟨?_, trivial, trivial, trivial, trivial, trivial, trivial, trivial⟩
        refine DT.step [(113, _), (118, _)] rfl ⟨rfl, rfl, trivial⟩ rfl (fun wq_25 kq_25 => ?_)
        have zs_kq_25 := kq_25.size
        replace hw := hw.pure kq_25
        replace hR := hR.pure kq_25
        replace hq1 := hq1.pure kq_25
        replace hq2 := hq2.pure kq_25
        replace hg := hg.pure kq_25
        replace hd_3 := hd_3.pure kq_25
        replace hm := hm.pure kq_25
        refine WL.pickF rfl rfl rfl (?_)
        refine WL.nil ?_
        refine WX.one ⟨hd_3, ?_⟩
        refine ⟨?_, trivial, trivial, trivial, trivial, trivial, trivial⟩
        refine DT.step [(119, _)] rfl ⟨rfl, trivial⟩ rfl (fun wq_26 kq_26 => ?_)
        have zs_kq_26 := kq_26.size
        replace hw := hw.pure kq_26
        replace hR := hR.pure kq_26
        replace hq1 := hq1.pure kq_26
        replace hq2 := hq2.pure kq_26
        replace hg := hg.pure kq_26
        replace hd_3 := hd_3.pure kq_26
        replace hm := hm.pure kq_26
        refine WL.move rfl rfl (?_)
        refine WL.nil ?_
        refine WX.one ⟨hd_3, ?_⟩
        refine ⟨?_, ?_, trivial, trivial, trivial, trivial⟩
        refine DT.step [(3, _), (120, _)] rfl ⟨rfl, rfl, trivial⟩ rfl (fun wq_27 kq_27 => ?_)
        have zs_kq_27 := kq_27.size
        replace hw := hw.pure kq_27
        replace hR := hR.pure kq_27
        replace hq1 := hq1.pure kq_27
        replace hq2 := hq2.pure kq_27
        replace hg := hg.pure kq_27
        replace hd_3 := hd_3.pure kq_27
        replace hm := hm.pure kq_27
        refine WL.want rfl rfl rfl (WL.move rfl rfl (?_))
        refine WL.nil ?_
        refine WX.one ⟨hd_3, ?_⟩
        refine ⟨?_, trivial, trivial, trivial, trivial⟩
        refine DT.step [(5, _), (120, _)] rfl ⟨rfl, rfl, trivial⟩ rfl (fun wq_28 kq_28 => ?_)
        have zs_kq_28 := kq_28.size
        replace hw := hw.pure kq_28
        replace hR := hR.pure kq_28
        replace hq1 := hq1.pure kq_28
        replace hq2 := hq2.pure kq_28
        replace hg := hg.pure kq_28
        replace hd_3 := hd_3.pure kq_28
        replace hm := hm.pure kq_28
        refine WL.want rfl rfl rfl (WL.move rfl rfl (?_))
        refine WL.nil ?_
        refine WX.one ⟨hd_3, ?_⟩
        refine ⟨?_, trivial, trivial, trivial⟩
        refine DT.step [(121, _), (122, _), (120, _)] rfl ⟨rfl, rfl, rfl, trivial⟩ rfl (fun wq_29 kq_29 => ?_)
        have zs_kq_29 := kq_29.size
        replace hw := hw.pure kq_29
        replace hR := hR.pure kq_29
        replace hq1 := hq1.pure kq_29
        replace hq2 := hq2.pure kq_29
        replace hg := hg.pure kq_29
        replace hd_3 := hd_3.pure kq_29
        replace hm := hm.pure kq_29
        refine WL.want rfl rfl rfl (?_)
        refine WL.call eg_19 rfl rfl (RotN (n := -1) (d := 1) (a := (k : Int)) hR (fun x hx => by omega) (by omega)) ?_
        rintro v w10 ⟨rfl, hR10, k10⟩
        have zs_k10 := k10.size
        replace hw := hw.chg k10 (by first | (intro x h1 h2; exact h2) | (intro x h0 h1 h2; exact hS x h1 h2) | (intro x h0 h1 h2; have h3 : _ = _ := h2; subst h3; exact hSR h1.1) | (intro x h1 h2; have h3 : _ = _ := h2; subst h3; assumption) | (intro x h1 h2; have h3 : _ = _ := h2; exfalso; omega) | (intro b h1 h2 h3; have h4 : _ = _ := h3; (try dsimp only at h2); exfalso; omega) | (intro h1; have h2 : _ = _ := h1; exfalso; omega) | (intro h1; have h2 : _ ≤ _ := h1; exfalso; omega) | (intros; exfalso; (try dsimp only at *); omega) | (intro b h1 h2 h3; exfalso; have h4 := h3.2; (try dsimp only at *); omega) | (intro h1; exfalso; have h4 := h1.2; (try dsimp only at *); omega) | (intro x h1 h2; exfalso; have h4 := h2.2; (try dsimp only at *); omega) | (intro x h1 h2; exact ⟨_, rfl, h2⟩) | (intro x h1 h2; have h4 := h2.1; have h5 := h2.2; exfalso; omega) | (intro x h1 h2; exact h2.1) | (intro x h1 h2; rcases h2.1 with h3 | h3; exact h3; exfalso; omega) | (intro x h1 h2; rcases h2 with h3 | h3; exact h3; exfalso; omega))
        replace hg := hg.chg k10 (by first | (intro x h1 h2; exact h2) | (intro x h0 h1 h2; exact hS x h1 h2) | (intro x h0 h1 h2; have h3 : _ = _ := h2; subst h3; exact hSR h1.1) | (intro x h1 h2; have h3 : _ = _ := h2; subst h3; assumption) | (intro x h1 h2; have h3 : _ = _ := h2; exfalso; omega) | (intro b h1 h2 h3; have h4 : _ = _ := h3; (try dsimp only at h2); exfalso; omega) | (intro h1; have h2 : _ = _ := h1; exfalso; omega) | (intro h1; have h2 : _ ≤ _ := h1; exfalso; omega) | (intros; exfalso; (try dsimp only at *); omega) | (intro b h1 h2 h3; exfalso; have h4 := h3.2; (try dsimp only at *); omega) | (intro h1; exfalso; have h4 := h1.2; (try dsimp only at *); omega) | (intro x h1 h2; exfalso; have h4 := h2.2; (try dsimp only at *); omega) | (intro x h1 h2; exact ⟨_, rfl, h2⟩) | (intro x h1 h2; have h4 := h2.1; have h5 := h2.2; exfalso; omega) | (intro x h1 h2; exact h2.1) | (intro x h1 h2; rcases h2.1 with h3 | h3; exact h3; exfalso; omega) | (intro x h1 h2; rcases h2 with h3 | h3; exact h3; exfalso; omega))
        replace hd_3 := hd_3.chg k10 (by first | (intro x h1 h2; exact h2) | (intro x h0 h1 h2; exact hS x h1 h2) | (intro x h0 h1 h2; have h3 : _ = _ := h2; subst h3; exact hSR h1.1) | (intro x h1 h2; have h3 : _ = _ := h2; subst h3; assumption) | (intro x h1 h2; have h3 : _ = _ := h2; exfalso; omega) | (intro b h1 h2 h3; have h4 : _ = _ := h3; (try dsimp only at h2); exfalso; omega) | (intro h1; have h2 : _ = _ := h1; exfalso; omega) | (intro h1; have h2 : _ ≤ _ := h1; exfalso; omega) | (intros; exfalso; (try dsimp only at *); omega) | (intro b h1 h2 h3; exfalso; have h4 := h3.2; (try dsimp only at *); omega) | (intro h1; exfalso; have h4 := h1.2; (try dsimp only at *); omega) | (intro x h1 h2; exfalso; have h4 := h2.2; (try dsimp only at *); omega) | (intro x h1 h2; exact ⟨_, rfl, h2⟩) | (intro x h1 h2; have h4 := h2.1; have h5 := h2.2; exfalso; omega) | (intro x h1 h2; exact h2.1) | (intro x h1 h2; rcases h2.1 with h3 | h3; exact h3; exfalso; omega) | (intro x h1 h2; rcases h2 with h3 | h3; exact h3; exfalso; omega))
        refine WL.nil ?_
        refine WX.one ⟨hd_3, ?_⟩
        refine ⟨?_, trivial, trivial⟩
        refine DT.step [(123, _), (120, _)] rfl ⟨rfl, rfl, trivial⟩ rfl (fun wq_30 kq_30 => ?_)
        have zs_kq_30 := kq_30.size
        replace hw := hw.pure kq_30
        replace hg := hg.pure kq_30
        replace hd_3 := hd_3.pure kq_30
        replace hR10 := hR10.pure kq_30
        refine WL.want rfl rfl rfl (?_)
        refine WL.neqF rfl rfl rfl (by first | rfl | omega | decide) ?_
        refine WL.nil ?_
        refine WX.one ⟨hd_3, ?_⟩
        refine ⟨?_, trivial⟩
        refine DT.step [(120, _), (124, _)] rfl ⟨rfl, rfl, trivial⟩ rfl (fun wq_31 kq_31 => ?_)
        have zs_kq_31 := kq_31.size
        replace hw := hw.pure kq_31
        replace hg := hg.pure kq_31
        replace hd_3 := hd_3.pure kq_31
        replace hR10 := hR10.pure kq_31
        refine WL.pickF rfl rfl rfl (?_)
        refine WL.nil ?_
        refine WX.one ⟨hd_3, ?_⟩
        refine DT.done (fun we_32 ke_32 => ?_) _
        have zs_ke_32 := ke_32.size
        replace hw := hw.pure ke_32
        replace hg := hg.pure ke_32
        replace hd_3 := hd_3.pure ke_32
        replace hR10 := hR10.pure ke_32
        rotate_left
        refine DT.step [(5, _), (120, _)] rfl ⟨rfl, rfl, trivial⟩ rfl (fun wq_27 kq_27 => ?_)
        have zs_kq_27 := kq_27.size
        replace hw := hw.pure kq_27
        replace hR := hR.pure kq_27
        replace hq1 := hq1.pure kq_27
        replace hq2 := hq2.pure kq_27
        replace hg := hg.pure kq_27
        replace hd_3 := hd_3.pure kq_27
        replace hm := hm.pure kq_27
        refine WL.want rfl rfl rfl (WL.move rfl rfl (?_))
        refine WL.nil ?_
        refine WX.one ⟨hd_3, ?_⟩
        refine ⟨?_, trivial, trivial, trivial, trivial⟩
        refine DT.step [(3, _), (120, _)] rfl ⟨rfl, rfl, trivial⟩ rfl (fun wq_28 kq_28 => ?_)
        have zs_kq_28 := kq_28.size
        replace hw := hw.pure kq_28
        replace hR := hR.pure kq_28
        replace hq1 := hq1.pure kq_28
        replace hq2 := hq2.pure kq_28
        replace hg := hg.pure kq_28
        replace hd_3 := hd_3.pure kq_28
        replace hm := hm.pure kq_28
        refine WL.want rfl rfl rfl (WL.move rfl rfl (?_))
        refine WL.nil ?_
        refine WX.one ⟨hd_3, ?_⟩
        refine ⟨?_, trivial, trivial, trivial⟩
        refine DT.step [(121, _), (122, _), (120, _)] rfl ⟨rfl, rfl, rfl, trivial⟩ rfl (fun wq_29 kq_29 => ?_)
        have zs_kq_29 := kq_29.size
        replace hw := hw.pure kq_29
        replace hR := hR.pure kq_29
        replace hq1 := hq1.pure kq_29
        replace hq2 := hq2.pure kq_29
        replace hg := hg.pure kq_29
        replace hd_3 := hd_3.pure kq_29
        replace hm := hm.pure kq_29
        refine WL.want rfl rfl rfl (?_)
        refine WL.call eg_19 rfl rfl (RotN (n := -1) (d := 1) (a := (k : Int)) hR (fun x hx => by omega) (by omega)) ?_
        rintro v w10 ⟨rfl, hR10, k10⟩
        have zs_k10 := k10.size
        replace hw := hw.chg k10 (by first | (intro x h1 h2; exact h2) | (intro x h0 h1 h2; exact hS x h1 h2) | (intro x h0 h1 h2; have h3 : _ = _ := h2; subst h3; exact hSR h1.1) | (intro x h1 h2; have h3 : _ = _ := h2; subst h3; assumption) | (intro x h1 h2; have h3 : _ = _ := h2; exfalso; omega) | (intro b h1 h2 h3; have h4 : _ = _ := h3; (try dsimp only at h2); exfalso; omega) | (intro h1; have h2 : _ = _ := h1; exfalso; omega) | (intro h1; have h2 : _ ≤ _ := h1; exfalso; omega) | (intros; exfalso; (try dsimp only at *); omega) | (intro b h1 h2 h3; exfalso; have h4 := h3.2; (try dsimp only at *); omega) | (intro h1; exfalso; have h4 := h1.2; (try dsimp only at *); omega) | (intro x h1 h2; exfalso; have h4 := h2.2; (try dsimp only at *); omega) | (intro x h1 h2; exact ⟨_, rfl, h2⟩) | (intro x h1 h2; have h4 := h2.1; have h5 := h2.2; exfalso; omega) | (intro x h1 h2; exact h2.1) | (intro x h1 h2; rcases h2.1 with h3 | h3; exact h3; exfalso; omega) | (intro x h1 h2; rcases h2 with h3 | h3; exact h3; exfalso; omega))
        replace hg := hg.chg k10 (by first | (intro x h1 h2; exact h2) | (intro x h0 h1 h2; exact hS x h1 h2) | (intro x h0 h1 h2; have h3 : _ = _ := h2; subst h3; exact hSR h1.1) | (intro x h1 h2; have h3 : _ = _ := h2; subst h3; assumption) | (intro x h1 h2; have h3 : _ = _ := h2; exfalso; omega) | (intro b h1 h2 h3; have h4 : _ = _ := h3; (try dsimp only at h2); exfalso; omega) | (intro h1; have h2 : _ = _ := h1; exfalso; omega) | (intro h1; have h2 : _ ≤ _ := h1; exfalso; omega) | (intros; exfalso; (try dsimp only at *); omega) | (intro b h1 h2 h3; exfalso; have h4 := h3.2; (try dsimp only at *); omega) | (intro h1; exfalso; have h4 := h1.2; (try dsimp only at *); omega) | (intro x h1 h2; exfalso; have h4 := h2.2; (try dsimp only at *); omega) | (intro x h1 h2; exact ⟨_, rfl, h2⟩) | (intro x h1 h2; have h4 := h2.1; have h5 := h2.2; exfalso; omega) | (intro x h1 h2; exact h2.1) | (intro x h1 h2; rcases h2.1 with h3 | h3; exact h3; exfalso; omega) | (intro x h1 h2; rcases h2 with h3 | h3; exact h3; exfalso; omega))
        replace hd_3 := hd_3.chg k10 (by first | (intro x h1 h2; exact h2) | (intro x h0 h1 h2; exact hS x h1 h2) | (intro x h0 h1 h2; have h3 : _ = _ := h2; subst h3; exact hSR h1.1) | (intro x h1 h2; have h3 : _ = _ := h2; subst h3; assumption) | (intro x h1 h2; have h3 : _ = _ := h2; exfalso; omega) | (intro b h1 h2 h3; have h4 : _ = _ := h3; (try dsimp only at h2); exfalso; omega) | (intro h1; have h2 : _ = _ := h1; exfalso; omega) | (intro h1; have h2 : _ ≤ _ := h1; exfalso; omega) | (intros; exfalso; (try dsimp only at *); omega) | (intro b h1 h2 h3; exfalso; have h4 := h3.2; (try dsimp only at *); omega) | (intro h1; exfalso; have h4 := h1.2; (try dsimp only at *); omega) | (intro x h1 h2; exfalso; have h4 := h2.2; (try dsimp only at *); omega) | (intro x h1 h2; exact ⟨_, rfl, h2⟩) | (intro x h1 h2; have h4 := h2.1; have h5 := h2.2; exfalso; omega) | (intro x h1 h2; exact h2.1) | (intro x h1 h2; rcases h2.1 with h3 | h3; exact h3; exfalso; omega) | (intro x h1 h2; rcases h2 with h3 | h3; exact h3; exfalso; omega))
        refine WL.nil ?_
        refine WX.one ⟨hd_3, ?_⟩
        refine ⟨?_, trivial, trivial⟩
        refine DT.step [(123, _), (120, _)] rfl ⟨rfl, rfl, trivial⟩ rfl (fun wq_30 kq_30 => ?_)
        have zs_kq_30 := kq_30.size
        replace hw := hw.pure kq_30
        replace hg := hg.pure kq_30
        replace hd_3 := hd_3.pure kq_30
        replace hR10 := hR10.pure kq_30
        refine WL.want rfl rfl rfl (?_)
        refine WL.neqF rfl rfl rfl (by first | rfl | omega | decide) ?_
        refine WL.nil ?_
        refine WX.one ⟨hd_3, ?_⟩
        refine ⟨?_, trivial⟩
        refine DT.step [(120, _), (124, _)] rfl ⟨rfl, rfl, trivial⟩ rfl (fun wq_31 kq_31 => ?_)
        have zs_kq_31 := kq_31.size
        replace hw := hw.pure kq_31
        replace hg := hg.pure kq_31
        replace hd_3 := hd_3.pure kq_31
        replace hR10 := hR10.pure kq_31
        refine WL.pickF rfl rfl rfl (?_)
        refine WL.nil ?_
        refine WX.one ⟨hd_3, ?_⟩
        refine DT.done (fun we_32 ke_32 => ?_) _
        have zs_ke_32 := ke_32.size
        replace hw := hw.pure ke_32
        replace hg := hg.pure ke_32
        replace hd_3 := hd_3.pure ke_32
        replace hR10 := hR10.pure ke_32
        rotate_left
        all_goals
          refine WX.then_normal (WC.cond_false rfl (WC.skip (WX.then_normal (WC.seq (WC.region (WL.move rfl rfl (WL.move rfl rfl (?_))))))))
          refine WL.move rfl rfl (?_)
          refine WL.call eg_19 rfl rfl (RotU (n := (n : Int)) hR10 (fun x hx => by omega) (by unfold inS; rw [sd5, sn5]; omega) (sg5 1) ⟨by omega, by omega⟩) ?_
          rintro v w11 ⟨rfl, hR11, k11⟩
          have zs_k11 := k11.size
          replace hw := hw.chg k11 (by first | (intro x h1 h2; exact h2) | (intro x h0 h1 h2; exact hS x h1 h2) | (intro x h0 h1 h2; have h3 : _ = _ := h2; subst h3; exact hSR h1.1) | (intro x h1 h2; have h3 : _ = _ := h2; subst h3; assumption) | (intro x h1 h2; have h3 : _ = _ := h2; exfalso; omega) | (intro b h1 h2 h3; have h4 : _ = _ := h3; (try dsimp only at h2); exfalso; omega) | (intro h1; have h2 : _ = _ := h1; exfalso; omega) | (intro h1; have h2 : _ ≤ _ := h1; exfalso; omega) | (intros; exfalso; (try dsimp only at *); omega) | (intro b h1 h2 h3; exfalso; have h4 := h3.2; (try dsimp only at *); omega) | (intro h1; exfalso; have h4 := h1.2; (try dsimp only at *); omega) | (intro x h1 h2; exfalso; have h4 := h2.2; (try dsimp only at *); omega) | (intro x h1 h2; exact ⟨_, rfl, h2⟩) | (intro x h1 h2; have h4 := h2.1; have h5 := h2.2; exfalso; omega) | (intro x h1 h2; exact h2.1) | (intro x h1 h2; rcases h2.1 with h3 | h3; exact h3; exfalso; omega) | (intro x h1 h2; rcases h2 with h3 | h3; exact h3; exfalso; omega))
          replace hg := hg.chg k11 (by first | (intro x h1 h2; exact h2) | (intro x h0 h1 h2; exact hS x h1 h2) | (intro x h0 h1 h2; have h3 : _ = _ := h2; subst h3; exact hSR h1.1) | (intro x h1 h2; have h3 : _ = _ := h2; subst h3; assumption) | (intro x h1 h2; have h3 : _ = _ := h2; exfalso; omega) | (intro b h1 h2 h3; have h4 : _ = _ := h3; (try dsimp only at h2); exfalso; omega) | (intro h1; have h2 : _ = _ := h1; exfalso; omega) | (intro h1; have h2 : _ ≤ _ := h1; exfalso; omega) | (intros; exfalso; (try dsimp only at *); omega) | (intro b h1 h2 h3; exfalso; have h4 := h3.2; (try dsimp only at *); omega) | (intro h1; exfalso; have h4 := h1.2; (try dsimp only at *); omega) | (intro x h1 h2; exfalso; have h4 := h2.2; (try dsimp only at *); omega) | (intro x h1 h2; exact ⟨_, rfl, h2⟩) | (intro x h1 h2; have h4 := h2.1; have h5 := h2.2; exfalso; omega) | (intro x h1 h2; exact h2.1) | (intro x h1 h2; rcases h2.1 with h3 | h3; exact h3; exfalso; omega) | (intro x h1 h2; rcases h2 with h3 | h3; exact h3; exfalso; omega))
          refine WL.assign rfl rfl (WL.nil (WX.then_normal (WC.seq (WC.region (WL.move rfl rfl (WL.move rfl rfl (?_)))))))
          refine WL.call eg_16 rfl rfl (ReadU hR11 (rotS_up us5 _ _) (by unfold inS; rw [rotS_dn, rotS_sn, sd5, sn5]; omega) (by rw [rotS_gone]; exact sg5 1)) ?_
          rintro v w12 ⟨⟨r3, rfl, hx3, hq3⟩, k12⟩
          rw [rotS_held, if_pos rfl, hA5, rotB_rotB hbl] at hx3
          have zs_k12 := k12.size
          replace hw := hw.pure k12
          replace hg := hg.pure k12
          replace hR11 := hR11.pure k12
          refine WL.move rfl rfl (WL.extract rfl rfl rfl (?_))
          refine WL.extract rfl rfl rfl ?_
          refine WL.assign rfl rfl (WL.assign rfl rfl (WL.nil (WX.then_normal (WC.seq (WC.region (WL.move rfl rfl (?_)))))))
          refine WL.eqlT rfl rfl rfl (by first | rfl | omega | decide) ?_
          refine WL.move rfl rfl (WL.want rfl rfl rfl (WL.move rfl rfl (WL.want rfl rfl rfl (?_))))
          refine WL.eqlT rfl rfl rfl (by first | rfl | omega | decide) ?_
          refine WL.pickT rfl rfl rfl (WL.move rfl rfl (WL.want rfl rfl rfl (WL.move rfl rfl (WL.want rfl rfl rfl (WL.toStr Try.underlying30 Try.underlying5 Try.underlying9 hq3 rfl rfl (WL.want rfl rfl rfl (WL.move rfl rfl (?_))))))))
          refine WL.want rfl rfl rfl (WL.toStr Try.underlying30 Try.underlying5 Try.underlying9 hg rfl rfl (WL.want rfl rfl rfl (?_)))
          refine WL.seqlT rfl rfl rfl ((by rw [hx3])) ?_
          refine WL.pickT rfl rfl rfl (WL.assign rfl rfl (WL.nil (WX.then_normal (WC.ret (?_)))))
          refine WX.ret1 (.inl rfl) Try.results5 rfl ?_
          exact ⟨_, rfl, rfl, hw⟩
    ·
      refine WL.move rfl rfl (WL.pass rfl rfl rfl rfl (WL.pass rfl rfl rfl rfl (WL.pass rfl rfl rfl rfl (WL.pass rfl rfl rfl rfl (WL.pickF rfl rfl rfl (WL.nil (WX.then_normal (?_))))))))
      refine WC.cond_false rfl (WC.exit (WX.then_exit (WX.then_exit (WX.block_here (WX.then_normal (WC.seq (WC.seq (?_))))))))
      have hil : i = 128 := by omega
      have hql : q < 128 := by omega
      subst hil
      rw [if_pos hql]
      have zw9 := hw.size
      refine WC.drawM ((fun x => N ≤ x ∧ x ≠ gw)) [0, 1, 2, 3, 4, 5, 6, 7, 8, 9, 10, 11, 12, 13, 14, 15, 16] [17, 18, 19, 20, 21, 22, 23, 24, 25, 26, 27] mixed rfl rfl (fun wd_2 kd_2 zd_2 => ?_)
      have zs_kd_2 := kd_2.size
      replace hw := hw.pure kd_2
      replace hR := hR.pure kd_2
      replace hq1 := hq1.pure kd_2
      replace hq2 := hq2.pure kd_2
      replace hg := hg.pure kd_2
      apply DQT.step (E' := [(4, _)])
      case ho => rfl
      case hs => exact ⟨rfl, trivial⟩
      case hk => rfl
      case h1 =>
        intro wq_4 kq_4
        refine WL.move rfl rfl (?_)
        refine WL.nil ?_
        exact WX.one ⟨rfl, by first | exact Chg.refl _ _ | assumption⟩
      apply DQT.step (E' := [(98, _)])
      case ho => rfl
      case hs => exact ⟨rfl, trivial⟩
      case hk => rfl
      case h1 =>
        intro wq_5 kq_5
        refine WL.neqF rfl rfl rfl (by first | rfl | omega | decide) ?_
        refine WL.nil ?_
        exact WX.one ⟨rfl, by first | exact Chg.refl _ _ | assumption⟩
      apply DQT.step (E' := [(99, _)])
      case ho => rfl
      case hs => exact ⟨rfl, trivial⟩
      case hk => rfl
      case h1 =>
        intro wq_6 kq_6
        refine WL.move rfl rfl (?_)
        refine WL.nil ?_
        exact WX.one ⟨rfl, by first | exact Chg.refl _ _ | assumption⟩
      apply DQT.step (E' := [(9, _), (100, _)])
      case ho => rfl
      case hs => exact ⟨rfl, rfl, trivial⟩
      case hk => rfl
      case h1 =>
        intro wq_7 kq_7
        refine WL.want rfl rfl rfl (WL.move rfl rfl (?_))
        refine WL.nil ?_
        exact WX.one ⟨rfl, by first | exact Chg.refl _ _ | assumption⟩
      apply DQT.step (E' := [(101, _), (100, _)])
      case ho => rfl
      case hs => exact ⟨rfl, rfl, trivial⟩
      case hk => rfl
      case h1 =>
        intro wq_8 kq_8
        refine WL.want rfl rfl rfl (?_)
        refine WL.neqF rfl rfl rfl (by first | rfl | omega | decide) ?_
        refine WL.nil ?_
        exact WX.one ⟨rfl, by first | exact Chg.refl _ _ | assumption⟩
      apply DQT.step (E' := [(100, _), (102, _)])
      case ho => rfl
      case hs => exact ⟨rfl, rfl, trivial⟩
      case hk => rfl
      case h1 =>
        intro wq_9 kq_9
        refine WL.pickF rfl rfl rfl (?_)
        refine WL.nil ?_
        exact WX.one ⟨rfl, by first | exact Chg.refl _ _ | assumption⟩
      apply DQT.step (E' := [(103, _)])
      case ho => rfl
      case hs => exact ⟨rfl, trivial⟩
      case hk => rfl
      case h1 =>
        intro wq_10 kq_10
        refine WL.move rfl rfl (?_)
        refine WL.nil ?_
        exact WX.one ⟨rfl, by first | exact Chg.refl _ _ | assumption⟩
      apply DQT.step (E' := [(7, _), (104, _)])
      case ho => rfl
      case hs => exact ⟨rfl, rfl, trivial⟩
      case hk => rfl
      case h1 =>
        intro wq_11 kq_11
        refine WL.want rfl rfl rfl (WL.move rfl rfl (?_))
        refine WL.nil ?_
        exact WX.one ⟨rfl, by first | exact Chg.refl _ _ | assumption⟩
      apply DQT.step (E' := [(105, _), (104, _)])
      case ho => rfl
      case hs => exact ⟨rfl, rfl, trivial⟩
      case hk => rfl
      case h1 =>
        intro wq_12 kq_12
        have zs_kq_12 := kq_12.size
        refine WL.want rfl rfl rfl (WL.len Try.underlying30 rfl rfl (?_))
        refine WL.nil ?_
        exact WX.one ⟨rfl, by first | exact Chg.refl _ _ | assumption⟩
      apply DQT.step (E' := [(106, _), (104, _)])
      case ho => rfl
      case hs => exact ⟨rfl, rfl, trivial⟩
      case hk => rfl
      case h1 =>
        intro wq_13 kq_13
        refine WL.want rfl rfl rfl (?_)
        refine WL.neqF rfl rfl rfl ((by show ((rotB (B x.fill) n).length : Int) = 128; omega)) ?_
        refine WL.nil ?_
        exact WX.one ⟨rfl, by first | exact Chg.refl _ _ | assumption⟩
      apply DQT.step (E' := [(104, _), (107, _)])
      case ho => rfl
      case hs => exact ⟨rfl, rfl, trivial⟩
      case hk => rfl
      case h1 =>
        intro wq_14 kq_14
        refine WL.pickF rfl rfl rfl (?_)
        refine WL.nil ?_
        exact WX.one ⟨rfl, by first | exact Chg.refl _ _ | assumption⟩
      apply DQT.step (E' := [(108, _)])
      case ho => rfl
      case hs => exact ⟨rfl, trivial⟩
      case hk => rfl
      case h1 =>
        intro wq_15 kq_15
        refine WL.move rfl rfl (?_)
        refine WL.nil ?_
        exact WX.one ⟨rfl, by first | exact Chg.refl _ _ | assumption⟩
      apply DQT.step (E' := [(11, _), (109, _)])
      case ho => rfl
      case hs => exact ⟨rfl, rfl, trivial⟩
      case hk => rfl
      case h1 =>
        intro wq_16 kq_16
        refine WL.want rfl rfl rfl (WL.move rfl rfl (?_))
        refine WL.nil ?_
        exact WX.one ⟨rfl, by first | exact Chg.refl _ _ | assumption⟩
      apply DQT.step (E' := [(110, _), (109, _)])
      case ho => rfl
      case hs => exact ⟨rfl, rfl, trivial⟩
      case hk => rfl
      case h1 =>
        intro wq_17 kq_17
        refine WL.want rfl rfl rfl (?_)
        refine WL.neqF rfl rfl rfl (by first | rfl | omega | decide) ?_
        refine WL.nil ?_
        exact WX.one ⟨rfl, by first | exact Chg.refl _ _ | assumption⟩
      apply DQT.step (E' := [(109, _), (111, _)])
      case ho => rfl
      case hs => exact ⟨rfl, rfl, trivial⟩
      case hk => rfl
      case h1 =>
        intro wq_18 kq_18
        refine WL.pickF rfl rfl rfl (?_)
        refine WL.nil ?_
        exact WX.one ⟨rfl, by first | exact Chg.refl _ _ | assumption⟩
      apply DQT.step (E' := [(112, _)])
      case ho => rfl
      case hs => exact ⟨rfl, trivial⟩
      case hk => rfl
      case h1 =>
        intro wq_19 kq_19
        refine WL.move rfl rfl (?_)
        refine WL.nil ?_
        exact WX.one ⟨rfl, by first | exact Chg.refl _ _ | assumption⟩
      apply DQT.step (E' := [(8, _), (113, _)])
      case ho => rfl
      case hs => exact ⟨rfl, rfl, trivial⟩
      case hk => rfl
      case h1 =>
        intro wq_20 kq_20
        refine WL.want rfl rfl rfl (WL.move rfl rfl (?_))
        refine WL.nil ?_
        exact WX.one ⟨rfl, by first | exact Chg.refl _ _ | assumption⟩
      refine DQT.done (fun hd_3 => ?_)
      refine ⟨?_, ?_, trivial, trivial, trivial, trivial, trivial, trivial, trivial, trivial, trivial, trivial⟩
      refine DT.step [(114, _), (113, _)] rfl ⟨rfl, rfl, trivial⟩ rfl (fun wq_21 kq_21 => ?_)
      have zs_kq_21 := kq_21.size
      replace hw := hw.pure kq_21
      replace hR := hR.pure kq_21
      replace hq1 := hq1.pure kq_21
      replace hq2 := hq2.pure kq_21
      replace hg := hg.pure kq_21
      replace hd_3 := hd_3.pure kq_21
      refine WL.want rfl rfl rfl (WL.toStr Try.underlying30 Try.underlying5 Try.underlying9 hq2 rfl rfl (?_))
      refine WL.nil ?_
      refine WX.one ⟨hd_3, ?_⟩
      refine ⟨?_, trivial, trivial, trivial, trivial, trivial, trivial, trivial, trivial, trivial, trivial⟩
      refine DT.step [(113, _)] rfl ⟨rfl, trivial⟩ rfl (fun wq_22 kq_22 => ?_)
      have zs_kq_22 := kq_22.size
      replace hw := hw.pure kq_22
      replace hR := hR.pure kq_22
      replace hq1 := hq1.pure kq_22
      replace hq2 := hq2.pure kq_22
      replace hg := hg.pure kq_22
      replace hd_3 := hd_3.pure kq_22
      refine WL.want rfl rfl rfl (?_)
      refine WL.make (e := eb) (0 : UInt8) 128 128 Try.underlying30 info_5 rfl rfl rfl ⟨rfl, rfl, Nat.le_refl _⟩ (by decide) rfl ?_
      intro g9 w9 hm k9 z9 eg9
      have zs_k9 := k9.size
      replace hw := hw.pure k9
      replace hR := hR.pure k9
      replace hq1 := hq1.pure k9
      replace hq2 := hq2.pure k9
      replace hg := hg.pure k9
      replace hd_3 := hd_3.pure k9
      refine WL.nil ?_
      refine WX.one ⟨hd_3, ?_⟩
      refine ⟨?_, trivial, trivial, trivial, trivial, trivial, trivial, trivial, trivial, trivial⟩
      refine DT.step [(116, _), (113, _)] rfl ⟨rfl, rfl, trivial⟩ rfl (fun wq_23 kq_23 => ?_)
      have zs_kq_23 := kq_23.size
      replace hw := hw.pure kq_23
      replace hR := hR.pure kq_23
      replace hq1 := hq1.pure kq_23
      replace hq2 := hq2.pure kq_23
      replace hg := hg.pure kq_23
      replace hd_3 := hd_3.pure kq_23
      replace hm := hm.pure kq_23
      refine WL.want rfl rfl rfl (WL.toStr Try.underlying30 Try.underlying5 Try.underlying9 hm.rsl rfl rfl (?_))
      refine WL.nil ?_
      refine WX.one ⟨hd_3, ?_⟩
      refine ⟨?_, trivial, trivial, trivial, trivial, trivial, trivial, trivial, trivial⟩
      refine DT.step [(115, _), (117, _), (113, _)] rfl ⟨rfl, rfl, rfl, trivial⟩ rfl (fun wq_24 kq_24 => ?_)
      have zs_kq_24 := kq_24.size
      replace hw := hw.pure kq_24
      replace hR := hR.pure kq_24
      replace hq1 := hq1.pure kq_24
      replace hq2 := hq2.pure kq_24
      replace hg := hg.pure kq_24
      replace hd_3 := hd_3.pure kq_24
      replace hm := hm.pure kq_24
      refine WL.want rfl rfl rfl (?_)
      refine WL.sneqF rfl rfl rfl ((by rfl)) ?_
      refine WL.nil ?_
      refine WX.one ⟨hd_3, ?_⟩
      refine ⟨?_, trivial, trivial, trivial, trivial, trivial, trivial, trivial⟩
      refine DT.step [(113, _), (118, _)] rfl ⟨rfl, rfl, trivial⟩ rfl (fun wq_25 kq_25 => ?_)
      have zs_kq_25 := kq_25.size
      replace hw := hw.pure kq_25
      replace hR := hR.pure kq_25
      replace hq1 := hq1.pure kq_25
      replace hq2 := hq2.pure kq_25
      replace hg := hg.pure kq_25
      replace hd_3 := hd_3.pure kq_25
      replace hm := hm.pure kq_25
      refine WL.pickF rfl rfl rfl (?_)
      refine WL.nil ?_
      refine WX.one ⟨hd_3, ?_⟩
      refine ⟨?_, trivial, trivial, trivial, trivial, trivial, trivial⟩
      refine DT.step [(119, _)] rfl ⟨rfl, trivial⟩ rfl (fun wq_26 kq_26 => ?_)
      have zs_kq_26 := kq_26.size
      replace hw := hw.pure kq_26
      replace hR := hR.pure kq_26
      replace hq1 := hq1.pure kq_26
      replace hq2 := hq2.pure kq_26
      replace hg := hg.pure kq_26
      replace hd_3 := hd_3.pure kq_26
      replace hm := hm.pure kq_26
      refine WL.move rfl rfl (?_)
      refine WL.nil ?_
      refine WX.one ⟨hd_3, ?_⟩
      refine ⟨?_, ?_, trivial, trivial, trivial, trivial⟩
      refine DT.step [(3, _), (120, _)] rfl ⟨rfl, rfl, trivial⟩ rfl (fun wq_27 kq_27 => ?_)
      have zs_kq_27 := kq_27.size
      replace hw := hw.pure kq_27
      replace hR := hR.pure kq_27
      replace hq1 := hq1.pure kq_27
      replace hq2 := hq2.pure kq_27
      replace hg := hg.pure kq_27
      replace hd_3 := hd_3.pure kq_27
      replace hm := hm.pure kq_27
      refine WL.want rfl rfl rfl (WL.move rfl rfl (?_))
      refine WL.nil ?_
      refine WX.one ⟨hd_3, ?_⟩
      refine ⟨?_, trivial, trivial, trivial, trivial⟩
      refine DT.step [(5, _), (120, _)] rfl ⟨rfl, rfl, trivial⟩ rfl (fun wq_28 kq_28 => ?_)
      have zs_kq_28 := kq_28.size
      replace hw := hw.pure kq_28
      replace hR := hR.pure kq_28
      replace hq1 := hq1.pure kq_28
      replace hq2 := hq2.pure kq_28
      replace hg := hg.pure kq_28
      replace hd_3 := hd_3.pure kq_28
      replace hm := hm.pure kq_28
      refine WL.want rfl rfl rfl (WL.move rfl rfl (?_))
      refine WL.nil ?_
      refine WX.one ⟨hd_3, ?_⟩
      refine ⟨?_, trivial, trivial, trivial⟩
      refine DT.step [(121, _), (122, _), (120, _)] rfl ⟨rfl, rfl, rfl, trivial⟩ rfl (fun wq_29 kq_29 => ?_)
      have zs_kq_29 := kq_29.size
      replace hw := hw.pure kq_29
      replace hR := hR.pure kq_29
      replace hq1 := hq1.pure kq_29
      replace hq2 := hq2.pure kq_29
      replace hg := hg.pure kq_29
      replace hd_3 := hd_3.pure kq_29
      replace hm := hm.pure kq_29
      refine WL.want rfl rfl rfl (?_)
      refine WL.call eg_19 rfl rfl (RotN (n := -1) (d := 1) (a := (k : Int)) hR (fun x hx => by omega) (by omega)) ?_
      rintro v w10 ⟨rfl, hR10, k10⟩
      have zs_k10 := k10.size
      replace hw := hw.chg k10 (by first | (intro x h1 h2; exact h2) | (intro x h0 h1 h2; exact hS x h1 h2) | (intro x h0 h1 h2; have h3 : _ = _ := h2; subst h3; exact hSR h1.1) | (intro x h1 h2; have h3 : _ = _ := h2; subst h3; assumption) | (intro x h1 h2; have h3 : _ = _ := h2; exfalso; omega) | (intro b h1 h2 h3; have h4 : _ = _ := h3; (try dsimp only at h2); exfalso; omega) | (intro h1; have h2 : _ = _ := h1; exfalso; omega) | (intro h1; have h2 : _ ≤ _ := h1; exfalso; omega) | (intros; exfalso; (try dsimp only at *); omega) | (intro b h1 h2 h3; exfalso; have h4 := h3.2; (try dsimp only at *); omega) | (intro h1; exfalso; have h4 := h1.2; (try dsimp only at *); omega) | (intro x h1 h2; exfalso; have h4 := h2.2; (try dsimp only at *); omega) | (intro x h1 h2; exact ⟨_, rfl, h2⟩) | (intro x h1 h2; have h4 := h2.1; have h5 := h2.2; exfalso; omega) | (intro x h1 h2; exact h2.1) | (intro x h1 h2; rcases h2.1 with h3 | h3; exact h3; exfalso; omega) | (intro x h1 h2; rcases h2 with h3 | h3; exact h3; exfalso; omega))
      replace hg := hg.chg k10 (by first | (intro x h1 h2; exact h2) | (intro x h0 h1 h2; exact hS x h1 h2) | (intro x h0 h1 h2; have h3 : _ = _ := h2; subst h3; exact hSR h1.1) | (intro x h1 h2; have h3 : _ = _ := h2; subst h3; assumption) | (intro x h1 h2; have h3 : _ = _ := h2; exfalso; omega) | (intro b h1 h2 h3; have h4 : _ = _ := h3; (try dsimp only at h2); exfalso; omega) | (intro h1; have h2 : _ = _ := h1; exfalso; omega) | (intro h1; have h2 : _ ≤ _ := h1; exfalso; omega) | (intros; exfalso; (try dsimp only at *); omega) | (intro b h1 h2 h3; exfalso; have h4 := h3.2; (try dsimp only at *); omega) | (intro h1; exfalso; have h4 := h1.2; (try dsimp only at *); omega) | (intro x h1 h2; exfalso; have h4 := h2.2; (try dsimp only at *); omega) | (intro x h1 h2; exact ⟨_, rfl, h2⟩) | (intro x h1 h2; have h4 := h2.1; have h5 := h2.2; exfalso; omega) | (intro x h1 h2; exact h2.1) | (intro x h1 h2; rcases h2.1 with h3 | h3; exact h3; exfalso; omega) | (intro x h1 h2; rcases h2 with h3 | h3; exact h3; exfalso; omega))
      replace hd_3 := hd_3.chg k10 (by first | (intro x h1 h2; exact h2) | (intro x h0 h1 h2; exact hS x h1 h2) | (intro x h0 h1 h2; have h3 : _ = _ := h2; subst h3; exact hSR h1.1) | (intro x h1 h2; have h3 : _ = _ := h2; subst h3; assumption) | (intro x h1 h2; have h3 : _ = _ := h2; exfalso; omega) | (intro b h1 h2 h3; have h4 : _ = _ := h3; (try dsimp only at h2); exfalso; omega) | (intro h1; have h2 : _ = _ := h1; exfalso; omega) | (intro h1; have h2 : _ ≤ _ := h1; exfalso; omega) | (intros; exfalso; (try dsimp only at *); omega) | (intro b h1 h2 h3; exfalso; have h4 := h3.2; (try dsimp only at *); omega) | (intro h1; exfalso; have h4 := h1.2; (try dsimp only at *); omega) | (intro x h1 h2; exfalso; have h4 := h2.2; (try dsimp only at *); omega) | (intro x h1 h2; exact ⟨_, rfl, h2⟩) | (intro x h1 h2; have h4 := h2.1; have h5 := h2.2; exfalso; omega) | (intro x h1 h2; exact h2.1) | (intro x h1 h2; rcases h2.1 with h3 | h3; exact h3; exfalso; omega) | (intro x h1 h2; rcases h2 with h3 | h3; exact h3; exfalso; omega))
      refine WL.nil ?_
      refine WX.one ⟨hd_3, ?_⟩
      refine ⟨?_, trivial, trivial⟩
      refine DT.step [(123, _), (120, _)] rfl ⟨rfl, rfl, trivial⟩ rfl (fun wq_30 kq_30 => ?_)
      have zs_kq_30 := kq_30.size
      replace hw := hw.pure kq_30
      replace hg := hg.pure kq_30
      replace hd_3 := hd_3.pure kq_30
      replace hR10 := hR10.pure kq_30
      refine WL.want rfl rfl rfl (?_)
      refine WL.neqF rfl rfl rfl (by first | rfl | omega | decide) ?_
      refine WL.nil ?_
      refine WX.one ⟨hd_3, ?_⟩
      refine ⟨?_, trivial⟩
      refine DT.step [(120, _), (124, _)] rfl ⟨rfl, rfl, trivial⟩ rfl (fun wq_31 kq_31 => ?_)
      have zs_kq_31 := kq_31.size
      replace hw := hw.pure kq_31
      replace hg := hg.pure kq_31
      replace hd_3 := hd_3.pure kq_31
      replace hR10 := hR10.pure kq_31
      refine WL.pickF rfl rfl rfl (?_)
      refine WL.nil ?_
      refine WX.one ⟨hd_3, ?_⟩
      refine DT.done (fun we_32 ke_32 => ?_) _
      have zs_ke_32 := ke_32.size
      replace hw := hw.pure ke_32
      replace hg := hg.pure ke_32
      replace hd_3 := hd_3.pure ke_32
      replace hR10 := hR10.pure ke_32
      rotate_left
      refine DT.step [(5, _), (120, _)] rfl ⟨rfl, rfl, trivial⟩ rfl (fun wq_27 kq_27 => ?_)
      have zs_kq_27 := kq_27.size
      replace hw := hw.pure kq_27
      replace hR := hR.pure kq_27
      replace hq1 := hq1.pure kq_27
      replace hq2 := hq2.pure kq_27
      replace hg := hg.pure kq_27
      replace hd_3 := hd_3.pure kq_27
      replace hm := hm.pure kq_27
      refine WL.want rfl rfl rfl (WL.move rfl rfl (?_))
      refine WL.nil ?_
      refine WX.one ⟨hd_3, ?_⟩
      refine ⟨?_, trivial, trivial, trivial, trivial⟩
      refine DT.step [(3, _), (120, _)] rfl ⟨rfl, rfl, trivial⟩ rfl (fun wq_28 kq_28 => ?_)
      have zs_kq_28 := kq_28.size
      replace hw := hw.pure kq_28
      replace hR := hR.pure kq_28
      replace hq1 := hq1.pure kq_28
      replace hq2 := hq2.pure kq_28
      replace hg := hg.pure kq_28
      replace hd_3 := hd_3.pure kq_28
      replace hm := hm.pure kq_28
      refine WL.want rfl rfl rfl (WL.move rfl rfl (?_))
      refine WL.nil ?_
      refine WX.one ⟨hd_3, ?_⟩
      refine ⟨?_, trivial, trivial, trivial⟩
      refine DT.step [(121, _), (122, _), (120, _)] rfl ⟨rfl, rfl, rfl, trivial⟩ rfl (fun wq_29 kq_29 => ?_)
      have zs_kq_29 := kq_29.size
      replace hw := hw.pure kq_29
      replace hR := hR.pure kq_29
      replace hq1 := hq1.pure kq_29
      replace hq2 := hq2.pure kq_29
      replace hg := hg.pure kq_29
      replace hd_3 := hd_3.pure kq_29
      replace hm := hm.pure kq_29
      refine WL.want rfl rfl rfl (?_)
      refine WL.call eg_19 rfl rfl (RotN (n := -1) (d := 1) (a := (k : Int)) hR (fun x hx => by omega) (by omega)) ?_
      rintro v w10 ⟨rfl, hR10, k10⟩
      have zs_k10 := k10.size
      replace hw := hw.chg k10 (by first | (intro x h1 h2; exact h2) | (intro x h0 h1 h2; exact hS x h1 h2) | (intro x h0 h1 h2; have h3 : _ = _ := h2; subst h3; exact hSR h1.1) | (intro x h1 h2; have h3 : _ = _ := h2; subst h3; assumption) | (intro x h1 h2; have h3 : _ = _ := h2; exfalso; omega) | (intro b h1 h2 h3; have h4 : _ = _ := h3; (try dsimp only at h2); exfalso; omega) | (intro h1; have h2 : _ = _ := h1; exfalso; omega) | (intro h1; have h2 : _ ≤ _ := h1; exfalso; omega) | (intros; exfalso; (try dsimp only at *); omega) | (intro b h1 h2 h3; exfalso; have h4 := h3.2; (try dsimp only at *); omega) | (intro h1; exfalso; have h4 := h1.2; (try dsimp only at *); omega) | (intro x h1 h2; exfalso; have h4 := h2.2; (try dsimp only at *); omega) | (intro x h1 h2; exact ⟨_, rfl, h2⟩) | (intro x h1 h2; have h4 := h2.1; have h5 := h2.2; exfalso; omega) | (intro x h1 h2; exact h2.1) | (intro x h1 h2; rcases h2.1 with h3 | h3; exact h3; exfalso; omega) | (intro x h1 h2; rcases h2 with h3 | h3; exact h3; exfalso; omega))
      replace hg := hg.chg k10 (by first | (intro x h1 h2; exact h2) | (intro x h0 h1 h2; exact hS x h1 h2) | (intro x h0 h1 h2; have h3 : _ = _ := h2; subst h3; exact hSR h1.1) | (intro x h1 h2; have h3 : _ = _ := h2; subst h3; assumption) | (intro x h1 h2; have h3 : _ = _ := h2; exfalso; omega) | (intro b h1 h2 h3; have h4 : _ = _ := h3; (try dsimp only at h2); exfalso; omega) | (intro h1; have h2 : _ = _ := h1; exfalso; omega) | (intro h1; have h2 : _ ≤ _ := h1; exfalso; omega) | (intros; exfalso; (try dsimp only at *); omega) | (intro b h1 h2 h3; exfalso; have h4 := h3.2; (try dsimp only at *); omega) | (intro h1; exfalso; have h4 := h1.2; (try dsimp only at *); omega) | (intro x h1 h2; exfalso; have h4 := h2.2; (try dsimp only at *); omega) | (intro x h1 h2; exact ⟨_, rfl, h2⟩) | (intro x h1 h2; have h4 := h2.1; have h5 := h2.2; exfalso; omega) | (intro x h1 h2; exact h2.1) | (intro x h1 h2; rcases h2.1 with h3 | h3; exact h3; exfalso; omega) | (intro x h1 h2; rcases h2 with h3 | h3; exact h3; exfalso; omega))
      replace hd_3 := hd_3.chg k10 (by first | (intro x h1 h2; exact h2) | (intro x h0 h1 h2; exact hS x h1 h2) | (intro x h0 h1 h2; have h3 : _ = _ := h2; subst h3; exact hSR h1.1) | (intro x h1 h2; have h3 : _ = _ := h2; subst h3; assumption) | (intro x h1 h2; have h3 : _ = _ := h2; exfalso; omega) | (intro b h1 h2 h3; have h4 : _ = _ := h3; (try dsimp only at h2); exfalso; omega) | (intro h1; have h2 : _ = _ := h1; exfalso; omega) | (intro h1; have h2 : _ ≤ _ := h1; exfalso; omega) | (intros; exfalso; (try dsimp only at *); omega) | (intro b h1 h2 h3; exfalso; have h4 := h3.2; (try dsimp only at *); omega) | (intro h1; exfalso; have h4 := h1.2; (try dsimp only at *); omega) | (intro x h1 h2; exfalso; have h4 := h2.2; (try dsimp only at *); omega) | (intro x h1 h2; exact ⟨_, rfl, h2⟩) | (intro x h1 h2; have h4 := h2.1; have h5 := h2.2; exfalso; omega) | (intro x h1 h2; exact h2.1) | (intro x h1 h2; rcases h2.1 with h3 | h3; exact h3; exfalso; omega) | (intro x h1 h2; rcases h2 with h3 | h3; exact h3; exfalso; omega))
      refine WL.nil ?_
      refine WX.one ⟨hd_3, ?_⟩
      refine ⟨?_, trivial, trivial⟩
      refine DT.step [(123, _), (120, _)] rfl ⟨rfl, rfl, trivial⟩ rfl (fun wq_30 kq_30 => ?_)
      have zs_kq_30 := kq_30.size
      replace hw := hw.pure kq_30
      replace hg := hg.pure kq_30
      replace hd_3 := hd_3.pure kq_30
      replace hR10 := hR10.pure kq_30
      refine WL.want rfl rfl rfl (?_)
      refine WL.neqF rfl rfl rfl (by first | rfl | omega | decide) ?_
      refine WL.nil ?_
      refine WX.one ⟨hd_3, ?_⟩
      refine ⟨?_, trivial⟩
      refine DT.step [(120, _), (124, _)] rfl ⟨rfl, rfl, trivial⟩ rfl (fun wq_31 kq_31 => ?_)
      have zs_kq_31 := kq_31.size
      replace hw := hw.pure kq_31
      replace hg := hg.pure kq_31
      replace hd_3 := hd_3.pure kq_31
      replace hR10 := hR10.pure kq_31
      refine WL.pickF rfl rfl rfl (?_)
      refine WL.nil ?_
      refine WX.one ⟨hd_3, ?_⟩
      refine DT.done (fun we_32 ke_32 => ?_) _
      have zs_ke_32 := ke_32.size
      replace hw := hw.pure ke_32
      replace hg := hg.pure ke_32
      replace hd_3 := hd_3.pure ke_32
      replace hR10 := hR10.pure ke_32
      rotate_left
      refine DT.step [(113, _)] rfl ⟨rfl, trivial⟩ rfl (fun wq_21 kq_21 => ?_)
      have zs_kq_21 := kq_21.size
      replace hw := hw.pure kq_21
      replace hR := hR.pure kq_21
      replace hq1 := hq1.pure kq_21
      replace hq2 := hq2.pure kq_21
      replace hg := hg.pure kq_21
      replace hd_3 := hd_3.pure kq_21
      refine WL.want rfl rfl rfl (?_)
      refine WL.make (e := eb) (0 : UInt8) 128 128 Try.underlying30 info_5 rfl rfl rfl ⟨rfl, rfl, Nat.le_refl _⟩ (by decide) rfl ?_
      intro g9 w9 hm k9 z9 eg9
      have zs_k9 := k9.size
      replace hw := hw.pure k9
      replace hR := hR.pure k9
      replace hq1 := hq1.pure k9
      replace hq2 := hq2.pure k9
      replace hg := hg.pure k9
      replace hd_3 := hd_3.pure k9
      refine WL.nil ?_
      refine WX.one ⟨hd_3, ?_⟩
      refine ⟨?_, ?_, trivial, trivial, trivial, trivial, trivial, trivial, trivial, trivial, trivial⟩
      refine DT.step [(114, _), (113, _)] rfl ⟨rfl, rfl, trivial⟩ rfl (fun wq_22 kq_22 => ?_)
      have zs_kq_22 := kq_22.size
      replace hw := hw.pure kq_22
      replace hR := hR.pure kq_22
      replace hq1 := hq1.pure kq_22
      replace hq2 := hq2.pure kq_22
      replace hg := hg.pure kq_22
      replace hd_3 := hd_3.pure kq_22
      replace hm := hm.pure kq_22
      refine WL.want rfl rfl rfl (WL.toStr Try.underlying30 Try.underlying5 Try.underlying9 hq2 rfl rfl (?_))
      refine WL.nil ?_
      refine WX.one ⟨hd_3, ?_⟩
      refine ⟨?_, trivial, trivial, trivial, trivial, trivial, trivial, trivial, trivial, trivial⟩
      refine DT.step [(116, _), (113, _)] rfl ⟨rfl, rfl, trivial⟩ rfl (fun wq_23 kq_23 => ?_)
      have zs_kq_23 := kq_23.size
      replace hw := hw.pure kq_23
      replace hR := hR.pure kq_23
      replace hq1 := hq1.pure kq_23
      replace hq2 := hq2.pure kq_23
      replace hg := hg.pure kq_23
      replace hd_3 := hd_3.pure kq_23
      replace hm := hm.pure kq_23
      refine WL.want rfl rfl rfl (WL.toStr Try.underlying30 Try.underlying5 Try.underlying9 hm.rsl rfl rfl (?_))
      refine WL.nil ?_
      refine WX.one ⟨hd_3, ?_⟩
      refine ⟨?_, trivial, trivial, trivial, trivial, trivial, trivial, trivial, trivial⟩
      refine DT.step [(115, _), (117, _), (113, _)] rfl ⟨rfl, rfl, rfl, trivial⟩ rfl (fun wq_24 kq_24 => ?_)
      have zs_kq_24 := kq_24.size
      replace hw := hw.pure kq_24
      replace hR := hR.pure kq_24
      replace hq1 := hq1.pure kq_24
      replace hq2 := hq2.pure kq_24
      replace hg := hg.pure kq_24
      replace hd_3 := hd_3.pure kq_24
      replace hm := hm.pure kq_24
      refine WL.want rfl rfl rfl (?_)
      refine WL.sneqF rfl rfl rfl ((by rfl)) ?_
      refine WL.nil ?_
      refine WX.one ⟨hd_3, ?_⟩
      refine ⟨?_, trivial, trivial, trivial, trivial, trivial, trivial, trivial⟩
      refine DT.step [(113, _), (118, _)] rfl ⟨rfl, rfl, trivial⟩ rfl (fun wq_25 kq_25 => ?_)
      have zs_kq_25 := kq_25.size
      replace hw := hw.pure kq_25
      replace hR := hR.pure kq_25
      replace hq1 := hq1.pure kq_25
      replace hq2 := hq2.pure kq_25
      replace hg := hg.pure kq_25
      replace hd_3 := hd_3.pure kq_25
      replace hm := hm.pure kq_25
      refine WL.pickF rfl rfl rfl (?_)
      refine WL.nil ?_
      refine WX.one ⟨hd_3, ?_⟩
      refine ⟨?_, trivial, trivial, trivial, trivial, trivial, trivial⟩
      refine DT.step [(119, _)] rfl ⟨rfl, trivial⟩ rfl (fun wq_26 kq_26 => ?_)
      have zs_kq_26 := kq_26.size
      replace hw := hw.pure kq_26
      replace hR := hR.pure kq_26
      replace hq1 := hq1.pure kq_26
      replace hq2 := hq2.pure kq_26
      replace hg := hg.pure kq_26
      replace hd_3 := hd_3.pure kq_26
      replace hm := hm.pure kq_26
      refine WL.move rfl rfl (?_)
      refine WL.nil ?_
      refine WX.one ⟨hd_3, ?_⟩
      refine ⟨?_, ?_, trivial, trivial, trivial, trivial⟩
      refine DT.step [(3, _), (120, _)] rfl ⟨rfl, rfl, trivial⟩ rfl (fun wq_27 kq_27 => ?_)
      have zs_kq_27 := kq_27.size
      replace hw := hw.pure kq_27
      replace hR := hR.pure kq_27
      replace hq1 := hq1.pure kq_27
      replace hq2 := hq2.pure kq_27
      replace hg := hg.pure kq_27
      replace hd_3 := hd_3.pure kq_27
      replace hm := hm.pure kq_27
      refine WL.want rfl rfl rfl (WL.move rfl rfl (?_))
      refine WL.nil ?_
      refine WX.one ⟨hd_3, ?_⟩
      refine ⟨?_, trivial, trivial, trivial, trivial⟩
      refine DT.step [(5, _), (120, _)] rfl ⟨rfl, rfl, trivial⟩ rfl (fun wq_28 kq_28 => ?_)
      have zs_kq_28 := kq_28.size
      replace hw := hw.pure kq_28
      replace hR := hR.pure kq_28
      replace hq1 := hq1.pure kq_28
      replace hq2 := hq2.pure kq_28
      replace hg := hg.pure kq_28
      replace hd_3 := hd_3.pure kq_28
      replace hm := hm.pure kq_28
      refine WL.want rfl rfl rfl (WL.move rfl rfl (?_))
      refine WL.nil ?_
      refine WX.one ⟨hd_3, ?_⟩
      refine ⟨?_, trivial, trivial, trivial⟩
      refine DT.step [(121, _), (122, _), (120, _)] rfl ⟨rfl, rfl, rfl, trivial⟩ rfl (fun wq_29 kq_29 => ?_)
      have zs_kq_29 := kq_29.size
      replace hw := hw.pure kq_29
      replace hR := hR.pure kq_29
      replace hq1 := hq1.pure kq_29
      replace hq2 := hq2.pure kq_29
      replace hg := hg.pure kq_29
      replace hd_3 := hd_3.pure kq_29
      replace hm := hm.pure kq_29
      refine WL.want rfl rfl rfl (?_)
      refine WL.call eg_19 rfl rfl (RotN (n := -1) (d := 1) (a := (k : Int)) hR (fun x hx => by omega) (by omega)) ?_
      rintro v w10 ⟨rfl, hR10, k10⟩
      have zs_k10 := k10.size
      replace hw := hw.chg k10 (by first | (intro x h1 h2; exact h2) | (intro x h0 h1 h2; exact hS x h1 h2) | (intro x h0 h1 h2; have h3 : _ = _ := h2; subst h3; exact hSR h1.1) | (intro x h1 h2; have h3 : _ = _ := h2; subst h3; assumption) | (intro x h1 h2; have h3 : _ = _ := h2; exfalso; omega) | (intro b h1 h2 h3; have h4 : _ = _ := h3; (try dsimp only at h2); exfalso; omega) | (intro h1; have h2 : _ = _ := h1; exfalso; omega) | (intro h1; have h2 : _ ≤ _ := h1; exfalso; omega) | (intros; exfalso; (try dsimp only at *); omega) | (intro b h1 h2 h3; exfalso; have h4 := h3.2; (try dsimp only at *); omega) | (intro h1; exfalso; have h4 := h1.2; (try dsimp only at *); omega) | (intro x h1 h2; exfalso; have h4 := h2.2; (try dsimp only at *); omega) | (intro x h1 h2; exact ⟨_, rfl, h2⟩) | (intro x h1 h2; have h4 := h2.1; have h5 := h2.2; exfalso; omega) | (intro x h1 h2; exact h2.1) | (intro x h1 h2; rcases h2.1 with h3 | h3; exact h3; exfalso; omega) | (intro x h1 h2; rcases h2 with h3 | h3; exact h3; exfalso; omega))
      replace hg := hg.chg k10 (by first | (intro x h1 h2; exact h2) | (intro x h0 h1 h2; exact hS x h1 h2) | (intro x h0 h1 h2; have h3 : _ = _ := h2; subst h3; exact hSR h1.1) | (intro x h1 h2; have h3 : _ = _ := h2; subst h3; assumption) | (intro x h1 h2; have h3 : _ = _ := h2; exfalso; omega) | (intro b h1 h2 h3; have h4 : _ = _ := h3; (try dsimp only at h2); exfalso; omega) | (intro h1; have h2 : _ = _ := h1; exfalso; omega) | (intro h1; have h2 : _ ≤ _ := h1; exfalso; omega) | (intros; exfalso; (try dsimp only at *); omega) | (intro b h1 h2 h3; exfalso; have h4 := h3.2; (try dsimp only at *); omega) | (intro h1; exfalso; have h4 := h1.2; (try dsimp only at *); omega) | (intro x h1 h2; exfalso; have h4 := h2.2; (try dsimp only at *); omega) | (intro x h1 h2; exact ⟨_, rfl, h2⟩) | (intro x h1 h2; have h4 := h2.1; have h5 := h2.2; exfalso; omega) | (intro x h1 h2; exact h2.1) | (intro x h1 h2; rcases h2.1 with h3 | h3; exact h3; exfalso; omega) | (intro x h1 h2; rcases h2 with h3 | h3; exact h3; exfalso; omega))
      replace hd_3 := hd_3.chg k10 (by first | (intro x h1 h2; exact h2) | (intro x h0 h1 h2; exact hS x h1 h2) | (intro x h0 h1 h2; have h3 : _ = _ := h2; subst h3; exact hSR h1.1) | (intro x h1 h2; have h3 : _ = _ := h2; subst h3; assumption) | (intro x h1 h2; have h3 : _ = _ := h2; exfalso; omega) | (intro b h1 h2 h3; have h4 : _ = _ := h3; (try dsimp only at h2); exfalso; omega) | (intro h1; have h2 : _ = _ := h1; exfalso; omega) | (intro h1; have h2 : _ ≤ _ := h1; exfalso; omega) | (intros; exfalso; (try dsimp only at *); omega) | (intro b h1 h2 h3; exfalso; have h4 := h3.2; (try dsimp only at *); omega) | (intro h1; exfalso; have h4 := h1.2; (try dsimp only at *); omega) | (intro x h1 h2; exfalso; have h4 := h2.2; (try dsimp only at *); omega) | (intro x h1 h2; exact ⟨_, rfl, h2⟩) | (intro x h1 h2; have h4 := h2.1; have h5 := h2.2; exfalso; omega) | (intro x h1 h2; exact h2.1) | (intro x h1 h2; rcases h2.1 with h3 | h3; exact h3; exfalso; omega) | (intro x h1 h2; rcases h2 with h3 | h3; exact h3; exfalso; omega))
      refine WL.nil ?_
      refine WX.one ⟨hd_3, ?_⟩
      refine ⟨?_, trivial, trivial⟩
      refine DT.step [(123, _), (120, _)] rfl ⟨rfl, rfl, trivial⟩ rfl (fun wq_30 kq_30 => ?_)
      have zs_kq_30 := kq_30.size
      replace hw := hw.pure kq_30
      replace hg := hg.pure kq_30
      replace hd_3 := hd_3.pure kq_30
      replace hR10 := hR10.pure kq_30
      refine WL.want rfl rfl rfl (?_)
      refine WL.neqF rfl rfl rfl (by first | rfl | omega | decide) ?_
      refine WL.nil ?_
      refine WX.one ⟨hd_3, ?_⟩
      refine ⟨?_, trivial⟩
      refine DT.step [(120, _), (124, _)] rfl ⟨rfl, rfl, trivial⟩ rfl (fun wq_31 kq_31 => ?_)
      have zs_kq_31 := kq_31.size
      replace hw := hw.pure kq_31
      replace hg := hg.pure kq_31
      replace hd_3 := hd_3.pure kq_31
      replace hR10 := hR10.pure kq_31
      refine WL.pickF rfl rfl rfl (?_)
      refine WL.nil ?_
      refine WX.one ⟨hd_3, ?_⟩
      refine DT.done (fun we_32 ke_32 => ?_) _
      have zs_ke_32 := ke_32.size
      replace hw := hw.pure ke_32
      replace hg := hg.pure ke_32
      replace hd_3 := hd_3.pure ke_32
      replace hR10 := hR10.pure ke_32
      rotate_left
      refine DT.step [(5, _), (120, _)] rfl ⟨rfl, rfl, trivial⟩ rfl (fun wq_27 kq_27 => ?_)
      have zs_kq_27 := kq_27.size
      replace hw := hw.pure kq_27
      replace hR := hR.pure kq_27
      replace hq1 := hq1.pure kq_27
      replace hq2 := hq2.pure kq_27
      replace hg := hg.pure kq_27
      replace hd_3 := hd_3.pure kq_27
      replace hm := hm.pure kq_27
      refine WL.want rfl rfl rfl (WL.move rfl rfl (?_))
      refine WL.nil ?_
      refine WX.one ⟨hd_3, ?_⟩
      refine ⟨?_, trivial, trivial, trivial, trivial⟩
      refine DT.step [(3, _), (120, _)] rfl ⟨rfl, rfl, trivial⟩ rfl (fun wq_28 kq_28 => ?_)
      have zs_kq_28 := kq_28.size
      replace hw := hw.pure kq_28
      replace hR := hR.pure kq_28
      replace hq1 := hq1.pure kq_28
      replace hq2 := hq2.pure kq_28
      replace hg := hg.pure kq_28
      replace hd_3 := hd_3.pure kq_28
      replace hm := hm.pure kq_28
      refine WL.want rfl rfl rfl (WL.move rfl rfl (?_))
      refine WL.nil ?_
      refine WX.one ⟨hd_3, ?_⟩
      refine ⟨?_, trivial, trivial, trivial⟩
      refine DT.step [(121, _), (122, _), (120, _)] rfl ⟨rfl, rfl, rfl, trivial⟩ rfl (fun wq_29 kq_29 => ?_)
      have zs_kq_29 := kq_29.size
      replace hw := hw.pure kq_29
      replace hR := hR.pure kq_29
      replace hq1 := hq1.pure kq_29
      replace hq2 := hq2.pure kq_29
      replace hg := hg.pure kq_29
      replace hd_3 := hd_3.pure kq_29
      replace hm := hm.pure kq_29
      refine WL.want rfl rfl rfl (?_)
      refine WL.call eg_19 rfl rfl (RotN (n := -1) (d := 1) (a := (k : Int)) hR (fun x hx => by omega) (by omega)) ?_
      rintro v w10 ⟨rfl, hR10, k10⟩
      have zs_k10 := k10.size
      replace hw := hw.chg k10 (by first | (intro x h1 h2; exact h2) | (intro x h0 h1 h2; exact hS x h1 h2) | (intro x h0 h1 h2; have h3 : _ = _ := h2; subst h3; exact hSR h1.1) | (intro x h1 h2; have h3 : _ = _ := h2; subst h3; assumption) | (intro x h1 h2; have h3 : _ = _ := h2; exfalso; omega) | (intro b h1 h2 h3; have h4 : _ = _ := h3; (try dsimp only at h2); exfalso; omega) | (intro h1; have h2 : _ = _ := h1; exfalso; omega) | (intro h1; have h2 : _ ≤ _ := h1; exfalso; omega) | (intros; exfalso; (try dsimp only at *); omega) | (intro b h1 h2 h3; exfalso; have h4 := h3.2; (try dsimp only at *); omega) | (intro h1; exfalso; have h4 := h1.2; (try dsimp only at *); omega) | (intro x h1 h2; exfalso; have h4 := h2.2; (try dsimp only at *); omega) | (intro x h1 h2; exact ⟨_, rfl, h2⟩) | (intro x h1 h2; have h4 := h2.1; have h5 := h2.2; exfalso; omega) | (intro x h1 h2; exact h2.1) | (intro x h1 h2; rcases h2.1 with h3 | h3; exact h3; exfalso; omega) | (intro x h1 h2; rcases h2 with h3 | h3; exact h3; exfalso; omega))
      replace hg := hg.chg k10 (by first | (intro x h1 h2; exact h2) | (intro x h0 h1 h2; exact hS x h1 h2) | (intro x h0 h1 h2; have h3 : _ = _ := h2; subst h3; exact hSR h1.1) | (intro x h1 h2; have h3 : _ = _ := h2; subst h3; assumption) | (intro x h1 h2; have h3 : _ = _ := h2; exfalso; omega) | (intro b h1 h2 h3; have h4 : _ = _ := h3; (try dsimp only at h2); exfalso; omega) | (intro h1; have h2 : _ = _ := h1; exfalso; omega) | (intro h1; have h2 : _ ≤ _ := h1; exfalso; omega) | (intros; exfalso; (try dsimp only at *); omega) | (intro b h1 h2 h3; exfalso; have h4 := h3.2; (try dsimp only at *); omega) | (intro h1; exfalso; have h4 := h1.2; (try dsimp only at *); omega) | (intro x h1 h2; exfalso; have h4 := h2.2; (try dsimp only at *); omega) | (intro x h1 h2; exact ⟨_, rfl, h2⟩) | (intro x h1 h2; have h4 := h2.1; have h5 := h2.2; exfalso; omega) | (intro x h1 h2; exact h2.1) | (intro x h1 h2; rcases h2.1 with h3 | h3; exact h3; exfalso; omega) | (intro x h1 h2; rcases h2 with h3 | h3; exact h3; exfalso; omega))
      replace hd_3 := hd_3.chg k10 (by first | (intro x h1 h2; exact h2) | (intro x h0 h1 h2; exact hS x h1 h2) | (intro x h0 h1 h2; have h3 : _ = _ := h2; subst h3; exact hSR h1.1) | (intro x h1 h2; have h3 : _ = _ := h2; subst h3; assumption) | (intro x h1 h2; have h3 : _ = _ := h2; exfalso; omega) | (intro b h1 h2 h3; have h4 : _ = _ := h3; (try dsimp only at h2); exfalso; omega) | (intro h1; have h2 : _ = _ := h1; exfalso; omega) | (intro h1; have h2 : _ ≤ _ := h1; exfalso; omega) | (intros; exfalso; (try dsimp only at *); omega) | (intro b h1 h2 h3; exfalso; have h4 := h3.2; (try dsimp only at *); omega) | (intro h1; exfalso; have h4 := h1.2; (try dsimp only at *); omega) | (intro x h1 h2; exfalso; have h4 := h2.2; (try dsimp only at *); omega) | (intro x h1 h2; exact ⟨_, rfl, h2⟩) | (intro x h1 h2; have h4 := h2.1; have h5 := h2.2; exfalso; omega) | (intro x h1 h2; exact h2.1) | (intro x h1 h2; rcases h2.1 with h3 | h3; exact h3; exfalso; omega) | (intro x h1 h2; rcases h2 with h3 | h3; exact h3; exfalso; omega))
      refine WL.nil ?_
      refine WX.one ⟨hd_3, ?_⟩
      refine ⟨?_, trivial, trivial⟩
      refine DT.step [(123, _), (120, _)] rfl ⟨rfl, rfl, trivial⟩ rfl (fun wq_30 kq_30 => ?_)
      have zs_kq_30 := kq_30.size
      replace hw := hw.pure kq_30
      replace hg := hg.pure kq_30
      replace hd_3 := hd_3.pure kq_30
      replace hR10 := hR10.pure kq_30
      refine WL.want rfl rfl rfl (?_)
      refine WL.neqF rfl rfl rfl (by first | rfl | omega | decide) ?_
      refine WL.nil ?_
      refine WX.one ⟨hd_3, ?_⟩
      refine ⟨?_, trivial⟩
      refine DT.step [(120, _), (124, _)] rfl ⟨rfl, rfl, trivial⟩ rfl (fun wq_31 kq_31 => ?_)
      have zs_kq_31 := kq_31.size
      replace hw := hw.pure kq_31
      replace hg := hg.pure kq_31
      replace hd_3 := hd_3.pure kq_31
      replace hR10 := hR10.pure kq_31
      refine WL.pickF rfl rfl rfl (?_)
      refine WL.nil ?_
      refine WX.one ⟨hd_3, ?_⟩
      refine DT.done (fun we_32 ke_32 => ?_) _
      have zs_ke_32 := ke_32.size
      replace hw := hw.pure ke_32
      replace hg := hg.pure ke_32
      replace hd_3 := hd_3.pure ke_32
      replace hR10 := hR10.pure ke_32
      rotate_left
      refine DT.step [(116, _), (113, _)] rfl ⟨rfl, rfl, trivial⟩ rfl (fun wq_22 kq_22 => ?_)
      have zs_kq_22 := kq_22.size
      replace hw := hw.pure kq_22
      replace hR := hR.pure kq_22
      replace hq1 := hq1.pure kq_22
      replace hq2 := hq2.pure kq_22
      replace hg := hg.pure kq_22
      replace hd_3 := hd_3.pure kq_22
      replace hm := hm.pure kq_22
      refine WL.want rfl rfl rfl (WL.toStr Try.underlying30 Try.underlying5 Try.underlying9 hm.rsl rfl rfl (?_))
      refine WL.nil ?_
      refine WX.one ⟨hd_3, ?_⟩
      refine ⟨?_, trivial, trivial, trivial, trivial, trivial, trivial, trivial, trivial, trivial⟩
      refine DT.step [(114, _), (113, _)] rfl ⟨rfl, rfl, trivial⟩ rfl (fun wq_23 kq_23 => ?_)
      have zs_kq_23 := kq_23.size
      replace hw := hw.pure kq_23
      replace hR := hR.pure kq_23
      replace hq1 := hq1.pure kq_23
      replace hq2 := hq2.pure kq_23
      replace hg := hg.pure kq_23
      replace hd_3 := hd_3.pure kq_23
      replace hm := hm.pure kq_23
      refine WL.want rfl rfl rfl (WL.toStr Try.underlying30 Try.underlying5 Try.underlying9 hq2 rfl rfl (?_))
      refine WL.nil ?_
      refine WX.one ⟨hd_3, ?_⟩
      refine ⟨?_, trivial, trivial, trivial, trivial, trivial, trivial, trivial, trivial⟩
      refine DT.step [(115, _), (117, _), (113, _)] rfl ⟨rfl, rfl, rfl, trivial⟩ rfl (fun wq_24 kq_24 => ?_)
      have zs_kq_24 := kq_24.size
      replace hw := hw.pure kq_24
      replace hR := hR.pure kq_24
      replace hq1 := hq1.pure kq_24
      replace hq2 := hq2.pure kq_24
      replace hg := hg.pure kq_24
      replace hd_3 := hd_3.pure kq_24
      replace hm := hm.pure kq_24
      refine WL.want rfl rfl rfl (?_)
      refine WL.sneqF rfl rfl rfl ((by rfl)) ?_
      refine WL.nil ?_
      refine WX.one ⟨hd_3, ?_⟩
      refine ⟨?_, trivial, trivial, trivial, trivial, trivial, trivial, trivial⟩
      refine DT.step [(113, _), (118, _)] rfl ⟨rfl, rfl, trivial⟩ rfl (fun wq_25 kq_25 => ?_)
      have zs_kq_25 := kq_25.size
      replace hw := hw.pure kq_25
      replace hR := hR.pure kq_25
      replace hq1 := hq1.pure kq_25
      replace hq2 := hq2.pure kq_25
      replace hg := hg.pure kq_25
      replace hd_3 := hd_3.pure kq_25
      replace hm := hm.pure kq_25
      refine WL.pickF rfl rfl rfl (?_)
      refine WL.nil ?_
      refine WX.one ⟨hd_3, ?_⟩
      refine ⟨?_, trivial, trivial, trivial, trivial, trivial, trivial⟩
      refine DT.step [(119, _)] rfl ⟨rfl, trivial⟩ rfl (fun wq_26 kq_26 => ?_)
      have zs_kq_26 := kq_26.size
      replace hw := hw.pure kq_26
      replace hR := hR.pure kq_26
      replace hq1 := hq1.pure kq_26
      replace hq2 := hq2.pure kq_26
      replace hg := hg.pure kq_26
      replace hd_3 := hd_3.pure kq_26
      replace hm := hm.pure kq_26
      refine WL.move rfl rfl (?_)
      refine WL.nil ?_
      refine WX.one ⟨hd_3, ?_⟩
      refine ⟨?_, ?_, trivial, trivial, trivial, trivial⟩
      refine DT.step [(3, _), (120, _)] rfl ⟨rfl, rfl, trivial⟩ rfl (fun wq_27 kq_27 => ?_)
      have zs_kq_27 := kq_27.size
      replace hw := hw.pure kq_27
      replace hR := hR.pure kq_27
      replace hq1 := hq1.pure kq_27
      replace hq2 := hq2.pure kq_27
      replace hg := hg.pure kq_27
      replace hd_3 := hd_3.pure kq_27
      replace hm := hm.pure kq_27
      refine WL.want rfl rfl rfl (WL.move rfl rfl (?_))
      refine WL.nil ?_
      refine WX.one ⟨hd_3, ?_⟩
      refine ⟨?_, trivial, trivial, trivial, trivial⟩
      refine DT.step [(5, _), (120, _)] rfl ⟨rfl, rfl, trivial⟩ rfl (fun wq_28 kq_28 => ?_)
      have zs_kq_28 := kq_28.size
      replace hw := hw.pure kq_28
      replace hR := hR.pure kq_28
      replace hq1 := hq1.pure kq_28
      replace hq2 := hq2.pure kq_28
      replace hg := hg.pure kq_28
      replace hd_3 := hd_3.pure kq_28
      replace hm := hm.pure kq_28
      refine WL.want rfl rfl rfl (WL.move rfl rfl (?_))
      refine WL.nil ?_
      refine WX.one ⟨hd_3, ?_⟩
      refine ⟨?_, trivial, trivial, trivial⟩
      refine DT.step [(121, _), (122, _), (120, _)] rfl ⟨rfl, rfl, rfl, trivial⟩ rfl (fun wq_29 kq_29 => ?_)
      have zs_kq_29 := kq_29.size
      replace hw := hw.pure kq_29
      replace hR := hR.pure kq_29
      replace hq1 := hq1.pure kq_29
      replace hq2 := hq2.pure kq_29
      replace hg := hg.pure kq_29
      replace hd_3 := hd_3.pure kq_29
      replace hm := hm.pure kq_29
      refine WL.want rfl rfl rfl (?_)
      refine WL.call eg_19 rfl rfl (RotN (n := -1) (d := 1) (a := (k : Int)) hR (fun x hx => by omega) (by omega)) ?_
      rintro v w10 ⟨rfl, hR10, k10⟩
      have zs_k10 := k10.size
      replace hw := hw.chg k10 (by first | (intro x h1 h2; exact h2) | (intro x h0 h1 h2; exact hS x h1 h2) | (intro x h0 h1 h2; have h3 : _ = _ := h2; subst h3; exact hSR h1.1) | (intro x h1 h2; have h3 : _ = _ := h2; subst h3; assumption) | (intro x h1 h2; have h3 : _ = _ := h2; exfalso; omega) | (intro b h1 h2 h3; have h4 : _ = _ := h3; (try dsimp only at h2); exfalso; omega) | (intro h1; have h2 : _ = _ := h1; exfalso; omega) | (intro h1; have h2 : _ ≤ _ := h1; exfalso; omega) | (intros; exfalso; (try dsimp only at *); omega) | (intro b h1 h2 h3; exfalso; have h4 := h3.2; (try dsimp only at *); omega) | (intro h1; exfalso; have h4 := h1.2; (try dsimp only at *); omega) | (intro x h1 h2; exfalso; have h4 := h2.2; (try dsimp only at *); omega) | (intro x h1 h2; exact ⟨_, rfl, h2⟩) | (intro x h1 h2; have h4 := h2.1; have h5 := h2.2; exfalso; omega) | (intro x h1 h2; exact h2.1) | (intro x h1 h2; rcases h2.1 with h3 | h3; exact h3; exfalso; omega) | (intro x h1 h2; rcases h2 with h3 | h3; exact h3; exfalso; omega))
      replace hg := hg.chg k10 (by first | (intro x h1 h2; exact h2) | (intro x h0 h1 h2; exact hS x h1 h2) | (intro x h0 h1 h2; have h3 : _ = _ := h2; subst h3; exact hSR h1.1) | (intro x h1 h2; have h3 : _ = _ := h2; subst h3; assumption) | (intro x h1 h2; have h3 : _ = _ := h2; exfalso; omega) | (intro b h1 h2 h3; have h4 : _ = _ := h3; (try dsimp only at h2); exfalso; omega) | (intro h1; have h2 : _ = _ := h1; exfalso; omega) | (intro h1; have h2 : _ ≤ _ := h1; exfalso; omega) | (intros; exfalso; (try dsimp only at *); omega) | (intro b h1 h2 h3; exfalso; have h4 := h3.2; (try dsimp only at *); omega) | (intro h1; exfalso; have h4 := h1.2; (try dsimp only at *); omega) | (intro x h1 h2; exfalso; have h4 := h2.2; (try dsimp only at *); omega) | (intro x h1 h2; exact ⟨_, rfl, h2⟩) | (intro x h1 h2; have h4 := h2.1; have h5 := h2.2; exfalso; omega) | (intro x h1 h2; exact h2.1) | (intro x h1 h2; rcases h2.1 with h3 | h3; exact h3; exfalso; omega) | (intro x h1 h2; rcases h2 with h3 | h3; exact h3; exfalso; omega))
      replace hd_3 := hd_3.chg k10 (by first | (intro x h1 h2; exact h2) | (intro x h0 h1 h2; exact hS x h1 h2) | (intro x h0 h1 h2; have h3 : _ = _ := h2; subst h3; exact hSR h1.1) | (intro x h1 h2; have h3 : _ = _ := h2; subst h3; assumption) | (intro x h1 h2; have h3 : _ = _ := h2; exfalso; omega) | (intro b h1 h2 h3; have h4 : _ = _ := h3; (try dsimp only at h2); exfalso; omega) | (intro h1; have h2 : _ = _ := h1; exfalso; omega) | (intro h1; have h2 : _ ≤ _ := h1; exfalso; omega) | (intros; exfalso; (try dsimp only at *); omega) | (intro b h1 h2 h3; exfalso; have h4 := h3.2; (try dsimp only at *); omega) | (intro h1; exfalso; have h4 := h1.2; (try dsimp only at *); omega) | (intro x h1 h2; exfalso; have h4 := h2.2; (try dsimp only at *); omega) | (intro x h1 h2; exact ⟨_, rfl, h2⟩) | (intro x h1 h2; have h4 := h2.1; have h5 := h2.2; exfalso; omega) | (intro x h1 h2; exact h2.1) | (intro x h1 h2; rcases h2.1 with h3 | h3; exact h3; exfalso; omega) | (intro x h1 h2; rcases h2 with h3 | h3; exact h3; exfalso; omega))
      refine WL.nil ?_
      refine WX.one ⟨hd_3, ?_⟩
      refine ⟨?_, trivial, trivial⟩
      refine DT.step [(123, _), (120, _)] rfl ⟨rfl, rfl, trivial⟩ rfl (fun wq_30 kq_30 => ?_)
      have zs_kq_30 := kq_30.size
      replace hw := hw.pure kq_30
      replace hg := hg.pure kq_30
      replace hd_3 := hd_3.pure kq_30
      replace hR10 := hR10.pure kq_30
      refine WL.want rfl rfl rfl (?_)
      refine WL.neqF rfl rfl rfl (by first | rfl | omega | decide) ?_
      refine WL.nil ?_
      refine WX.one ⟨hd_3, ?_⟩
      refine ⟨?_, trivial⟩
      refine DT.step [(120, _), (124, _)] rfl ⟨rfl, rfl, trivial⟩ rfl (fun wq_31 kq_31 => ?_)
      have zs_kq_31 := kq_31.size
      replace hw := hw.pure kq_31
      replace hg := hg.pure kq_31
      replace hd_3 := hd_3.pure kq_31
      replace hR10 := hR10.pure kq_31
      refine WL.pickF rfl rfl rfl (?_)
      refine WL.nil ?_
      refine WX.one ⟨hd_3, ?_⟩
      refine DT.done (fun we_32 ke_32 => ?_) _
      have zs_ke_32 := ke_32.size
      replace hw := hw.pure ke_32
      replace hg := hg.pure ke_32
      replace hd_3 := hd_3.pure ke_32
      replace hR10 := hR10.pure ke_32
      rotate_left
      refine DT.step [(5, _), (120, _)] rfl ⟨rfl, rfl, trivial⟩ rfl (fun wq_27 kq_27 => ?_)
      have zs_kq_27 := kq_27.size
      replace hw := hw.pure kq_27
      replace hR := hR.pure kq_27
      replace hq1 := hq1.pure kq_27
      replace hq2 := hq2.pure kq_27
      replace hg := hg.pure kq_27
      replace hd_3 := hd_3.pure kq_27
      replace hm := hm.pure kq_27
      refine WL.want rfl rfl rfl (WL.move rfl rfl (?_))
      refine WL.nil ?_
      refine WX.one ⟨hd_3, ?_⟩
      refine ⟨?_, trivial, trivial, trivial, trivial⟩
      refine DT.step [(3, _), (120, _)] rfl ⟨rfl, rfl, trivial⟩ rfl (fun wq_28 kq_28 => ?_)
      have zs_kq_28 := kq_28.size
      replace hw := hw.pure kq_28
      replace hR := hR.pure kq_28
      replace hq1 := hq1.pure kq_28
      replace hq2 := hq2.pure kq_28
      replace hg := hg.pure kq_28
      replace hd_3 := hd_3.pure kq_28
      replace hm := hm.pure kq_28
      refine WL.want rfl rfl rfl (WL.move rfl rfl (?_))
      refine WL.nil ?_
      refine WX.one ⟨hd_3, ?_⟩
      refine ⟨?_, trivial, trivial, trivial⟩
      refine DT.step [(121, _), (122, _), (120, _)] rfl ⟨rfl, rfl, rfl, trivial⟩ rfl (fun wq_29 kq_29 => ?_)
      have zs_kq_29 := kq_29.size
      replace hw := hw.pure kq_29
      replace hR := hR.pure kq_29
      replace hq1 := hq1.pure kq_29
      replace hq2 := hq2.pure kq_29
      replace hg := hg.pure kq_29
      replace hd_3 := hd_3.pure kq_29
      replace hm := hm.pure kq_29
      refine WL.want rfl rfl rfl (?_)
      refine WL.call eg_19 rfl rfl (RotN (n := -1) (d := 1) (a := (k : Int)) hR (fun x hx => by omega) (by omega)) ?_
      rintro v w10 ⟨rfl, hR10, k10⟩
      have zs_k10 := k10.size
      replace hw := hw.chg k10 (by first | (intro x h1 h2; exact h2) | (intro x h0 h1 h2; exact hS x h1 h2) | (intro x h0 h1 h2; have h3 : _ = _ := h2; subst h3; exact hSR h1.1) | (intro x h1 h2; have h3 : _ = _ := h2; subst h3; assumption) | (intro x h1 h2; have h3 : _ = _ := h2; exfalso; omega) | (intro b h1 h2 h3; have h4 : _ = _ := h3; (try dsimp only at h2); exfalso; omega) | (intro h1; have h2 : _ = _ := h1; exfalso; omega) | (intro h1; have h2 : _ ≤ _ := h1; exfalso; omega) | (intros; exfalso; (try dsimp only at *); omega) | (intro b h1 h2 h3; exfalso; have h4 := h3.2; (try dsimp only at *); omega) | (intro h1; exfalso; have h4 := h1.2; (try dsimp only at *); omega) | (intro x h1 h2; exfalso; have h4 := h2.2; (try dsimp only at *); omega) | (intro x h1 h2; exact ⟨_, rfl, h2⟩) | (intro x h1 h2; have h4 := h2.1; have h5 := h2.2; exfalso; omega) | (intro x h1 h2; exact h2.1) | (intro x h1 h2; rcases h2.1 with h3 | h3; exact h3; exfalso; omega) | (intro x h1 h2; rcases h2 with h3 | h3; exact h3; exfalso; omega))
      replace hg := hg.chg k10 (by first | (intro x h1 h2; exact h2) | (intro x h0 h1 h2; exact hS x h1 h2) | (intro x h0 h1 h2; have h3 : _ = _ := h2; subst h3; exact hSR h1.1) | (intro x h1 h2; have h3 : _ = _ := h2; subst h3; assumption) | (intro x h1 h2; have h3 : _ = _ := h2; exfalso; omega) | (intro b h1 h2 h3; have h4 : _ = _ := h3; (try dsimp only at h2); exfalso; omega) | (intro h1; have h2 : _ = _ := h1; exfalso; omega) | (intro h1; have h2 : _ ≤ _ := h1; exfalso; omega) | (intros; exfalso; (try dsimp only at *); omega) | (intro b h1 h2 h3; exfalso; have h4 := h3.2; (try dsimp only at *); omega) | (intro h1; exfalso; have h4 := h1.2; (try dsimp only at *); omega) | (intro x h1 h2; exfalso; have h4 := h2.2; (try dsimp only at *); omega) | (intro x h1 h2; exact ⟨_, rfl, h2⟩) | (intro x h1 h2; have h4 := h2.1; have h5 := h2.2; exfalso; omega) | (intro x h1 h2; exact h2.1) | (intro x h1 h2; rcases h2.1 with h3 | h3; exact h3; exfalso; omega) | (intro x h1 h2; rcases h2 with h3 | h3; exact h3; exfalso; omega))
      replace hd_3 := hd_3.chg k10 (by first | (intro x h1 h2; exact h2) | (intro x h0 h1 h2; exact hS x h1 h2) | (intro x h0 h1 h2; have h3 : _ = _ := h2; subst h3; exact hSR h1.1) | (intro x h1 h2; have h3 : _ = _ := h2; subst h3; assumption) | (intro x h1 h2; have h3 : _ = _ := h2; exfalso; omega) | (intro b h1 h2 h3; have h4 : _ = _ := h3; (try dsimp only at h2); exfalso; omega) | (intro h1; have h2 : _ = _ := h1; exfalso; omega) | (intro h1; have h2 : _ ≤ _ := h1; exfalso; omega) | (intros; exfalso; (try dsimp only at *); omega) | (intro b h1 h2 h3; exfalso; have h4 := h3.2; (try dsimp only at *); omega) | (intro h1; exfalso; have h4 := h1.2; (try dsimp only at *); omega) | (intro x h1 h2; exfalso; have h4 := h2.2; (try dsimp only at *); omega) | (intro x h1 h2; exact ⟨_, rfl, h2⟩) | (intro x h1 h2; have h4 := h2.1; have h5 := h2.2; exfalso; omega) | (intro x h1 h2; exact h2.1) | (intro x h1 h2; rcases h2.1 with h3 | h3; exact h3; exfalso; omega) | (intro x h1 h2; rcases h2 with h3 | h3; exact h3; exfalso; omega))
      refine WL.nil ?_
      refine WX.one ⟨hd_3, ?_⟩
      refine ⟨?_, trivial, trivial⟩
      refine DT.step [(123, _), (120, _)] rfl ⟨rfl, rfl, trivial⟩ rfl (fun wq_30 kq_30 => ?_)
      have zs_kq_30 := kq_30.size
      replace hw := hw.pure kq_30
      replace hg := hg.pure kq_30
      replace hd_3 := hd_3.pure kq_30
      replace hR10 := hR10.pure kq_30
      refine WL.want rfl rfl rfl (?_)
      refine WL.neqF rfl rfl rfl (by first | rfl | omega | decide) ?_
      refine WL.nil ?_
      refine WX.one ⟨hd_3, ?_⟩
      refine ⟨?_, trivial⟩
      refine DT.step [(120, _), (124, _)] rfl ⟨rfl, rfl, trivial⟩ rfl (fun wq_31 kq_31 => ?_)
      have zs_kq_31 := kq_31.size
      replace hw := hw.pure kq_31
      replace hg := hg.pure kq_31
      replace hd_3 := hd_3.pure kq_31
      replace hR10 := hR10.pure kq_31
      refine WL.pickF rfl rfl rfl (?_)
      refine WL.nil ?_
      refine WX.one ⟨hd_3, ?_⟩
      refine DT.done (fun we_32 ke_32 => ?_) _
      have zs_ke_32 := ke_32.size
      replace hw := hw.pure ke_32
      replace hg := hg.pure ke_32
      replace hd_3 := hd_3.pure ke_32
      replace hR10 := hR10.pure ke_32
      rotate_left
      all_goals
        refine WX.then_normal (WC.cond_false rfl (WC.skip (WX.then_normal (WC.seq (WC.region (WL.move rfl rfl (WL.move rfl rfl (?_))))))))
        refine WL.move rfl rfl (?_)
        refine WL.call eg_19 rfl rfl (RotU (n := (n : Int)) hR10 (fun x hx => by omega) (by unfold inS; rw [sd5, sn5]; omega) (sg5 1) ⟨by omega, by omega⟩) ?_
        rintro v w11 ⟨rfl, hR11, k11⟩
        have zs_k11 := k11.size
        replace hw := hw.chg k11 (by first | (intro x h1 h2; exact h2) | (intro x h0 h1 h2; exact hS x h1 h2) | (intro x h0 h1 h2; have h3 : _ = _ := h2; subst h3; exact hSR h1.1) | (intro x h1 h2; have h3 : _ = _ := h2; subst h3; assumption) | (intro x h1 h2; have h3 : _ = _ := h2; exfalso; omega) | (intro b h1 h2 h3; have h4 : _ = _ := h3; (try dsimp only at h2); exfalso; omega) | (intro h1; have h2 : _ = _ := h1; exfalso; omega) | (intro h1; have h2 : _ ≤ _ := h1; exfalso; omega) | (intros; exfalso; (try dsimp only at *); omega) | (intro b h1 h2 h3; exfalso; have h4 := h3.2; (try dsimp only at *); omega) | (intro h1; exfalso; have h4 := h1.2; (try dsimp only at *); omega) | (intro x h1 h2; exfalso; have h4 := h2.2; (try dsimp only at *); omega) | (intro x h1 h2; exact ⟨_, rfl, h2⟩) | (intro x h1 h2; have h4 := h2.1; have h5 := h2.2; exfalso; omega) | (intro x h1 h2; exact h2.1) | (intro x h1 h2; rcases h2.1 with h3 | h3; exact h3; exfalso; omega) | (intro x h1 h2; rcases h2 with h3 | h3; exact h3; exfalso; omega))
        replace hg := hg.chg k11 (by first | (intro x h1 h2; exact h2) | (intro x h0 h1 h2; exact hS x h1 h2) | (intro x h0 h1 h2; have h3 : _ = _ := h2; subst h3; exact hSR h1.1) | (intro x h1 h2; have h3 : _ = _ := h2; subst h3; assumption) | (intro x h1 h2; have h3 : _ = _ := h2; exfalso; omega) | (intro b h1 h2 h3; have h4 : _ = _ := h3; (try dsimp only at h2); exfalso; omega) | (intro h1; have h2 : _ = _ := h1; exfalso; omega) | (intro h1; have h2 : _ ≤ _ := h1; exfalso; omega) | (intros; exfalso; (try dsimp only at *); omega) | (intro b h1 h2 h3; exfalso; have h4 := h3.2; (try dsimp only at *); omega) | (intro h1; exfalso; have h4 := h1.2; (try dsimp only at *); omega) | (intro x h1 h2; exfalso; have h4 := h2.2; (try dsimp only at *); omega) | (intro x h1 h2; exact ⟨_, rfl, h2⟩) | (intro x h1 h2; have h4 := h2.1; have h5 := h2.2; exfalso; omega) | (intro x h1 h2; exact h2.1) | (intro x h1 h2; rcases h2.1 with h3 | h3; exact h3; exfalso; omega) | (intro x h1 h2; rcases h2 with h3 | h3; exact h3; exfalso; omega))
        refine WL.assign rfl rfl (WL.nil (WX.then_normal (WC.seq (WC.region (WL.move rfl rfl (WL.move rfl rfl (?_)))))))
        refine WL.call eg_16 rfl rfl (ReadU hR11 (rotS_up us5 _ _) (by unfold inS; rw [rotS_dn, rotS_sn, sd5, sn5]; omega) (by rw [rotS_gone]; exact sg5 1)) ?_
        rintro v w12 ⟨⟨r3, rfl, hx3, hq3⟩, k12⟩
        rw [rotS_held, if_pos rfl, hA5, rotB_rotB hbl] at hx3
        have zs_k12 := k12.size
        replace hw := hw.pure k12
        replace hg := hg.pure k12
        replace hR11 := hR11.pure k12
        refine WL.move rfl rfl (WL.extract rfl rfl rfl (?_))
        refine WL.extract rfl rfl rfl ?_
        refine WL.assign rfl rfl (WL.assign rfl rfl (WL.nil (WX.then_normal (WC.seq (WC.region (WL.move rfl rfl (?_)))))))
        refine WL.eqlT rfl rfl rfl (by first | rfl | omega | decide) ?_
        refine WL.move rfl rfl (WL.want rfl rfl rfl (WL.move rfl rfl (WL.want rfl rfl rfl (?_))))
        refine WL.eqlT rfl rfl rfl (by first | rfl | omega | decide) ?_
        refine WL.pickT rfl rfl rfl (WL.move rfl rfl (WL.want rfl rfl rfl (WL.move rfl rfl (WL.want rfl rfl rfl (WL.toStr Try.underlying30 Try.underlying5 Try.underlying9 hq3 rfl rfl (WL.want rfl rfl rfl (WL.move rfl rfl (?_))))))))
        refine WL.want rfl rfl rfl (WL.toStr Try.underlying30 Try.underlying5 Try.underlying9 hg rfl rfl (WL.want rfl rfl rfl (?_)))
        refine WL.seqlT rfl rfl rfl ((by rw [hx3])) ?_
        refine WL.pickT rfl rfl rfl (WL.assign rfl rfl (WL.nil (WX.then_normal (WC.ret (?_)))))
        refine WX.ret1 (.inl rfl) Try.results5 rfl ?_
        exact ⟨_, rfl, rfl, hw⟩
  ·
    refine WL.pass rfl rfl rfl rfl (WL.pass rfl rfl rfl rfl (WL.pass rfl rfl rfl rfl (WL.want rfl rfl rfl (WL.pickF rfl rfl rfl (WL.pickF rfl rfl rfl (WL.move rfl rfl (WL.want rfl rfl rfl (?_))))))))
    refine WL.move rfl rfl (WL.want rfl rfl rfl (WL.move rfl rfl (WL.want rfl rfl rfl (WL.move rfl rfl (WL.want rfl rfl rfl (?_))))))
    have zw5 := hw.size
    refine WL.call eg_19 rfl rfl (RotU (n := (n : Int)) hR3 (fun x hx => by omega) (by unfold inS; rw [sd3, sn3]; omega) (sg3 1) ⟨by omega, by omega⟩) ?_
    rintro v w5 ⟨rfl, hR5, k5⟩
    have zs_k5 := k5.size
    replace hw := hw.chg k5 (by first | (intro x h1 h2; exact h2) | (intro x h0 h1 h2; exact hS x h1 h2) | (intro x h0 h1 h2; have h3 : _ = _ := h2; subst h3; exact hSR h1.1) | (intro x h1 h2; have h3 : _ = _ := h2; subst h3; assumption) | (intro x h1 h2; have h3 : _ = _ := h2; exfalso; omega) | (intro b h1 h2 h3; have h4 : _ = _ := h3; (try dsimp only at h2); exfalso; omega) | (intro h1; have h2 : _ = _ := h1; exfalso; omega) | (intro h1; have h2 : _ ≤ _ := h1; exfalso; omega) | (intros; exfalso; (try dsimp only at *); omega) | (intro b h1 h2 h3; exfalso; have h4 := h3.2; (try dsimp only at *); omega) | (intro h1; exfalso; have h4 := h1.2; (try dsimp only at *); omega) | (intro x h1 h2; exfalso; have h4 := h2.2; (try dsimp only at *); omega) | (intro x h1 h2; exact ⟨_, rfl, h2⟩) | (intro x h1 h2; have h4 := h2.1; have h5 := h2.2; exfalso; omega) | (intro x h1 h2; exact h2.1) | (intro x h1 h2; rcases h2.1 with h3 | h3; exact h3; exfalso; omega) | (intro x h1 h2; rcases h2 with h3 | h3; exact h3; exfalso; omega))
    replace hb_1 := hb_1.chg k5 (by first | (intro x h1 h2; exact h2) | (intro x h0 h1 h2; exact hS x h1 h2) | (intro x h0 h1 h2; have h3 : _ = _ := h2; subst h3; exact hSR h1.1) | (intro x h1 h2; have h3 : _ = _ := h2; subst h3; assumption) | (intro x h1 h2; have h3 : _ = _ := h2; exfalso; omega) | (intro b h1 h2 h3; have h4 : _ = _ := h3; (try dsimp only at h2); exfalso; omega) | (intro h1; have h2 : _ = _ := h1; exfalso; omega) | (intro h1; have h2 : _ ≤ _ := h1; exfalso; omega) | (intros; exfalso; (try dsimp only at *); omega) | (intro b h1 h2 h3; exfalso; have h4 := h3.2; (try dsimp only at *); omega) | (intro h1; exfalso; have h4 := h1.2; (try dsimp only at *); omega) | (intro x h1 h2; exfalso; have h4 := h2.2; (try dsimp only at *); omega) | (intro x h1 h2; exact ⟨_, rfl, h2⟩) | (intro x h1 h2; have h4 := h2.1; have h5 := h2.2; exfalso; omega) | (intro x h1 h2; exact h2.1) | (intro x h1 h2; rcases h2.1 with h3 | h3; exact h3; exfalso; omega) | (intro x h1 h2; rcases h2 with h3 | h3; exact h3; exfalso; omega))
    obtain ⟨s5, us5, sd5, sn5, sg5, hA5, hC5, hR5'⟩ : ∃ s5 : RA, Up s5 ∧ s5.dn = 2 ∧ s5.sn = 6 ∧ (∀ d, goneS s5 d = false) ∧ heldS s5 (1, (k : Int)) = rotB (B x.fill) n ∧ heldS s5 (0, (k : Int)) = zeros ∧ RK (fun x => N ≤ x) w5 R s5 :=
      ⟨_, rotS_up us _ _, by rw [rotS_dn, sd3], by rw [rotS_sn, sn3], fun d => by rw [rotS_gone, sg3], by rw [rotS_held, if_pos rfl, hA], by rw [rotS_held, if_neg (fun e => by injection e with e; omega), hC], hR5⟩
    clear hR5
    have hR5 := hR5'
    clear hR5'
    refine WL.want rfl rfl rfl (?_)
    refine WL.neqF rfl rfl rfl (by first | rfl | omega | decide) ?_
    refine WL.pickF rfl rfl rfl (WL.nil (WX.then_normal (WC.cond_false rfl (WC.skip (WX.then_normal (WC.seq (WC.region (?_))))))))
    refine WL.move rfl rfl (WL.move rfl rfl (?_))
    refine WL.call eg_16 rfl rfl (ReadU hR5 us5 (by unfold inS; rw [sd5, sn5]; omega) (sg5 1)) ?_
    rintro v w6 ⟨⟨⟨ao1, cp1, xs1⟩, rfl, hx1, hq1⟩, k6⟩
    simp only at hx1 hq1
    rw [hA5] at hx1
    subst hx1
    have zs_k6 := k6.size
    replace hw := hw.pure k6
    replace hb_1 := hb_1.pure k6
    replace hR5 := hR5.pure k6
    refine WL.move rfl rfl (WL.extract rfl rfl rfl (?_))
    refine WL.extract rfl rfl rfl ?_
    refine WL.assign rfl rfl (WL.assign rfl rfl (WL.nil (WX.then_normal (WC.seq (WC.region (WL.move rfl rfl (WL.move rfl rfl (?_))))))))
    refine WL.call eg_16 rfl rfl (ReadU hR5 us5 (by unfold inS; rw [sd5, sn5]; omega) (sg5 0)) ?_
    rintro v w7 ⟨⟨⟨ao2, cp2, xs2⟩, rfl, hx2, hq2⟩, k7⟩
    simp only at hx2 hq2
    rw [hC5] at hx2
    subst hx2
    have zs_k7 := k7.size
    replace hw := hw.pure k7
    replace hb_1 := hb_1.pure k7
    replace hR5 := hR5.pure k7
    replace hq1 := hq1.pure k7
    refine WL.move rfl rfl (WL.extract rfl rfl rfl (?_))
    refine WL.extract rfl rfl rfl ?_
    refine WL.assign rfl rfl (WL.assign rfl rfl (WL.nil (WX.then_normal (WC.seq (WC.region (WL.fieldAddr (fld_40_0) rfl rfl (WL.loadB Try.isAgg3 hb_1 rfl rfl rfl (?_))))))))
    replace hR5 := hR5.old
    have zw8 := hw.size
    refine WL.call eg_14 rfl rfl (hBc x.fill _) ?_
    rintro v w8 ⟨⟨gw, rfl, hg, hgw1, hgw2⟩, k8⟩
    have zs_k8 := k8.size
    replace hw := hw.pure k8
    replace hb_1 := hb_1.pure k8
    replace hR5 := hR5.pure k8
    replace hq1 := hq1.pure k8
    replace hq2 := hq2.pure k8
    replace hR5 := hR5.mono (A' := fun x => N ≤ x ∧ x ≠ gw) (fun x hx => ⟨hx.1, by omega⟩)
    have hg' := hg.rsl
    refine WL.assign rfl rfl (WL.nil (WX.then_normal (WC.seq (WC.region (WL.assign rfl rfl (WL.nil (WX.then_normal (?_))))))))
    refine WC.seq (WC.seq (WC.region (WL.assign rfl rfl (WL.nil (WX.then_normal (WC.block (?_)))))))
    have hNg : N ≤ gw := by have := k5.size; omega
    refine WC.loop (σ := Nat) (fun i => [(3, ptr R), (4, vi 0), (5, vi (k : Int)), (6, vi (n : Int)), (7, .slice ao1 (rotB (B x.fill) n).length cp1), (8, .slice ao2 zeros.length cp2), (9, vi 0), (10, .slice (some ⟨gw, 0, none⟩) (B x.fill).length 128), (11, vi (if q < i then 1 else 0)), (12, vi (i : Int))]) (fun i w' => i ≤ 128 ∧ Chg Nob w w' ∧ RK (fun x => N ≤ x ∧ x ≠ gw) w' R s5 ∧ RSl (fun x => x < w6.heap.size) w' eb ao1 cp1 (rotB (B x.fill) n) ∧ RSl (fun x => x < w7.heap.size) w' eb ao2 cp2 zeros ∧ RSl (· = gw) w' eb (some ⟨gw, 0, none⟩) 128 (B x.fill) ∧ w8.heap.size ≤ w'.heap.size) (fun i => 128 - i) 0 ⟨rfl, rfl, rfl, rfl, rfl, rfl, rfl, rfl, rfl, rfl, trivial⟩ ⟨by omega, hw, hR5, hq1, hq2, hg', Nat.le_refl _⟩ ?_
    clear hw hR5 hq1 hq2 hg' hg
    rintro i w1 ⟨hi, hw, hR, hq1, hq2, hg, zl⟩
    have hbl := hBl x.fill
    have hrl : (rotB (B x.fill) n).length = 128 := by rw [rotB_len, hbl]
    refine WC.seq (WC.seq (WC.region (WL.move rfl rfl (WL.move rfl rfl (WL.len Try.underlying30 rfl rfl (?_))))))
    refine WL.lss? rfl rfl rfl (fun h78 => ?_) (fun h78 => ?_)
    ·
      refine WL.move rfl rfl (WL.want rfl rfl rfl (WL.move rfl rfl (WL.want rfl rfl rfl (WL.move rfl rfl (WL.want rfl rfl rfl (WL.len Try.underlying30 rfl rfl (WL.want rfl rfl rfl (?_))))))))
      refine WL.lss? rfl rfl rfl (fun h83 => ?_) (fun h83 => ?_)
      ·
        refine WL.pickT rfl rfl rfl (WL.nil (WX.then_normal (WC.cond_true rfl (WC.skip (WX.then_normal (WC.seq (WC.block (?_))))))))
        refine WC.seq (?_)
        obtain ⟨y, hy⟩ : ∃ y, (rotB (B x.fill) n)[i]? = some y := ⟨_, List.getElem?_eq_getElem (by omega)⟩
        obtain ⟨z, hz⟩ : ∃ z, (B x.fill)[i]? = some z := ⟨_, List.getElem?_eq_getElem (by omega)⟩
        obtain ⟨b1, o1, rfl⟩ := hq1.place hy
        have hrot := rotB_at (n := (n : Int)) (by omega) hbl hy hz
        refine WC.draw (Nob) [0, 1, 2, 3, 4, 5, 6, 7, 8] [] mixed rfl rfl (fun wd_2 kd_2 zd_2 => ?_)
        have zs_kd_2 := kd_2.size
        replace hw := hw.pure kd_2
        replace hR := hR.pure kd_2
        replace hq1 := hq1.pure kd_2
        replace hq2 := hq2.pure kd_2
        replace hg := hg.pure kd_2
        apply DQ.step (E' := [(7, _)])
        case ho => rfl
        case hs => exact ⟨rfl, trivial⟩
        case hk => rfl
        case h1 =>
          intro wq_3 kq_3
          refine WL.move rfl rfl (?_)
          refine WL.nil ?_
          exact WX.one ⟨rfl, by first | exact Chg.refl _ _ | assumption⟩
        apply DQ.step (E' := [(12, _)])
        case ho => rfl
        case hs => exact ⟨rfl, trivial⟩
        case hk => rfl
        case h1 =>
          intro wq_4 kq_4
          refine WL.move rfl rfl (?_)
          refine WL.nil ?_
          exact WX.one ⟨rfl, by first | exact Chg.refl _ _ | assumption⟩
        apply DQ.step (E' := [(87, _), (88, _)])
        case ho => rfl
        case hs => exact ⟨rfl, rfl, trivial⟩
        case hk => rfl
        case h1 =>
          intro wq_5 kq_5
          have zs_kq_5 := kq_5.size
          replace hw := hw.pure kq_5
          replace hR := hR.pure kq_5
          replace hq1 := hq1.pure kq_5
          replace hq2 := hq2.pure kq_5
          replace hg := hg.pure kq_5
          refine WL.indexC hq1 Try.underlying30 Try.sizeOf5 rfl rfl ⟨hy, rfl⟩ rfl ?_
          refine WL.nil ?_
          exact WX.one ⟨rfl, by first | exact Chg.refl _ _ | assumption⟩
        apply DQ.step (E' := [(89, _)])
        case ho => rfl
        case hs => exact ⟨rfl, trivial⟩
        case hk => rfl
        case h1 =>
          intro wq_6 kq_6
          have zs_kq_6 := kq_6.size
          replace hw := hw.pure kq_6
          replace hR := hR.pure kq_6
          replace hq1 := hq1.pure kq_6
          replace hq2 := hq2.pure kq_6
          replace hg := hg.pure kq_6
          refine WL.load Try.isAgg5 rfl ((hq1.cellsAt hy) 0 _ rfl) rfl (?_)
          refine WL.nil ?_
          exact WX.one ⟨rfl, by first | exact Chg.refl _ _ | assumption⟩
        apply DQ.step (E' := [(10, _)])
        case ho => rfl
        case hs => exact ⟨rfl, trivial⟩
        case hk => rfl
        case h1 =>
          intro wq_7 kq_7
          refine WL.move rfl rfl (?_)
          refine WL.nil ?_
          exact WX.one ⟨rfl, by first | exact Chg.refl _ _ | assumption⟩
        apply DQ.step (E' := [(12, _)])
        case ho => rfl
        case hs => exact ⟨rfl, trivial⟩
        case hk => rfl
        case h1 =>
          intro wq_8 kq_8
          refine WL.move rfl rfl (?_)
          refine WL.nil ?_
          exact WX.one ⟨rfl, by first | exact Chg.refl _ _ | assumption⟩
        apply DQ.step (E' := [(91, _), (92, _)])
        case ho => rfl
        case hs => exact ⟨rfl, rfl, trivial⟩
        case hk => rfl
        case h1 =>
          intro wq_9 kq_9
          have zs_kq_9 := kq_9.size
          replace hw := hw.pure kq_9
          replace hR := hR.pure kq_9
          replace hq1 := hq1.pure kq_9
          replace hq2 := hq2.pure kq_9
          replace hg := hg.pure kq_9
          refine WL.indexC hg Try.underlying30 Try.sizeOf5 rfl rfl ⟨hz, rfl⟩ rfl ?_
          refine WL.nil ?_
          exact WX.one ⟨rfl, by first | exact Chg.refl _ _ | assumption⟩
        apply DQ.step (E' := [(93, _)])
        case ho => rfl
        case hs => exact ⟨rfl, trivial⟩
        case hk => rfl
        case h1 =>
          intro wq_10 kq_10
          have zs_kq_10 := kq_10.size
          replace hw := hw.pure kq_10
          replace hR := hR.pure kq_10
          replace hq1 := hq1.pure kq_10
          replace hq2 := hq2.pure kq_10
          replace hg := hg.pure kq_10
          refine WL.load Try.isAgg5 rfl ((hg.cellsAt hz) 0 _ rfl) rfl (?_)
          refine WL.nil ?_
          exact WX.one ⟨rfl, by first | exact Chg.refl _ _ | assumption⟩
        apply DQ.split (E' := [(90, _), (94, _)])
        case ho => rfl
        case hs => exact ⟨rfl, rfl, trivial⟩
        case hk => rfl
        case h1 =>
          intro wq_11 kq_11
          refine WL.neq rfl rfl rfl ?_
          refine WL.nil ?_
          exact WX.one ⟨rfl, by first | exact Chg.refl _ _ | assumption⟩
        case ht =>
          intro h95
          replace h95 := of_decide_eq_true h95
          refine DQ.done (fun _ => ?_)
          refine DL.done (fun we_12 ke_12 => ?_)
          have zs_ke_12 := ke_12.size
          replace hw := hw.pure ke_12
          replace hR := hR.pure ke_12
          replace hq1 := hq1.pure ke_12
          replace hq2 := hq2.pure ke_12
          replace hg := hg.pure ke_12
          refine WX.then_normal (WC.cond_true rfl (WC.region (WL.move rfl rfl (?_))))
          refine WL.add64 rfl rfl (by split <;> omega) rfl ?_
          refine WL.assign rfl rfl (WL.nil (WX.block_normal (WX.then_normal (WC.region (WL.move rfl rfl (WL.add64 rfl rfl (by first | omega | (constructor <;> omega)) rfl (WL.assign rfl rfl (?_))))))))
          refine WL.nil (?_)
          first
            | (have hne : (y.toNat : Int) ≠ (z.toNat : Int) := h95
               have hiq : i = q := by
                 rcases Nat.decEq i q with h1 | h1
                 ·
                   exfalso
                   rw [hq] at h1
                   exact hne (by rw [hrot.2 h1])
                 ·
                   exact h1
               refine WX.loop_next (i + 1) ⟨rfl, rfl, rfl, rfl, rfl, rfl, rfl, rfl, ?_, rfl, trivial⟩ ⟨by omega, hw, hR, hq1, hq2, hg, by omega⟩ (by omega)
               rw [if_pos (show q < i + 1 by omega)]
               show some (vi ((if q < i then (1 : Int) else 0) + 1)) = _
               rw [if_neg (by omega)]
               rfl)
            | (have hne : (y.toNat : Int) = (z.toNat : Int) := by simpa using h95
               have hiq : i ≠ q := by
                 rw [hq]
                 exact hrot.1 (UInt8.toNat_inj.1 (by omega))
               refine WX.loop_next (i + 1) ⟨rfl, rfl, rfl, rfl, rfl, rfl, rfl, rfl, ?_, rfl, trivial⟩ ⟨by omega, hw, hR, hq1, hq2, hg, by omega⟩ (by omega)
               show some (vi (if q < i then (1 : Int) else 0)) = some (vi (if q < i + 1 then (1 : Int) else 0))
               by_cases h1 : q < i
               ·
                 rw [if_pos h1, if_pos (by omega)]
               ·
                 rw [if_neg h1, if_neg (by omega)])
        case hf =>
          intro h95
          replace h95 := of_decide_eq_false h95
          refine DQ.done (fun _ => ?_)
          refine DL.done (fun we_12 ke_12 => ?_)
          have zs_ke_12 := ke_12.size
          replace hw := hw.pure ke_12
          replace hR := hR.pure ke_12
          replace hq1 := hq1.pure ke_12
          replace hq2 := hq2.pure ke_12
          replace hg := hg.pure ke_12
          refine WX.then_normal (WC.cond_false rfl (WC.skip (WX.block_normal (WX.then_normal (WC.region (WL.move rfl rfl (WL.add64 rfl rfl (by first | omega | (constructor <;> omega)) rfl (?_))))))))
          refine WL.assign rfl rfl (WL.nil (?_))
          first
            | (have hne : (y.toNat : Int) ≠ (z.toNat : Int) := h95
               have hiq : i = q := by
                 rcases Nat.decEq i q with h1 | h1
                 ·
                   exfalso
                   rw [hq] at h1
                   exact hne (by rw [hrot.2 h1])
                 ·
                   exact h1
               refine WX.loop_next (i + 1) ⟨rfl, rfl, rfl, rfl, rfl, rfl, rfl, rfl, ?_, rfl, trivial⟩ ⟨by omega, hw, hR, hq1, hq2, hg, by omega⟩ (by omega)
               rw [if_pos (show q < i + 1 by omega)]
               show some (vi ((if q < i then (1 : Int) else 0) + 1)) = _
               rw [if_neg (by omega)]
               rfl)
            | (have hne : (y.toNat : Int) = (z.toNat : Int) := by simpa using h95
               have hiq : i ≠ q := by
                 rw [hq]
                 exact hrot.1 (UInt8.toNat_inj.1 (by omega))
               refine WX.loop_next (i + 1) ⟨rfl, rfl, rfl, rfl, rfl, rfl, rfl, rfl, ?_, rfl, trivial⟩ ⟨by omega, hw, hR, hq1, hq2, hg, by omega⟩ (by omega)
               show some (vi (if q < i then (1 : Int) else 0)) = some (vi (if q < i + 1 then (1 : Int) else 0))
               by_cases h1 : q < i
               ·
                 rw [if_pos h1, if_pos (by omega)]
               ·
                 rw [if_neg h1, if_neg (by omega)])
      ·
        refine WL.pickT rfl rfl rfl (WL.nil (WX.then_normal (WC.cond_false rfl (WC.exit (WX.then_exit (WX.then_exit (WX.block_here (?_))))))))
        refine WX.then_normal (WC.seq (WC.seq (?_)))
        have hil : i = 128 := by omega
        have hql : q < 128 := by omega
        subst hil
        rw [if_pos hql]
        have zw9 := hw.size
        refine WC.drawM ((fun x => N ≤ x ∧ x ≠ gw)) [0, 1, 2, 3, 4, 5, 6, 7, 8, 9, 10, 11, 12, 13, 14, 15, 16] [17, 18, 19, 20, 21, 22, 23, 24, 25, 26, 27] mixed rfl rfl (fun wd_2 kd_2 zd_2 => ?_)
        have zs_kd_2 := kd_2.size
        replace hw := hw.pure kd_2
        replace hR := hR.pure kd_2
        replace hq1 := hq1.pure kd_2
        replace hq2 := hq2.pure kd_2
        replace hg := hg.pure kd_2
        apply DQT.step (E' := [(4, _)])
        case ho => rfl
        case hs => exact ⟨rfl, trivial⟩
        case hk => rfl
        case h1 =>
          intro wq_4 kq_4
          refine WL.move rfl rfl (?_)
          refine WL.nil ?_
          exact WX.one ⟨rfl, by first | exact Chg.refl _ _ | assumption⟩
        apply DQT.step (E' := [(98, _)])
        case ho => rfl
        case hs => exact ⟨rfl, trivial⟩
        case hk => rfl
        case h1 =>
          intro wq_5 kq_5
          refine WL.neqF rfl rfl rfl (by first | rfl | omega | decide) ?_
          refine WL.nil ?_
          exact WX.one ⟨rfl, by first | exact Chg.refl _ _ | assumption⟩
        apply DQT.step (E' := [(99, _)])
        case ho => rfl
        case hs => exact ⟨rfl, trivial⟩
        case hk => rfl
        case h1 =>
          intro wq_6 kq_6
          refine WL.move rfl rfl (?_)
          refine WL.nil ?_
          exact WX.one ⟨rfl, by first | exact Chg.refl _ _ | assumption⟩
        apply DQT.step (E' := [(9, _), (100, _)])
        case ho => rfl
        case hs => exact ⟨rfl, rfl, trivial⟩
        case hk => rfl
        case h1 =>
          intro wq_7 kq_7
          refine WL.want rfl rfl rfl (WL.move rfl rfl (?_))
          refine WL.nil ?_
          exact WX.one ⟨rfl, by first | exact Chg.refl _ _ | assumption⟩
        apply DQT.step (E' := [(101, _), (100, _)])
        case ho => rfl
        case hs => exact ⟨rfl, rfl, trivial⟩
        case hk => rfl
        case h1 =>
          intro wq_8 kq_8
          refine WL.want rfl rfl rfl (?_)
          refine WL.neqF rfl rfl rfl (by first | rfl | omega | decide) ?_
          refine WL.nil ?_
          exact WX.one ⟨rfl, by first | exact Chg.refl _ _ | assumption⟩
        apply DQT.step (E' := [(100, _), (102, _)])
        case ho => rfl
        case hs => exact ⟨rfl, rfl, trivial⟩
        case hk => rfl
        case h1 =>
          intro wq_9 kq_9
          refine WL.pickF rfl rfl rfl (?_)
          refine WL.nil ?_
          exact WX.one ⟨rfl, by first | exact Chg.refl _ _ | assumption⟩
        apply DQT.step (E' := [(103, _)])
        case ho => rfl
        case hs => exact ⟨rfl, trivial⟩
        case hk => rfl
        case h1 =>
          intro wq_10 kq_10
          refine WL.move rfl rfl (?_)
          refine WL.nil ?_
          exact WX.one ⟨rfl, by first | exact Chg.refl _ _ | assumption⟩
        apply DQT.step (E' := [(7, _), (104, _)])
        case ho => rfl
        case hs => exact ⟨rfl, rfl, trivial⟩
        case hk => rfl
        case h1 =>
          intro wq_11 kq_11
          refine WL.want rfl rfl rfl (WL.move rfl rfl (?_))
          refine WL.nil ?_
          exact WX.one ⟨rfl, by first | exact Chg.refl _ _ | assumption⟩
        apply DQT.step (E' := [(105, _), (104, _)])
        case ho => rfl
        case hs => exact ⟨rfl, rfl, trivial⟩
        case hk => rfl
        case h1 =>
          intro wq_12 kq_12
          have zs_kq_12 := kq_12.size
          refine WL.want rfl rfl rfl (WL.len Try.underlying30 rfl rfl (?_))
          refine WL.nil ?_
          exact WX.one ⟨rfl, by first | exact Chg.refl _ _ | assumption⟩
        apply DQT.step (E' := [(106, _), (104, _)])
        case ho => rfl
        case hs => exact ⟨rfl, rfl, trivial⟩
        case hk => rfl
        case h1 =>
          intro wq_13 kq_13
          refine WL.want rfl rfl rfl (?_)
          refine WL.neqF rfl rfl rfl ((by show ((rotB (B x.fill) n).length : Int) = 128; omega)) ?_
          refine WL.nil ?_
          exact WX.one ⟨rfl, by first | exact Chg.refl _ _ | assumption⟩
        apply DQT.step (E' := [(104, _), (107, _)])
        case ho => rfl
        case hs => exact ⟨rfl, rfl, trivial⟩
        case hk => rfl
        case h1 =>
          intro wq_14 kq_14
          refine WL.pickF rfl rfl rfl (?_)
          refine WL.nil ?_
          exact WX.one ⟨rfl, by first | exact Chg.refl _ _ | assumption⟩
        apply DQT.step (E' := [(108, _)])
        case ho => rfl
        case hs => exact ⟨rfl, trivial⟩
        case hk => rfl
        case h1 =>
          intro wq_15 kq_15
          refine WL.move rfl rfl (?_)
          refine WL.nil ?_
          exact WX.one ⟨rfl, by first | exact Chg.refl _ _ | assumption⟩
        apply DQT.step (E' := [(11, _), (109, _)])
        case ho => rfl
        case hs => exact ⟨rfl, rfl, trivial⟩
        case hk => rfl
        case h1 =>
          intro wq_16 kq_16
          refine WL.want rfl rfl rfl (WL.move rfl rfl (?_))
          refine WL.nil ?_
          exact WX.one ⟨rfl, by first | exact Chg.refl _ _ | assumption⟩
        apply DQT.step (E' := [(110, _), (109, _)])
        case ho => rfl
        case hs => exact ⟨rfl, rfl, trivial⟩
        case hk => rfl
        case h1 =>
          intro wq_17 kq_17
          refine WL.want rfl rfl rfl (?_)
          refine WL.neqF rfl rfl rfl (by first | rfl | omega | decide) ?_
          refine WL.nil ?_
          exact WX.one ⟨rfl, by first | exact Chg.refl _ _ | assumption⟩
        apply DQT.step (E' := [(109, _), (111, _)])
        case ho => rfl
        case hs => exact ⟨rfl, rfl, trivial⟩
        case hk => rfl
        case h1 =>
          intro wq_18 kq_18
          refine WL.pickF rfl rfl rfl (?_)
          refine WL.nil ?_
          exact WX.one ⟨rfl, by first | exact Chg.refl _ _ | assumption⟩
        apply DQT.step (E' := [(112, _)])
        case ho => rfl
        case hs => exact ⟨rfl, trivial⟩
        case hk => rfl
        case h1 =>
          intro wq_19 kq_19
          refine WL.move rfl rfl (?_)
          refine WL.nil ?_
          exact WX.one ⟨rfl, by first | exact Chg.refl _ _ | assumption⟩
        apply DQT.step (E' := [(8, _), (113, _)])
        case ho => rfl
        case hs => exact ⟨rfl, rfl, trivial⟩
        case hk => rfl
        case h1 =>
          intro wq_20 kq_20
          refine WL.want rfl rfl rfl (WL.move rfl rfl (?_))
          refine WL.nil ?_
          exact WX.one ⟨rfl, by first | exact Chg.refl _ _ | assumption⟩
        refine DQT.done (fun hd_3 => ?_)
        refine ⟨?_, ?_, trivial, trivial, trivial, trivial, trivial, trivial, trivial, trivial, trivial, trivial⟩
        refine DT.step [(114, _), (113, _)] rfl ⟨rfl, rfl, trivial⟩ rfl (fun wq_21 kq_21 => ?_)
        have zs_kq_21 := kq_21.size
        replace hw := hw.pure kq_21
        replace hR := hR.pure kq_21
        replace hq1 := hq1.pure kq_21
        replace hq2 := hq2.pure kq_21
        replace hg := hg.pure kq_21
        replace hd_3 := hd_3.pure kq_21
        refine WL.want rfl rfl rfl (WL.toStr Try.underlying30 Try.underlying5 Try.underlying9 hq2 rfl rfl (?_))
        refine WL.nil ?_
        refine WX.one ⟨hd_3, ?_⟩
        refine ⟨?_, trivial, trivial, trivial, trivial, trivial, trivial, trivial, trivial, trivial, trivial⟩
        refine DT.step [(113, _)] rfl ⟨rfl, trivial⟩ rfl (fun wq_22 kq_22 => ?_)
        have zs_kq_22 := kq_22.size
        replace hw := hw.pure kq_22
        replace hR := hR.pure kq_22
        replace hq1 := hq1.pure kq_22
        replace hq2 := hq2.pure kq_22
        replace hg := hg.pure kq_22
        replace hd_3 := hd_3.pure kq_22
        refine WL.want rfl rfl rfl (?_)
        refine WL.make (e := eb) (0 : UInt8) 128 128 Try.underlying30 info_5 rfl rfl rfl ⟨rfl, rfl, Nat.le_refl _⟩ (by decide) rfl ?_
        intro g9 w9 hm k9 z9 eg9
        have zs_k9 := k9.size
        replace hw := hw.pure k9
        replace hR := hR.pure k9
        replace hq1 := hq1.pure k9
        replace hq2 := hq2.pure k9
        replace hg := hg.pure k9
        replace hd_3 := hd_3.pure k9
        refine WL.nil ?_
        refine WX.one ⟨hd_3, ?_⟩
        refine ⟨?_, trivial, trivial, trivial, trivial, trivial, trivial, trivial, trivial, trivial⟩
        refine DT.step [(116, _), (113, _)] rfl ⟨rfl, rfl, trivial⟩ rfl (fun wq_23 kq_23 => ?_)
        have zs_kq_23 := kq_23.size
        replace hw := hw.pure kq_23
        replace hR := hR.pure kq_23
        replace hq1 := hq1.pure kq_23
        replace hq2 := hq2.pure kq_23
        replace hg := hg.pure kq_23
        replace hd_3 := hd_3.pure kq_23
        replace hm := hm.pure kq_23
        refine WL.want rfl rfl rfl (WL.toStr Try.underlying30 Try.underlying5 Try.underlying9 hm.rsl rfl rfl (?_))
        refine WL.nil ?_
        refine WX.one ⟨hd_3, ?_⟩
        refine ⟨?_, trivial, trivial, trivial, trivial, trivial, trivial, trivial, trivial⟩
        refine DT.step [(115, _), (117, _), (113, _)] rfl ⟨rfl, rfl, rfl, trivial⟩ rfl (fun wq_24 kq_24 => ?_)
        have zs_kq_24 := kq_24.size
        replace hw := hw.pure kq_24
        replace hR := hR.pure kq_24
        replace hq1 := hq1.pure kq_24
        replace hq2 := hq2.pure kq_24
        replace hg := hg.pure kq_24
        replace hd_3 := hd_3.pure kq_24
        replace hm := hm.pure kq_24
        refine WL.want rfl rfl rfl (?_)
        refine WL.sneqF rfl rfl rfl ((by rfl)) ?_
        refine WL.nil ?_
        refine WX.one ⟨hd_3, ?_⟩
        refine ⟨?_, trivial, trivial, trivial, trivial, trivial, trivial, trivial⟩
        refine DT.step [(113, _), (118, _)] rfl ⟨rfl, rfl, trivial⟩ rfl (fun wq_25 kq_25 => ?_)
        have zs_kq_25 := kq_25.size
        replace hw := hw.pure kq_25
        replace hR := hR.pure kq_25
        replace hq1 := hq1.pure kq_25
        replace hq2 := hq2.pure kq_25
        replace hg := hg.pure kq_25
        replace hd_3 := hd_3.pure kq_25
        replace hm := hm.pure kq_25
        refine WL.pickF rfl rfl rfl (?_)
        refine WL.nil ?_
        refine WX.one ⟨hd_3, ?_⟩
        refine ⟨?_, trivial, trivial, trivial, trivial, trivial, trivial⟩
        refine DT.step [(119, _)] rfl ⟨rfl, trivial⟩ rfl (fun wq_26 kq_26 => ?_)
        have zs_kq_26 := kq_26.size
        replace hw := hw.pure kq_26
        replace hR := hR.pure kq_26
        replace hq1 := hq1.pure kq_26
        replace hq2 := hq2.pure kq_26
        replace hg := hg.pure kq_26
        replace hd_3 := hd_3.pure kq_26
        replace hm := hm.pure kq_26
        refine WL.move rfl rfl (?_)
        refine WL.nil ?_
        refine WX.one ⟨hd_3, ?_⟩
        refine ⟨?_, ?_, trivial, trivial, trivial, trivial⟩
        refine DT.step [(3, _), (120, _)] rfl ⟨rfl, rfl, trivial⟩ rfl (fun wq_27 kq_27 => ?_)
        have zs_kq_27 := kq_27.size
        replace hw := hw.pure kq_27
        replace hR := hR.pure kq_27
        replace hq1 := hq1.pure kq_27
        replace hq2 := hq2.pure kq_27
        replace hg := hg.pure kq_27
        replace hd_3 := hd_3.pure kq_27
        replace hm := hm.pure kq_27
        refine WL.want rfl rfl rfl (WL.move rfl rfl (?_))
        refine WL.nil ?_
        refine WX.one ⟨hd_3, ?_⟩
        refine ⟨?_, trivial, trivial, trivial, trivial⟩
        refine DT.step [(5, _), (120, _)] rfl ⟨rfl, rfl, trivial⟩ rfl (fun wq_28 kq_28 => ?_)
        have zs_kq_28 := kq_28.size
        replace hw := hw.pure kq_28
        replace hR := hR.pure kq_28
        replace hq1 := hq1.pure kq_28
        replace hq2 := hq2.pure kq_28
        replace hg := hg.pure kq_28
        replace hd_3 := hd_3.pure kq_28
        replace hm := hm.pure kq_28
        refine WL.want rfl rfl rfl (WL.move rfl rfl (?_))
        refine WL.nil ?_
        refine WX.one ⟨hd_3, ?_⟩
        refine ⟨?_, trivial, trivial, trivial⟩
        refine DT.step [(121, _), (122, _), (120, _)] rfl ⟨rfl, rfl, rfl, trivial⟩ rfl (fun wq_29 kq_29 => ?_)
        have zs_kq_29 := kq_29.size
        replace hw := hw.pure kq_29
        replace hR := hR.pure kq_29
        replace hq1 := hq1.pure kq_29
        replace hq2 := hq2.pure kq_29
        replace hg := hg.pure kq_29
        replace hd_3 := hd_3.pure kq_29
        replace hm := hm.pure kq_29
        refine WL.want rfl rfl rfl (?_)
        refine WL.call eg_19 rfl rfl (RotN (n := -1) (d := 1) (a := (k : Int)) hR (fun x hx => by omega) (by omega)) ?_
        rintro v w10 ⟨rfl, hR10, k10⟩
        have zs_k10 := k10.size
        replace hw := hw.chg k10 (by first | (intro x h1 h2; exact h2) | (intro x h0 h1 h2; exact hS x h1 h2) | (intro x h0 h1 h2; have h3 : _ = _ := h2; subst h3; exact hSR h1.1) | (intro x h1 h2; have h3 : _ = _ := h2; subst h3; assumption) | (intro x h1 h2; have h3 : _ = _ := h2; exfalso; omega) | (intro b h1 h2 h3; have h4 : _ = _ := h3; (try dsimp only at h2); exfalso; omega) | (intro h1; have h2 : _ = _ := h1; exfalso; omega) | (intro h1; have h2 : _ ≤ _ := h1; exfalso; omega) | (intros; exfalso; (try dsimp only at *); omega) | (intro b h1 h2 h3; exfalso; have h4 := h3.2; (try dsimp only at *); omega) | (intro h1; exfalso; have h4 := h1.2; (try dsimp only at *); omega) | (intro x h1 h2; exfalso; have h4 := h2.2; (try dsimp only at *); omega) | (intro x h1 h2; exact ⟨_, rfl, h2⟩) | (intro x h1 h2; have h4 := h2.1; have h5 := h2.2; exfalso; omega) | (intro x h1 h2; exact h2.1) | (intro x h1 h2; rcases h2.1 with h3 | h3; exact h3; exfalso; omega) | (intro x h1 h2; rcases h2 with h3 | h3; exact h3; exfalso; omega))
        replace hg := hg.chg k10 (by first | (intro x h1 h2; exact h2) | (intro x h0 h1 h2; exact hS x h1 h2) | (intro x h0 h1 h2; have h3 : _ = _ := h2; subst h3; exact hSR h1.1) | (intro x h1 h2; have h3 : _ = _ := h2; subst h3; assumption) | (intro x h1 h2; have h3 : _ = _ := h2; exfalso; omega) | (intro b h1 h2 h3; have h4 : _ = _ := h3; (try dsimp only at h2); exfalso; omega) | (intro h1; have h2 : _ = _ := h1; exfalso; omega) | (intro h1; have h2 : _ ≤ _ := h1; exfalso; omega) | (intros; exfalso; (try dsimp only at *); omega) | (intro b h1 h2 h3; exfalso; have h4 := h3.2; (try dsimp only at *); omega) | (intro h1; exfalso; have h4 := h1.2; (try dsimp only at *); omega) | (intro x h1 h2; exfalso; have h4 := h2.2; (try dsimp only at *); omega) | (intro x h1 h2; exact ⟨_, rfl, h2⟩) | (intro x h1 h2; have h4 := h2.1; have h5 := h2.2; exfalso; omega) | (intro x h1 h2; exact h2.1) | (intro x h1 h2; rcases h2.1 with h3 | h3; exact h3; exfalso; omega) | (intro x h1 h2; rcases h2 with h3 | h3; exact h3; exfalso; omega))
        replace hd_3 := hd_3.chg k10 (by first | (intro x h1 h2; exact h2) | (intro x h0 h1 h2; exact hS x h1 h2) | (intro x h0 h1 h2; have h3 : _ = _ := h2; subst h3; exact hSR h1.1) | (intro x h1 h2; have h3 : _ = _ := h2; subst h3; assumption) | (intro x h1 h2; have h3 : _ = _ := h2; exfalso; omega) | (intro b h1 h2 h3; have h4 : _ = _ := h3; (try dsimp only at h2); exfalso; omega) | (intro h1; have h2 : _ = _ := h1; exfalso; omega) | (intro h1; have h2 : _ ≤ _ := h1; exfalso; omega) | (intros; exfalso; (try dsimp only at *); omega) | (intro b h1 h2 h3; exfalso; have h4 := h3.2; (try dsimp only at *); omega) | (intro h1; exfalso; have h4 := h1.2; (try dsimp only at *); omega) | (intro x h1 h2; exfalso; have h4 := h2.2; (try dsimp only at *); omega) | (intro x h1 h2; exact ⟨_, rfl, h2⟩) | (intro x h1 h2; have h4 := h2.1; have h5 := h2.2; exfalso; omega) | (intro x h1 h2; exact h2.1) | (intro x h1 h2; rcases h2.1 with h3 | h3; exact h3; exfalso; omega) | (intro x h1 h2; rcases h2 with h3 | h3; exact h3; exfalso; omega))
        refine WL.nil ?_
        refine WX.one ⟨hd_3, ?_⟩
        refine ⟨?_, trivial, trivial⟩
        refine DT.step [(123, _), (120, _)] rfl ⟨rfl, rfl, trivial⟩ rfl (fun wq_30 kq_30 => ?_)
        have zs_kq_30 := kq_30.size
        replace hw := hw.pure kq_30
        replace hg := hg.pure kq_30
        replace hd_3 := hd_3.pure kq_30
        replace hR10 := hR10.pure kq_30
        refine WL.want rfl rfl rfl (?_)
        refine WL.neqF rfl rfl rfl (by first | rfl | omega | decide) ?_
        refine WL.nil ?_
        refine WX.one ⟨hd_3, ?_⟩
        refine ⟨?_, trivial⟩
        refine DT.step [(120, _), (124, _)] rfl ⟨rfl, rfl, trivial⟩ rfl (fun wq_31 kq_31 => ?_)
        have zs_kq_31 := kq_31.size
        replace hw := hw.pure kq_31
        replace hg := hg.pure kq_31
        replace hd_3 := hd_3.pure kq_31
        replace hR10 := hR10.pure kq_31
        refine WL.pickF rfl rfl rfl (?_)
        refine WL.nil ?_
        refine WX.one ⟨hd_3, ?_⟩
        refine DT.done (fun we_32 ke_32 => ?_) _
        have zs_ke_32 := ke_32.size
        replace hw := hw.pure ke_32
        replace hg := hg.pure ke_32
        replace hd_3 := hd_3.pure ke_32
        replace hR10 := hR10.pure ke_32
        rotate_left
        refine DT.step [(5, _), (120, _)] rfl ⟨rfl, rfl, trivial⟩ rfl (fun wq_27 kq_27 => ?_)
        have zs_kq_27 := kq_27.size
        replace hw := hw.pure kq_27
        replace hR := hR.pure kq_27
        replace hq1 := hq1.pure kq_27
        replace hq2 := hq2.pure kq_27
        replace hg := hg.pure kq_27
        replace hd_3 := hd_3.pure kq_27
        replace hm := hm.pure kq_27
        refine WL.want rfl rfl rfl (WL.move rfl rfl (?_))
        refine WL.nil ?_
        refine WX.one ⟨hd_3, ?_⟩
        refine ⟨?_, trivial, trivial, trivial, trivial⟩
        refine DT.step [(3, _), (120, _)] rfl ⟨rfl, rfl, trivial⟩ rfl (fun wq_28 kq_28 => ?_)
        have zs_kq_28 := kq_28.size
        replace hw := hw.pure kq_28
        replace hR := hR.pure kq_28
        replace hq1 := hq1.pure kq_28
        replace hq2 := hq2.pure kq_28
        replace hg := hg.pure kq_28
        replace hd_3 := hd_3.pure kq_28
        replace hm := hm.pure kq_28
        refine WL.want rfl rfl rfl (WL.move rfl rfl (?_))
        refine WL.nil ?_
        refine WX.one ⟨hd_3, ?_⟩
        refine ⟨?_, trivial, trivial, trivial⟩
        refine DT.step [(121, _), (122, _), (120, _)] rfl ⟨rfl, rfl, rfl, trivial⟩ rfl (fun wq_29 kq_29 => ?_)
        have zs_kq_29 := kq_29.size
        replace hw := hw.pure kq_29
        replace hR := hR.pure kq_29
        replace hq1 := hq1.pure kq_29
        replace hq2 := hq2.pure kq_29
        replace hg := hg.pure kq_29
        replace hd_3 := hd_3.pure kq_29
        replace hm := hm.pure kq_29
        refine WL.want rfl rfl rfl (?_)
        refine WL.call eg_19 rfl rfl (RotN (n := -1) (d := 1) (a := (k : Int)) hR (fun x hx => by omega) (by omega)) ?_
        rintro v w10 ⟨rfl, hR10, k10⟩
        have zs_k10 := k10.size
        replace hw := hw.chg k10 (by first | (intro x h1 h2; exact h2) | (intro x h0 h1 h2; exact hS x h1 h2) | (intro x h0 h1 h2; have h3 : _ = _ := h2; subst h3; exact hSR h1.1) | (intro x h1 h2; have h3 : _ = _ := h2; subst h3; assumption) | (intro x h1 h2; have h3 : _ = _ := h2; exfalso; omega) | (intro b h1 h2 h3; have h4 : _ = _ := h3; (try dsimp only at h2); exfalso; omega) | (intro h1; have h2 : _ = _ := h1; exfalso; omega) | (intro h1; have h2 : _ ≤ _ := h1; exfalso; omega) | (intros; exfalso; (try dsimp only at *); omega) | (intro b h1 h2 h3; exfalso; have h4 := h3.2; (try dsimp only at *); omega) | (intro h1; exfalso; have h4 := h1.2; (try dsimp only at *); omega) | (intro x h1 h2; exfalso; have h4 := h2.2; (try dsimp only at *); omega) | (intro x h1 h2; exact ⟨_, rfl, h2⟩) | (intro x h1 h2; have h4 := h2.1; have h5 := h2.2; exfalso; omega) | (intro x h1 h2; exact h2.1) | (intro x h1 h2; rcases h2.1 with h3 | h3; exact h3; exfalso; omega) | (intro x h1 h2; rcases h2 with h3 | h3; exact h3; exfalso; omega))
        replace hg := hg.chg k10 (by first | (intro x h1 h2; exact h2) | (intro x h0 h1 h2; exact hS x h1 h2) | (intro x h0 h1 h2; have h3 : _ = _ := h2; subst h3; exact hSR h1.1) | (intro x h1 h2; have h3 : _ = _ := h2; subst h3; assumption) | (intro x h1 h2; have h3 : _ = _ := h2; exfalso; omega) | (intro b h1 h2 h3; have h4 : _ = _ := h3; (try dsimp only at h2); exfalso; omega) | (intro h1; have h2 : _ = _ := h1; exfalso; omega) | (intro h1; have h2 : _ ≤ _ := h1; exfalso; omega) | (intros; exfalso; (try dsimp only at *); omega) | (intro b h1 h2 h3; exfalso; have h4 := h3.2; (try dsimp only at *); omega) | (intro h1; exfalso; have h4 := h1.2; (try dsimp only at *); omega) | (intro x h1 h2; exfalso; have h4 := h2.2; (try dsimp only at *); omega) | (intro x h1 h2; exact ⟨_, rfl, h2⟩) | (intro x h1 h2; have h4 := h2.1; have h5 := h2.2; exfalso; omega) | (intro x h1 h2; exact h2.1) | (intro x h1 h2; rcases h2.1 with h3 | h3; exact h3; exfalso; omega) | (intro x h1 h2; rcases h2 with h3 | h3; exact h3; exfalso; omega))
        replace hd_3 := hd_3.chg k10 (by first | (intro x h1 h2; exact h2) | (intro x h0 h1 h2; exact hS x h1 h2) | (intro x h0 h1 h2; have h3 : _ = _ := h2; subst h3; exact hSR h1.1) | (intro x h1 h2; have h3 : _ = _ := h2; subst h3; assumption) | (intro x h1 h2; have h3 : _ = _ := h2; exfalso; omega) | (intro b h1 h2 h3; have h4 : _ = _ := h3; (try dsimp only at h2); exfalso; omega) | (intro h1; have h2 : _ = _ := h1; exfalso; omega) | (intro h1; have h2 : _ ≤ _ := h1; exfalso; omega) | (intros; exfalso; (try dsimp only at *); omega) | (intro b h1 h2 h3; exfalso; have h4 := h3.2; (try dsimp only at *); omega) | (intro h1; exfalso; have h4 := h1.2; (try dsimp only at *); omega) | (intro x h1 h2; exfalso; have h4 := h2.2; (try dsimp only at *); omega) | (intro x h1 h2; exact ⟨_, rfl, h2⟩) | (intro x h1 h2; have h4 := h2.1; have h5 := h2.2; exfalso; omega) | (intro x h1 h2; exact h2.1) | (intro x h1 h2; rcases h2.1 with h3 | h3; exact h3; exfalso; omega) | (intro x h1 h2; rcases h2 with h3 | h3; exact h3; exfalso; omega))
        refine WL.nil ?_
        refine WX.one ⟨hd_3, ?_⟩
        refine ⟨?_, trivial, trivial⟩
        refine DT.step [(123, _), (120, _)] rfl ⟨rfl, rfl, trivial⟩ rfl (fun wq_30 kq_30 => ?_)
        have zs_kq_30 := kq_30.size
        replace hw := hw.pure kq_30
        replace hg := hg.pure kq_30
        replace hd_3 := hd_3.pure kq_30
        replace hR10 := hR10.pure kq_30
        refine WL.want rfl rfl rfl (?_)
        refine WL.neqF rfl rfl rfl (by first | rfl | omega | decide) ?_
        refine WL.nil ?_
        refine WX.one ⟨hd_3, ?_⟩
        refine ⟨?_, trivial⟩
        refine DT.step [(120, _), (124, _)] rfl ⟨rfl, rfl, trivial⟩ rfl (fun wq_31 kq_31 => ?_)
        have zs_kq_31 := kq_31.size
        replace hw := hw.pure kq_31
        replace hg := hg.pure kq_31
        replace hd_3 := hd_3.pure kq_31
        replace hR10 := hR10.pure kq_31
        refine WL.pickF rfl rfl rfl (?_)
        refine WL.nil ?_
        refine WX.one ⟨hd_3, ?_⟩
        refine DT.done (fun we_32 ke_32 => ?_) _
        have zs_ke_32 := ke_32.size
        replace hw := hw.pure ke_32
        replace hg := hg.pure ke_32
        replace hd_3 := hd_3.pure ke_32
        replace hR10 := hR10.pure ke_32
        rotate_left
        refine DT.step [(113, _)] rfl ⟨rfl, trivial⟩ rfl (fun wq_21 kq_21 => ?_)
        have zs_kq_21 := kq_21.size
        replace hw := hw.pure kq_21
        replace hR := hR.pure kq_21
        replace hq1 := hq1.pure kq_21
        replace hq2 := hq2.pure kq_21
        replace hg := hg.pure kq_21
        replace hd_3 := hd_3.pure kq_21
        refine WL.want rfl rfl rfl (?_)
        refine WL.make (e := eb) (0 : UInt8) 128 128 Try.underlying30 info_5 rfl rfl rfl ⟨rfl, rfl, Nat.le_refl _⟩ (by decide) rfl ?_
        intro g9 w9 hm k9 z9 eg9
        have zs_k9 := k9.size
        replace hw := hw.pure k9
        replace hR := hR.pure k9
        replace hq1 := hq1.pure k9
        replace hq2 := hq2.pure k9
        replace hg := hg.pure k9
        replace hd_3 := hd_3.pure k9
        refine WL.nil ?_
        refine WX.one ⟨hd_3, ?_⟩
        refine ⟨?_, ?_, trivial, trivial, trivial, trivial, trivial, trivial, trivial, trivial, trivial⟩
        refine DT.step [(114, _), (113, _)] rfl ⟨rfl, rfl, trivial⟩ rfl (fun wq_22 kq_22 => ?_)
        have zs_kq_22 := kq_22.size
        replace hw := hw.pure kq_22
        replace hR := hR.pure kq_22
        replace hq1 := hq1.pure kq_22
        replace hq2 := hq2.pure kq_22
        replace hg := hg.pure kq_22
        replace hd_3 := hd_3.pure kq_22
        replace hm := hm.pure kq_22
        refine WL.want rfl rfl rfl (WL.toStr Try.underlying30 Try.underlying5 Try.underlying9 hq2 rfl rfl (?_))
        refine WL.nil ?_
        refine WX.one ⟨hd_3, ?_⟩
        refine ⟨?_, trivial, trivial, trivial, trivial, trivial, trivial, trivial, trivial, trivial⟩
        refine DT.step [(116, _), (113, _)] rfl ⟨rfl, rfl, trivial⟩ rfl (fun wq_23 kq_23 => ?_)
        have zs_kq_23 := kq_23.size
        replace hw := hw.pure kq_23
        replace hR := hR.pure kq_23
        replace hq1 := hq1.pure kq_23
        replace hq2 := hq2.pure kq_23
        replace hg := hg.pure kq_23
        replace hd_3 := hd_3.pure kq_23
        replace hm := hm.pure kq_23
        refine WL.want rfl rfl rfl (WL.toStr Try.underlying30 Try.underlying5 Try.underlying9 hm.rsl rfl rfl (?_))
        refine WL.nil ?_
        refine WX.one ⟨hd_3, ?_⟩
        refine ⟨?_, trivial, trivial, trivial, trivial, trivial, trivial, trivial, trivial⟩
        refine DT.step [(115, _), (117, _), (113, _)] rfl ⟨rfl, rfl, rfl, trivial⟩ rfl (fun wq_24 kq_24 => ?_)
        have zs_kq_24 := kq_24.size
        replace hw := hw.pure kq_24
        replace hR := hR.pure kq_24
        replace hq1 := hq1.pure kq_24
        replace hq2 := hq2.pure kq_24
        replace hg := hg.pure kq_24
        replace hd_3 := hd_3.pure kq_24
        replace hm := hm.pure kq_24
        refine WL.want rfl rfl rfl (?_)
        refine WL.sneqF rfl rfl rfl ((by rfl)) ?_
        refine WL.nil ?_
        refine WX.one ⟨hd_3, ?_⟩
        refine ⟨?_, trivial, trivial, trivial, trivial, trivial, trivial, trivial⟩
        refine DT.step [(113, _), (118, _)] rfl ⟨rfl, rfl, trivial⟩ rfl (fun wq_25 kq_25 => ?_)
        have zs_kq_25 := kq_25.size
        replace hw := hw.pure kq_25
        replace hR := hR.pure kq_25
        replace hq1 := hq1.pure kq_25
        replace hq2 := hq2.pure kq_25
        replace hg := hg.pure kq_25
        replace hd_3 := hd_3.pure kq_25
        replace hm := hm.pure kq_25
        refine WL.pickF rfl rfl rfl (?_)
        refine WL.nil ?_
        refine WX.one ⟨hd_3, ?_⟩
        refine ⟨?_, trivial, trivial, trivial, trivial, trivial, trivial⟩
        refine DT.step [(119, _)] rfl ⟨rfl, trivial⟩ rfl (fun wq_26 kq_26 => ?_)
        have zs_kq_26 := kq_26.size
        replace hw := hw.pure kq_26
        replace hR := hR.pure kq_26
        replace hq1 := hq1.pure kq_26
        replace hq2 := hq2.pure kq_26
        replace hg := hg.pure kq_26
        replace hd_3 := hd_3.pure kq_26
        replace hm := hm.pure kq_26
        refine WL.move rfl rfl (?_)
        refine WL.nil ?_
        refine WX.one ⟨hd_3, ?_⟩
        refine ⟨?_, ?_, trivial, trivial, trivial, trivial⟩
        refine DT.step [(3, _), (120, _)] rfl ⟨rfl, rfl, trivial⟩ rfl (fun wq_27 kq_27 => ?_)
        have zs_kq_27 := kq_27.size
        replace hw := hw.pure kq_27
        replace hR := hR.pure kq_27
        replace hq1 := hq1.pure kq_27
        replace hq2 := hq2.pure kq_27
        replace hg := hg.pure kq_27
        replace hd_3 := hd_3.pure kq_27
        replace hm := hm.pure kq_27
        refine WL.want rfl rfl rfl (WL.move rfl rfl (?_))
        refine WL.nil ?_
        refine WX.one ⟨hd_3, ?_⟩
        refine ⟨?_, trivial, trivial, trivial, trivial⟩
        refine DT.step [(5, _), (120, _)] rfl ⟨rfl, rfl, trivial⟩ rfl (fun wq_28 kq_28 => ?_)
        have zs_kq_28 := kq_28.size
        replace hw := hw.pure kq_28
        replace hR := hR.pure kq_28
        replace hq1 := hq1.pure kq_28
        replace hq2 := hq2.pure kq_28
        replace hg := hg.pure kq_28
        replace hd_3 := hd_3.pure kq_28
        replace hm := hm.pure kq_28
        refine WL.want rfl rfl rfl (WL.move rfl rfl (?_))
        refine WL.nil ?_
        refine WX.one ⟨hd_3, ?_⟩
        refine ⟨?_, trivial, trivial, trivial⟩
        refine DT.step [(121, _), (122, _), (120, _)] rfl ⟨rfl, rfl, rfl, trivial⟩ rfl (fun wq_29 kq_29 => ?_)
        have zs_kq_29 := kq_29.size
        replace hw := hw.pure kq_29
        replace hR := hR.pure kq_29
        replace hq1 := hq1.pure kq_29
        replace hq2 := hq2.pure kq_29
        replace hg := hg.pure kq_29
        replace hd_3 := hd_3.pure kq_29
        replace hm := hm.pure kq_29
        refine WL.want rfl rfl rfl (?_)
        refine WL.call eg_19 rfl rfl (RotN (n := -1) (d := 1) (a := (k : Int)) hR (fun x hx => by omega) (by omega)) ?_
        rintro v w10 ⟨rfl, hR10, k10⟩
        have zs_k10 := k10.size
        replace hw := hw.chg k10 (by first | (intro x h1 h2; exact h2) | (intro x h0 h1 h2; exact hS x h1 h2) | (intro x h0 h1 h2; have h3 : _ = _ := h2; subst h3; exact hSR h1.1) | (intro x h1 h2; have h3 : _ = _ := h2; subst h3; assumption) | (intro x h1 h2; have h3 : _ = _ := h2; exfalso; omega) | (intro b h1 h2 h3; have h4 : _ = _ := h3; (try dsimp only at h2); exfalso; omega) | (intro h1; have h2 : _ = _ := h1; exfalso; omega) | (intro h1; have h2 : _ ≤ _ := h1; exfalso; omega) | (intros; exfalso; (try dsimp only at *); omega) | (intro b h1 h2 h3; exfalso; have h4 := h3.2; (try dsimp only at *); omega) | (intro h1; exfalso; have h4 := h1.2; (try dsimp only at *); omega) | (intro x h1 h2; exfalso; have h4 := h2.2; (try dsimp only at *); omega) | (intro x h1 h2; exact ⟨_, rfl, h2⟩) | (intro x h1 h2; have h4 := h2.1; have h5 := h2.2; exfalso; omega) | (intro x h1 h2; exact h2.1) | (intro x h1 h2; rcases h2.1 with h3 | h3; exact h3; exfalso; omega) | (intro x h1 h2; rcases h2 with h3 | h3; exact h3; exfalso; omega))
        replace hg := hg.chg k10 (by first | (intro x h1 h2; exact h2) | (intro x h0 h1 h2; exact hS x h1 h2) | (intro x h0 h1 h2; have h3 : _ = _ := h2; subst h3; exact hSR h1.1) | (intro x h1 h2; have h3 : _ = _ := h2; subst h3; assumption) | (intro x h1 h2; have h3 : _ = _ := h2; exfalso; omega) | (intro b h1 h2 h3; have h4 : _ = _ := h3; (try dsimp only at h2); exfalso; omega) | (intro h1; have h2 : _ = _ := h1; exfalso; omega) | (intro h1; have h2 : _ ≤ _ := h1; exfalso; omega) | (intros; exfalso; (try dsimp only at *); omega) | (intro b h1 h2 h3; exfalso; have h4 := h3.2; (try dsimp only at *); omega) | (intro h1; exfalso; have h4 := h1.2; (try dsimp only at *); omega) | (intro x h1 h2; exfalso; have h4 := h2.2; (try dsimp only at *); omega) | (intro x h1 h2; exact ⟨_, rfl, h2⟩) | (intro x h1 h2; have h4 := h2.1; have h5 := h2.2; exfalso; omega) | (intro x h1 h2; exact h2.1) | (intro x h1 h2; rcases h2.1 with h3 | h3; exact h3; exfalso; omega) | (intro x h1 h2; rcases h2 with h3 | h3; exact h3; exfalso; omega))
        replace hd_3 := hd_3.chg k10 (by first | (intro x h1 h2; exact h2) | (intro x h0 h1 h2; exact hS x h1 h2) | (intro x h0 h1 h2; have h3 : _ = _ := h2; subst h3; exact hSR h1.1) | (intro x h1 h2; have h3 : _ = _ := h2; subst h3; assumption) | (intro x h1 h2; have h3 : _ = _ := h2; exfalso; omega) | (intro b h1 h2 h3; have h4 : _ = _ := h3; (try dsimp only at h2); exfalso; omega) | (intro h1; have h2 : _ = _ := h1; exfalso; omega) | (intro h1; have h2 : _ ≤ _ := h1; exfalso; omega) | (intros; exfalso; (try dsimp only at *); omega) | (intro b h1 h2 h3; exfalso; have h4 := h3.2; (try dsimp only at *); omega) | (intro h1; exfalso; have h4 := h1.2; (try dsimp only at *); omega) | (intro x h1 h2; exfalso; have h4 := h2.2; (try dsimp only at *); omega) | (intro x h1 h2; exact ⟨_, rfl, h2⟩) | (intro x h1 h2; have h4 := h2.1; have h5 := h2.2; exfalso; omega) | (intro x h1 h2; exact h2.1) | (intro x h1 h2; rcases h2.1 with h3 | h3; exact h3; exfalso; omega) | (intro x h1 h2; rcases h2 with h3 | h3; exact h3; exfalso; omega))
        refine WL.nil ?_
        refine WX.one ⟨hd_3, ?_⟩
        refine ⟨?_, trivial, trivial⟩
        refine DT.step [(123, _), (120, _)] rfl ⟨rfl, rfl, trivial⟩ rfl (fun wq_30 kq_30 => ?_)
        have zs_kq_30 := kq_30.size
        replace hw := hw.pure kq_30
        replace hg := hg.pure kq_30
        replace hd_3 := hd_3.pure kq_30
        replace hR10 := hR10.pure kq_30
        refine WL.want rfl rfl rfl (?_)
        refine WL.neqF rfl rfl rfl (by first | rfl | omega | decide) ?_
        refine WL.nil ?_
        refine WX.one ⟨hd_3, ?_⟩
        refine ⟨?_, trivial⟩
        refine DT.step [(120, _), (124, _)] rfl ⟨rfl, rfl, trivial⟩ rfl (fun wq_31 kq_31 => ?_)
        have zs_kq_31 := kq_31.size
        replace hw := hw.pure kq_31
        replace hg := hg.pure kq_31
        replace hd_3 := hd_3.pure kq_31
        replace hR10 := hR10.pure kq_31
        refine WL.pickF rfl rfl rfl (?_)
        refine WL.nil ?_
        refine WX.one ⟨hd_3, ?_⟩
        refine DT.done (fun we_32 ke_32 => ?_) _
        have zs_ke_32 := ke_32.size
        replace hw := hw.pure ke_32
        replace hg := hg.pure ke_32
        replace hd_3 := hd_3.pure ke_32
        replace hR10 := hR10.pure ke_32
        rotate_left
        refine DT.step [(5, _), (120, _)] rfl ⟨rfl, rfl, trivial⟩ rfl (fun wq_27 kq_27 => ?_)
        have zs_kq_27 := kq_27.size
        replace hw := hw.pure kq_27
        replace hR := hR.pure kq_27
        replace hq1 := hq1.pure kq_27
        replace hq2 := hq2.pure kq_27
        replace hg := hg.pure kq_27
        replace hd_3 := hd_3.pure kq_27
        replace hm := hm.pure kq_27
        refine WL.want rfl rfl rfl (WL.move rfl rfl (?_))
        refine WL.nil ?_
        refine WX.one ⟨hd_3, ?_⟩
        refine ⟨?_, trivial, trivial, trivial, trivial⟩
        refine DT.step [(3, _), (120, _)] rfl ⟨rfl, rfl, trivial⟩ rfl (fun wq_28 kq_28 => ?_)
        have zs_kq_28 := kq_28.size
        replace hw := hw.pure kq_28
        replace hR := hR.pure kq_28
        replace hq1 := hq1.pure kq_28
        replace hq2 := hq2.pure kq_28
        replace hg := hg.pure kq_28
        replace hd_3 := hd_3.pure kq_28
        replace hm := hm.pure kq_28
        refine WL.want rfl rfl rfl (WL.move rfl rfl (?_))
        refine WL.nil ?_
        refine WX.one ⟨hd_3, ?_⟩
        refine ⟨?_, trivial, trivial, trivial⟩
        refine DT.step [(121, _), (122, _), (120, _)] rfl ⟨rfl, rfl, rfl, trivial⟩ rfl (fun wq_29 kq_29 => ?_)
        have zs_kq_29 := kq_29.size
        replace hw := hw.pure kq_29
        replace hR := hR.pure kq_29
        replace hq1 := hq1.pure kq_29
        replace hq2 := hq2.pure kq_29
        replace hg := hg.pure kq_29
        replace hd_3 := hd_3.pure kq_29
        replace hm := hm.pure kq_29
        refine WL.want rfl rfl rfl (?_)
        refine WL.call eg_19 rfl rfl (RotN (n := -1) (d := 1) (a := (k : Int)) hR (fun x hx => by omega) (by omega)) ?_
        rintro v w10 ⟨rfl, hR10, k10⟩
        have zs_k10 := k10.size
        replace hw := hw.chg k10 (by first | (intro x h1 h2; exact h2) | (intro x h0 h1 h2; exact hS x h1 h2) | (intro x h0 h1 h2; have h3 : _ = _ := h2; subst h3; exact hSR h1.1) | (intro x h1 h2; have h3 : _ = _ := h2; subst h3; assumption) | (intro x h1 h2; have h3 : _ = _ := h2; exfalso; omega) | (intro b h1 h2 h3; have h4 : _ = _ := h3; (try dsimp only at h2); exfalso; omega) | (intro h1; have h2 : _ = _ := h1; exfalso; omega) | (intro h1; have h2 : _ ≤ _ := h1; exfalso; omega) | (intros; exfalso; (try dsimp only at *); omega) | (intro b h1 h2 h3; exfalso; have h4 := h3.2; (try dsimp only at *); omega) | (intro h1; exfalso; have h4 := h1.2; (try dsimp only at *); omega) | (intro x h1 h2; exfalso; have h4 := h2.2; (try dsimp only at *); omega) | (intro x h1 h2; exact ⟨_, rfl, h2⟩) | (intro x h1 h2; have h4 := h2.1; have h5 := h2.2; exfalso; omega) | (intro x h1 h2; exact h2.1) | (intro x h1 h2; rcases h2.1 with h3 | h3; exact h3; exfalso; omega) | (intro x h1 h2; rcases h2 with h3 | h3; exact h3; exfalso; omega))
        replace hg := hg.chg k10 (by first | (intro x h1 h2; exact h2) | (intro x h0 h1 h2; exact hS x h1 h2) | (intro x h0 h1 h2; have h3 : _ = _ := h2; subst h3; exact hSR h1.1) | (intro x h1 h2; have h3 : _ = _ := h2; subst h3; assumption) | (intro x h1 h2; have h3 : _ = _ := h2; exfalso; omega) | (intro b h1 h2 h3; have h4 : _ = _ := h3; (try dsimp only at h2); exfalso; omega) | (intro h1; have h2 : _ = _ := h1; exfalso; omega) | (intro h1; have h2 : _ ≤ _ := h1; exfalso; omega) | (intros; exfalso; (try dsimp only at *); omega) | (intro b h1 h2 h3; exfalso; have h4 := h3.2; (try dsimp only at *); omega) | (intro h1; exfalso; have h4 := h1.2; (try dsimp only at *); omega) | (intro x h1 h2; exfalso; have h4 := h2.2; (try dsimp only at *); omega) | (intro x h1 h2; exact ⟨_, rfl, h2⟩) | (intro x h1 h2; have h4 := h2.1; have h5 := h2.2; exfalso; omega) | (intro x h1 h2; exact h2.1) | (intro x h1 h2; rcases h2.1 with h3 | h3; exact h3; exfalso; omega) | (intro x h1 h2; rcases h2 with h3 | h3; exact h3; exfalso; omega))
        replace hd_3 := hd_3.chg k10 (by first | (intro x h1 h2; exact h2) | (intro x h0 h1 h2; exact hS x h1 h2) | (intro x h0 h1 h2; have h3 : _ = _ := h2; subst h3; exact hSR h1.1) | (intro x h1 h2; have h3 : _ = _ := h2; subst h3; assumption) | (intro x h1 h2; have h3 : _ = _ := h2; exfalso; omega) | (intro b h1 h2 h3; have h4 : _ = _ := h3; (try dsimp only at h2); exfalso; omega) | (intro h1; have h2 : _ = _ := h1; exfalso; omega) | (intro h1; have h2 : _ ≤ _ := h1; exfalso; omega) | (intros; exfalso; (try dsimp only at *); omega) | (intro b h1 h2 h3; exfalso; have h4 := h3.2; (try dsimp only at *); omega) | (intro h1; exfalso; have h4 := h1.2; (try dsimp only at *); omega) | (intro x h1 h2; exfalso; have h4 := h2.2; (try dsimp only at *); omega) | (intro x h1 h2; exact ⟨_, rfl, h2⟩) | (intro x h1 h2; have h4 := h2.1; have h5 := h2.2; exfalso; omega) | (intro x h1 h2; exact h2.1) | (intro x h1 h2; rcases h2.1 with h3 | h3; exact h3; exfalso; omega) | (intro x h1 h2; rcases h2 with h3 | h3; exact h3; exfalso; omega))
        refine WL.nil ?_
        refine WX.one ⟨hd_3, ?_⟩
        refine ⟨?_, trivial, trivial⟩
        refine DT.step [(123, _), (120, _)] rfl ⟨rfl, rfl, trivial⟩ rfl (fun wq_30 kq_30 => ?_)
        have zs_kq_30 := kq_30.size
        replace hw := hw.pure kq_30
        replace hg := hg.pure kq_30
        replace hd_3 := hd_3.pure kq_30
        replace hR10 := hR10.pure kq_30
        refine WL.want rfl rfl rfl (?_)
        refine WL.neqF rfl rfl rfl (by first | rfl | omega | decide) ?_
        refine WL.nil ?_
        refine WX.one ⟨hd_3, ?_⟩
        refine ⟨?_, trivial⟩
        refine DT.step [(120, _), (124, _)] rfl ⟨rfl, rfl, trivial⟩ rfl (fun wq_31 kq_31 => ?_)
        have zs_kq_31 := kq_31.size
        replace hw := hw.pure kq_31
        replace hg := hg.pure kq_31
        replace hd_3 := hd_3.pure kq_31
        replace hR10 := hR10.pure kq_31
        refine WL.pickF rfl rfl rfl (?_)
        refine WL.nil ?_
        refine WX.one ⟨hd_3, ?_⟩
        refine DT.done (fun we_32 ke_32 => ?_) _
        have zs_ke_32 := ke_32.size
        replace hw := hw.pure ke_32
        replace hg := hg.pure ke_32
        replace hd_3 := hd_3.pure ke_32
        replace hR10 := hR10.pure ke_32
        rotate_left
        refine DT.step [(116, _), (113, _)] rfl ⟨rfl, rfl, trivial⟩ rfl (fun wq_22 kq_22 => ?_)
        have zs_kq_22 := kq_22.size
        replace hw := hw.pure kq_22
        replace hR := hR.pure kq_22
        replace hq1 := hq1.pure kq_22
        replace hq2 := hq2.pure kq_22
        replace hg := hg.pure kq_22
        replace hd_3 := hd_3.pure kq_22
        replace hm := hm.pure kq_22
        refine WL.want rfl rfl rfl (WL.toStr Try.underlying30 Try.underlying5 Try.underlying9 hm.rsl rfl rfl (?_))
        refine WL.nil ?_
        refine WX.one ⟨hd_3, ?_⟩
        refine ⟨?_, trivial, trivial, trivial, trivial, trivial, trivial, trivial, trivial, trivial⟩
        refine DT.step [(114, _), (113, _)] rfl ⟨rfl, rfl, trivial⟩ rfl (fun wq_23 kq_23 => ?_)
        have zs_kq_23 := kq_23.size
        replace hw := hw.pure kq_23
        replace hR := hR.pure kq_23
        replace hq1 := hq1.pure kq_23
        replace hq2 := hq2.pure kq_23
        replace hg := hg.pure kq_23
        replace hd_3 := hd_3.pure kq_23
        replace hm := hm.pure kq_23
        refine WL.want rfl rfl rfl (WL.toStr Try.underlying30 Try.underlying5 Try.underlying9 hq2 rfl rfl (?_))
        refine WL.nil ?_
        refine WX.one ⟨hd_3, ?_⟩
        refine ⟨?_, trivial, trivial, trivial, trivial, trivial, trivial, trivial, trivial⟩
        refine DT.step [(115, _), (117, _), (113, _)] rfl ⟨rfl, rfl, rfl, trivial⟩ rfl (fun wq_24 kq_24 => ?_)
        have zs_kq_24 := kq_24.size
        replace hw := hw.pure kq_24
        replace hR := hR.pure kq_24
        replace hq1 := hq1.pure kq_24
        replace hq2 := hq2.pure kq_24
        replace hg := hg.pure kq_24
        replace hd_3 := hd_3.pure kq_24
        replace hm := hm.pure kq_24
        refine WL.want rfl rfl rfl (?_)
        refine WL.sneqF rfl rfl rfl ((by rfl)) ?_
        refine WL.nil ?_
        refine WX.one ⟨hd_3, ?_⟩
        refine ⟨?_, trivial, trivial, trivial, trivial, trivial, trivial, trivial⟩
        refine DT.step [(113, _), (118, _)] rfl ⟨rfl, rfl, trivial⟩ rfl (fun wq_25 kq_25 => ?_)
        have zs_kq_25 := kq_25.size
        replace hw := hw.pure kq_25
        replace hR := hR.pure kq_25
        replace hq1 := hq1.pure kq_25
        replace hq2 := hq2.pure kq_25
        replace hg := hg.pure kq_25
        replace hd_3 := hd_3.pure kq_25
        replace hm := hm.pure kq_25
        refine WL.pickF rfl rfl rfl (?_)
        refine WL.nil ?_
        refine WX.one ⟨hd_3, ?_⟩
        refine ⟨?_, trivial, trivial, trivial, trivial, trivial, trivial⟩
        refine DT.step [(119, _)] rfl ⟨rfl, trivial⟩ rfl (fun wq_26 kq_26 => ?_)
        have zs_kq_26 := kq_26.size
        replace hw := hw.pure kq_26
        replace hR := hR.pure kq_26
        replace hq1 := hq1.pure kq_26
        replace hq2 := hq2.pure kq_26
        replace hg := hg.pure kq_26
        replace hd_3 := hd_3.pure kq_26
        replace hm := hm.pure kq_26
        refine WL.move rfl rfl (?_)
        refine WL.nil ?_
        refine WX.one ⟨hd_3, ?_⟩
        refine ⟨?_, ?_, trivial, trivial, trivial, trivial⟩
        refine DT.step [(3, _), (120, _)] rfl ⟨rfl, rfl, trivial⟩ rfl (fun wq_27 kq_27 => ?_)
        have zs_kq_27 := kq_27.size
        replace hw := hw.pure kq_27
        replace hR := hR.pure kq_27
        replace hq1 := hq1.pure kq_27
        replace hq2 := hq2.pure kq_27
        replace hg := hg.pure kq_27
        replace hd_3 := hd_3.pure kq_27
        replace hm := hm.pure kq_27
        refine WL.want rfl rfl rfl (WL.move rfl rfl (?_))
        refine WL.nil ?_
        refine WX.one ⟨hd_3, ?_⟩
        refine ⟨?_, trivial, trivial, trivial, trivial⟩
        refine DT.step [(5, _), (120, _)] rfl ⟨rfl, rfl, trivial⟩ rfl (fun wq_28 kq_28 => ?_)
        have zs_kq_28 := kq_28.size
        replace hw := hw.pure kq_28
        replace hR := hR.pure kq_28
        replace hq1 := hq1.pure kq_28
        replace hq2 := hq2.pure kq_28
        replace hg := hg.pure kq_28
        replace hd_3 := hd_3.pure kq_28
        replace hm := hm.pure kq_28
        refine WL.want rfl rfl rfl (WL.move rfl rfl (?_))
        refine WL.nil ?_
        refine WX.one ⟨hd_3, ?_⟩
        refine ⟨?_, trivial, trivial, trivial⟩
        refine DT.step [(121, _), (122, _), (120, _)] rfl ⟨rfl, rfl, rfl, trivial⟩ rfl (fun wq_29 kq_29 => ?_)
        have zs_kq_29 := kq_29.size
        replace hw := hw.pure kq_29
        replace hR := hR.pure kq_29
        replace hq1 := hq1.pure kq_29
        replace hq2 := hq2.pure kq_29
        replace hg := hg.pure kq_29
        replace hd_3 := hd_3.pure kq_29
        replace hm := hm.pure kq_29
        refine WL.want rfl rfl rfl (?_)
        refine WL.call eg_19 rfl rfl (RotN (n := -1) (d := 1) (a := (k : Int)) hR (fun x hx => by omega) (by omega)) ?_
        rintro v w10 ⟨rfl, hR10, k10⟩
        have zs_k10 := k10.size
        replace hw := hw.chg k10 (by first | (intro x h1 h2; exact h2) | (intro x h0 h1 h2; exact hS x h1 h2) | (intro x h0 h1 h2; have h3 : _ = _ := h2; subst h3; exact hSR h1.1) | (intro x h1 h2; have h3 : _ = _ := h2; subst h3; assumption) | (intro x h1 h2; have h3 : _ = _ := h2; exfalso; omega) | (intro b h1 h2 h3; have h4 : _ = _ := h3; (try dsimp only at h2); exfalso; omega) | (intro h1; have h2 : _ = _ := h1; exfalso; omega) | (intro h1; have h2 : _ ≤ _ := h1; exfalso; omega) | (intros; exfalso; (try dsimp only at *); omega) | (intro b h1 h2 h3; exfalso; have h4 := h3.2; (try dsimp only at *); omega) | (intro h1; exfalso; have h4 := h1.2; (try dsimp only at *); omega) | (intro x h1 h2; exfalso; have h4 := h2.2; (try dsimp only at *); omega) | (intro x h1 h2; exact ⟨_, rfl, h2⟩) | (intro x h1 h2; have h4 := h2.1; have h5 := h2.2; exfalso; omega) | (intro x h1 h2; exact h2.1) | (intro x h1 h2; rcases h2.1 with h3 | h3; exact h3; exfalso; omega) | (intro x h1 h2; rcases h2 with h3 | h3; exact h3; exfalso; omega))
        replace hg := hg.chg k10 (by first | (intro x h1 h2; exact h2) | (intro x h0 h1 h2; exact hS x h1 h2) | (intro x h0 h1 h2; have h3 : _ = _ := h2; subst h3; exact hSR h1.1) | (intro x h1 h2; have h3 : _ = _ := h2; subst h3; assumption) | (intro x h1 h2; have h3 : _ = _ := h2; exfalso; omega) | (intro b h1 h2 h3; have h4 : _ = _ := h3; (try dsimp only at h2); exfalso; omega) | (intro h1; have h2 : _ = _ := h1; exfalso; omega) | (intro h1; have h2 : _ ≤ _ := h1; exfalso; omega) | (intros; exfalso; (try dsimp only at *); omega) | (intro b h1 h2 h3; exfalso; have h4 := h3.2; (try dsimp only at *); omega) | (intro h1; exfalso; have h4 := h1.2; (try dsimp only at *); omega) | (intro x h1 h2; exfalso; have h4 := h2.2; (try dsimp only at *); omega) | (intro x h1 h2; exact ⟨_, rfl, h2⟩) | (intro x h1 h2; have h4 := h2.1; have h5 := h2.2; exfalso; omega) | (intro x h1 h2; exact h2.1) | (intro x h1 h2; rcases h2.1 with h3 | h3; exact h3; exfalso; omega) | (intro x h1 h2; rcases h2 with h3 | h3; exact h3; exfalso; omega))
        replace hd_3 := hd_3.chg k10 (by first | (intro x h1 h2; exact h2) | (intro x h0 h1 h2; exact hS x h1 h2) | (intro x h0 h1 h2; have h3 : _ = _ := h2; subst h3; exact hSR h1.1) | (intro x h1 h2; have h3 : _ = _ := h2; subst h3; assumption) | (intro x h1 h2; have h3 : _ = _ := h2; exfalso; omega) | (intro b h1 h2 h3; have h4 : _ = _ := h3; (try dsimp only at h2); exfalso; omega) | (intro h1; have h2 : _ = _ := h1; exfalso; omega) | (intro h1; have h2 : _ ≤ _ := h1; exfalso; omega) | (intros; exfalso; (try dsimp only at *); omega) | (intro b h1 h2 h3; exfalso; have h4 := h3.2; (try dsimp only at *); omega) | (intro h1; exfalso; have h4 := h1.2; (try dsimp only at *); omega) | (intro x h1 h2; exfalso; have h4 := h2.2; (try dsimp only at *); omega) | (intro x h1 h2; exact ⟨_, rfl, h2⟩) | (intro x h1 h2; have h4 := h2.1; have h5 := h2.2; exfalso; omega) | (intro x h1 h2; exact h2.1) | (intro x h1 h2; rcases h2.1 with h3 | h3; exact h3; exfalso; omega) | (intro x h1 h2; rcases h2 with h3 | h3; exact h3; exfalso; omega))
        refine WL.nil ?_
        refine WX.one ⟨hd_3, ?_⟩
        refine ⟨?_, trivial, trivial⟩
        refine DT.step [(123, _), (120, _)] rfl ⟨rfl, rfl, trivial⟩ rfl (fun wq_30 kq_30 => ?_)
        have zs_kq_30 := kq_30.size
        replace hw := hw.pure kq_30
        replace hg := hg.pure kq_30
        replace hd_3 := hd_3.pure kq_30
        replace hR10 := hR10.pure kq_30
        refine WL.want rfl rfl rfl (?_)
        refine WL.neqF rfl rfl rfl (by first | rfl | omega | decide) ?_
        refine WL.nil ?_
        refine WX.one ⟨hd_3, ?_⟩
        refine ⟨?_, trivial⟩
        refine DT.step [(120, _), (124, _)] rfl ⟨rfl, rfl, trivial⟩ rfl (fun wq_31 kq_31 => ?_)
        have zs_kq_31 := kq_31.size
        replace hw := hw.pure kq_31
        replace hg := hg.pure kq_31
        replace hd_3 := hd_3.pure kq_31
        replace hR10 := hR10.pure kq_31
        refine WL.pickF rfl rfl rfl (?_)
        refine WL.nil ?_
        refine WX.one ⟨hd_3, ?_⟩
        refine DT.done (fun we_32 ke_32 => ?_) _
        have zs_ke_32 := ke_32.size
        replace hw := hw.pure ke_32
        replace hg := hg.pure ke_32
        replace hd_3 := hd_3.pure ke_32
        replace hR10 := hR10.pure ke_32
        rotate_left
        refine DT.step [(5, _), (120, _)] rfl ⟨rfl, rfl, trivial⟩ rfl (fun wq_27 kq_27 => ?_)
        have zs_kq_27 := kq_27.size
        replace hw := hw.pure kq_27
        replace hR := hR.pure kq_27
        replace hq1 := hq1.pure kq_27
        replace hq2 := hq2.pure kq_27
        replace hg := hg.pure kq_27
        replace hd_3 := hd_3.pure kq_27
        replace hm := hm.pure kq_27
        refine WL.want rfl rfl rfl (WL.move rfl rfl (?_))
        refine WL.nil ?_
        refine WX.one ⟨hd_3, ?_⟩
        refine ⟨?_, trivial, trivial, trivial, trivial⟩
        refine DT.step [(3, _), (120, _)] rfl ⟨rfl, rfl, trivial⟩ rfl (fun wq_28 kq_28 => ?_)
        have zs_kq_28 := kq_28.size
        replace hw := hw.pure kq_28
        replace hR := hR.pure kq_28
        replace hq1 := hq1.pure kq_28
        replace hq2 := hq2.pure kq_28
        replace hg := hg.pure kq_28
        replace hd_3 := hd_3.pure kq_28
        replace hm := hm.pure kq_28
        refine WL.want rfl rfl rfl (WL.move rfl rfl (?_))
        refine WL.nil ?_
        refine WX.one ⟨hd_3, ?_⟩
        refine ⟨?_, trivial, trivial, trivial⟩
        refine DT.step [(121, _), (122, _), (120, _)] rfl ⟨rfl, rfl, rfl, trivial⟩ rfl (fun wq_29 kq_29 => ?_)
        have zs_kq_29 := kq_29.size
        replace hw := hw.pure kq_29
        replace hR := hR.pure kq_29
        replace hq1 := hq1.pure kq_29
        replace hq2 := hq2.pure kq_29
        replace hg := hg.pure kq_29
        replace hd_3 := hd_3.pure kq_29
        replace hm := hm.pure kq_29
        refine WL.want rfl rfl rfl (?_)
        refine WL.call eg_19 rfl rfl (RotN (n := -1) (d := 1) (a := (k : Int)) hR (fun x hx => by omega) (by omega)) ?_
        rintro v w10 ⟨rfl, hR10, k10⟩
        have zs_k10 := k10.size
        replace hw := hw.chg k10 (by first | (intro x h1 h2; exact h2) | (intro x h0 h1 h2; exact hS x h1 h2) | (intro x h0 h1 h2; have h3 : _ = _ := h2; subst h3; exact hSR h1.1) | (intro x h1 h2; have h3 : _ = _ := h2; subst h3; assumption) | (intro x h1 h2; have h3 : _ = _ := h2; exfalso; omega) | (intro b h1 h2 h3; have h4 : _ = _ := h3; (try dsimp only at h2); exfalso; omega) | (intro h1; have h2 : _ = _ := h1; exfalso; omega) | (intro h1; have h2 : _ ≤ _ := h1; exfalso; omega) | (intros; exfalso; (try dsimp only at *); omega) | (intro b h1 h2 h3; exfalso; have h4 := h3.2; (try dsimp only at *); omega) | (intro h1; exfalso; have h4 := h1.2; (try dsimp only at *); omega) | (intro x h1 h2; exfalso; have h4 := h2.2; (try dsimp only at *); omega) | (intro x h1 h2; exact ⟨_, rfl, h2⟩) | (intro x h1 h2; have h4 := h2.1; have h5 := h2.2; exfalso; omega) | (intro x h1 h2; exact h2.1) | (intro x h1 h2; rcases h2.1 with h3 | h3; exact h3; exfalso; omega) | (intro x h1 h2; rcases h2 with h3 | h3; exact h3; exfalso; omega))
        replace hg := hg.chg k10 (by first | (intro x h1 h2; exact h2) | (intro x h0 h1 h2; exact hS x h1 h2) | (intro x h0 h1 h2; have h3 : _ = _ := h2; subst h3; exact hSR h1.1) | (intro x h1 h2; have h3 : _ = _ := h2; subst h3; assumption) | (intro x h1 h2; have h3 : _ = _ := h2; exfalso; omega) | (intro b h1 h2 h3; have h4 : _ = _ := h3; (try dsimp only at h2); exfalso; omega) | (intro h1; have h2 : _ = _ := h1; exfalso; omega) | (intro h1; have h2 : _ ≤ _ := h1; exfalso; omega) | (intros; exfalso; (try dsimp only at *); omega) | (intro b h1 h2 h3; exfalso; have h4 := h3.2; (try dsimp only at *); omega) | (intro h1; exfalso; have h4 := h1.2; (try dsimp only at *); omega) | (intro x h1 h2; exfalso; have h4 := h2.2; (try dsimp only at *); omega) | (intro x h1 h2; exact ⟨_, rfl, h2⟩) | (intro x h1 h2; have h4 := h2.1; have h5 := h2.2; exfalso; omega) | (intro x h1 h2; exact h2.1) | (intro x h1 h2; rcases h2.1 with h3 | h3; exact h3; exfalso; omega) | (intro x h1 h2; rcases h2 with h3 | h3; exact h3; exfalso; omega))
        replace hd_3 := hd_3.chg k10 (by first | (intro x h1 h2; exact h2) | (intro x h0 h1 h2; exact hS x h1 h2) | (intro x h0 h1 h2; have h3 : _ = _ := h2; subst h3; exact hSR h1.1) | (intro x h1 h2; have h3 : _ = _ := h2; subst h3; assumption) | (intro x h1 h2; have h3 : _ = _ := h2; exfalso; omega) | (intro b h1 h2 h3; have h4 : _ = _ := h3; (try dsimp only at h2); exfalso; omega) | (intro h1; have h2 : _ = _ := h1; exfalso; omega) | (intro h1; have h2 : _ ≤ _ := h1; exfalso; omega) | (intros; exfalso; (try dsimp only at *); omega) | (intro b h1 h2 h3; exfalso; have h4 := h3.2; (try dsimp only at *); omega) | (intro h1; exfalso; have h4 := h1.2; (try dsimp only at *); omega) | (intro x h1 h2; exfalso; have h4 := h2.2; (try dsimp only at *); omega) | (intro x h1 h2; exact ⟨_, rfl, h2⟩) | (intro x h1 h2; have h4 := h2.1; have h5 := h2.2; exfalso; omega) | (intro x h1 h2; exact h2.1) | (intro x h1 h2; rcases h2.1 with h3 | h3; exact h3; exfalso; omega) | (intro x h1 h2; rcases h2 with h3 | h3; exact h3; exfalso; omega))
        refine WL.nil ?_
        refine WX.one ⟨hd_3, ?_⟩
        refine ⟨?_, trivial, trivial⟩
        refine DT.step [(123, _), (120, _)] rfl ⟨rfl, rfl, trivial⟩ rfl (fun wq_30 kq_30 => ?_)
        have zs_kq_30 := kq_30.size
        replace hw := hw.pure kq_30
        replace hg := hg.pure kq_30
        replace hd_3 := hd_3.pure kq_30
        replace hR10 := hR10.pure kq_30
        refine WL.want rfl rfl rfl (?_)
        refine WL.neqF rfl rfl rfl (by first | rfl | omega | decide) ?_
        refine WL.nil ?_
        refine WX.one ⟨hd_3, ?_⟩
        refine ⟨?_, trivial⟩
        refine DT.step [(120, _), (124, _)] rfl ⟨rfl, rfl, trivial⟩ rfl (fun wq_31 kq_31 => ?_)
        have zs_kq_31 := kq_31.size
        replace hw := hw.pure kq_31
        replace hg := hg.pure kq_31
        replace hd_3 := hd_3.pure kq_31
        replace hR10 := hR10.pure kq_31
        refine WL.pickF rfl rfl rfl (?_)
        refine WL.nil ?_
        refine WX.one ⟨hd_3, ?_⟩
        refine DT.done (fun we_32 ke_32 => ?_) _
        have zs_ke_32 := ke_32.size
        replace hw := hw.pure ke_32
        replace hg := hg.pure ke_32
        replace hd_3 := hd_3.pure ke_32
        replace hR10 := hR10.pure ke_32
        rotate_left
        all_goals
          refine WX.then_normal (WC.cond_false rfl (WC.skip (WX.then_normal (WC.seq (WC.region (WL.move rfl rfl (WL.move rfl rfl (?_))))))))
          refine WL.move rfl rfl (?_)
          refine WL.call eg_19 rfl rfl (RotU (n := (n : Int)) hR10 (fun x hx => by omega) (by unfold inS; rw [sd5, sn5]; omega) (sg5 1) ⟨by omega, by omega⟩) ?_
          rintro v w11 ⟨rfl, hR11, k11⟩
          have zs_k11 := k11.size
          replace hw := hw.chg k11 (by first | (intro x h1 h2; exact h2) | (intro x h0 h1 h2; exact hS x h1 h2) | (intro x h0 h1 h2; have h3 : _ = _ := h2; subst h3; exact hSR h1.1) | (intro x h1 h2; have h3 : _ = _ := h2; subst h3; assumption) | (intro x h1 h2; have h3 : _ = _ := h2; exfalso; omega) | (intro b h1 h2 h3; have h4 : _ = _ := h3; (try dsimp only at h2); exfalso; omega) | (intro h1; have h2 : _ = _ := h1; exfalso; omega) | (intro h1; have h2 : _ ≤ _ := h1; exfalso; omega) | (intros; exfalso; (try dsimp only at *); omega) | (intro b h1 h2 h3; exfalso; have h4 := h3.2; (try dsimp only at *); omega) | (intro h1; exfalso; have h4 := h1.2; (try dsimp only at *); omega) | (intro x h1 h2; exfalso; have h4 := h2.2; (try dsimp only at *); omega) | (intro x h1 h2; exact ⟨_, rfl, h2⟩) | (intro x h1 h2; have h4 := h2.1; have h5 := h2.2; exfalso; omega) | (intro x h1 h2; exact h2.1) | (intro x h1 h2; rcases h2.1 with h3 | h3; exact h3; exfalso; omega) | (intro x h1 h2; rcases h2 with h3 | h3; exact h3; exfalso; omega))
          replace hg := hg.chg k11 (by first | (intro x h1 h2; exact h2) | (intro x h0 h1 h2; exact hS x h1 h2) | (intro x h0 h1 h2; have h3 : _ = _ := h2; subst h3; exact hSR h1.1) | (intro x h1 h2; have h3 : _ = _ := h2; subst h3; assumption) | (intro x h1 h2; have h3 : _ = _ := h2; exfalso; omega) | (intro b h1 h2 h3; have h4 : _ = _ := h3; (try dsimp only at h2); exfalso; omega) | (intro h1; have h2 : _ = _ := h1; exfalso; omega) | (intro h1; have h2 : _ ≤ _ := h1; exfalso; omega) | (intros; exfalso; (try dsimp only at *); omega) | (intro b h1 h2 h3; exfalso; have h4 := h3.2; (try dsimp only at *); omega) | (intro h1; exfalso; have h4 := h1.2; (try dsimp only at *); omega) | (intro x h1 h2; exfalso; have h4 := h2.2; (try dsimp only at *); omega) | (intro x h1 h2; exact ⟨_, rfl, h2⟩) | (intro x h1 h2; have h4 := h2.1; have h5 := h2.2; exfalso; omega) | (intro x h1 h2; exact h2.1) | (intro x h1 h2; rcases h2.1 with h3 | h3; exact h3; exfalso; omega) | (intro x h1 h2; rcases h2 with h3 | h3; exact h3; exfalso; omega))
          refine WL.assign rfl rfl (WL.nil (WX.then_normal (WC.seq (WC.region (WL.move rfl rfl (WL.move rfl rfl (?_)))))))
          refine WL.call eg_16 rfl rfl (ReadU hR11 (rotS_up us5 _ _) (by unfold inS; rw [rotS_dn, rotS_sn, sd5, sn5]; omega) (by rw [rotS_gone]; exact sg5 1)) ?_
          rintro v w12 ⟨⟨r3, rfl, hx3, hq3⟩, k12⟩
          rw [rotS_held, if_pos rfl, hA5, rotB_rotB hbl] at hx3
          have zs_k12 := k12.size
          replace hw := hw.pure k12
          replace hg := hg.pure k12
          replace hR11 := hR11.pure k12
          refine WL.move rfl rfl (WL.extract rfl rfl rfl (?_))
          refine WL.extract rfl rfl rfl ?_
          refine WL.assign rfl rfl (WL.assign rfl rfl (WL.nil (WX.then_normal (WC.seq (WC.region (WL.move rfl rfl (?_)))))))
          refine WL.eqlT rfl rfl rfl (by first | rfl | omega | decide) ?_
          refine WL.move rfl rfl (WL.want rfl rfl rfl (WL.move rfl rfl (WL.want rfl rfl rfl (?_))))
          refine WL.eqlT rfl rfl rfl (by first | rfl | omega | decide) ?_
          refine WL.pickT rfl rfl rfl (WL.move rfl rfl (WL.want rfl rfl rfl (WL.move rfl rfl (WL.want rfl rfl rfl (WL.toStr Try.underlying30 Try.underlying5 Try.underlying9 hq3 rfl rfl (WL.want rfl rfl rfl (WL.move rfl rfl (?_))))))))
          refine WL.want rfl rfl rfl (WL.toStr Try.underlying30 Try.underlying5 Try.underlying9 hg rfl rfl (WL.want rfl rfl rfl (?_)))
          refine WL.seqlT rfl rfl rfl ((by rw [hx3])) ?_
          refine WL.pickT rfl rfl rfl (WL.assign rfl rfl (WL.nil (WX.then_normal (WC.ret (?_)))))
          refine WX.ret1 (.inl rfl) Try.results5 rfl ?_
          exact ⟨_, rfl, rfl, hw⟩
    ·
      refine WL.move rfl rfl (WL.pass rfl rfl rfl rfl (WL.pass rfl rfl rfl rfl (WL.pass rfl rfl rfl rfl (WL.pass rfl rfl rfl rfl (WL.pickF rfl rfl rfl (WL.nil (WX.then_normal (?_))))))))
      refine WC.cond_false rfl (WC.exit (WX.then_exit (WX.then_exit (WX.block_here (WX.then_normal (WC.seq (WC.seq (?_))))))))
      have hil : i = 128 := by omega
      have hql : q < 128 := by omega
      subst hil
      rw [if_pos hql]
      have zw9 := hw.size
      refine WC.drawM ((fun x => N ≤ x ∧ x ≠ gw)) [0, 1, 2, 3, 4, 5, 6, 7, 8, 9, 10, 11, 12, 13, 14, 15, 16] [17, 18, 19, 20, 21, 22, 23, 24, 25, 26, 27] mixed rfl rfl (fun wd_2 kd_2 zd_2 => ?_)
      have zs_kd_2 := kd_2.size
      replace hw := hw.pure kd_2
      replace hR := hR.pure kd_2
      replace hq1 := hq1.pure kd_2
      replace hq2 := hq2.pure kd_2
      replace hg := hg.pure kd_2
      apply DQT.step (E' := [(4, _)])
      case ho => rfl
      case hs => exact ⟨rfl, trivial⟩
      case hk => rfl
      case h1 =>
        intro wq_4 kq_4
        refine WL.move rfl rfl (?_)
        refine WL.nil ?_
        exact WX.one ⟨rfl, by first | exact Chg.refl _ _ | assumption⟩
      apply DQT.step (E' := [(98, _)])
      case ho => rfl
      case hs => exact ⟨rfl, trivial⟩
      case hk => rfl
      case h1 =>
        intro wq_5 kq_5
        refine WL.neqF rfl rfl rfl (by first | rfl | omega | decide) ?_
        refine WL.nil ?_
        exact WX.one ⟨rfl, by first | exact Chg.refl _ _ | assumption⟩
      apply DQT.step (E' := [(99, _)])
      case ho => rfl
      case hs => exact ⟨rfl, trivial⟩
      case hk => rfl
      case h1 =>
        intro wq_6 kq_6
        refine WL.move rfl rfl (?_)
        refine WL.nil ?_
        exact WX.one ⟨rfl, by first | exact Chg.refl _ _ | assumption⟩
      apply DQT.step (E' := [(9, _), (100, _)])
      case ho => rfl
      case hs => exact ⟨rfl, rfl, trivial⟩
      case hk => rfl
      case h1 =>
        intro wq_7 kq_7
        refine WL.want rfl rfl rfl (WL.move rfl rfl (?_))
        refine WL.nil ?_
        exact WX.one ⟨rfl, by first | exact Chg.refl _ _ | assumption⟩
      apply DQT.step (E' := [(101, _), (100, _)])
      case ho => rfl
      case hs => exact ⟨rfl, rfl, trivial⟩
      case hk => rfl
      case h1 =>
        intro wq_8 kq_8
        refine WL.want rfl rfl rfl (?_)
        refine WL.neqF rfl rfl rfl (by first | rfl | omega | decide) ?_
        refine WL.nil ?_
        exact WX.one ⟨rfl, by first | exact Chg.refl _ _ | assumption⟩
      apply DQT.step (E' := [(100, _), (102, _)])
      case ho => rfl
      case hs => exact ⟨rfl, rfl, trivial⟩
      case hk => rfl
      case h1 =>
        intro wq_9 kq_9
        refine WL.pickF rfl rfl rfl (?_)
        refine WL.nil ?_
        exact WX.one ⟨rfl, by first | exact Chg.refl _ _ | assumption⟩
      apply DQT.step (E' := [(103, _)])
      case ho => rfl
      case hs => exact ⟨rfl, trivial⟩
      case hk => rfl
      case h1 =>
        intro wq_10 kq_10
        refine WL.move rfl rfl (?_)
        refine WL.nil ?_
        exact WX.one ⟨rfl, by first | exact Chg.refl _ _ | assumption⟩
      apply DQT.step (E' := [(7, _), (104, _)])
      case ho => rfl
      case hs => exact ⟨rfl, rfl, trivial⟩
      case hk => rfl
      case h1 =>
        intro wq_11 kq_11
        refine WL.want rfl rfl rfl (WL.move rfl rfl (?_))
        refine WL.nil ?_
        exact WX.one ⟨rfl, by first | exact Chg.refl _ _ | assumption⟩
      apply DQT.step (E' := [(105, _), (104, _)])
      case ho => rfl
      case hs => exact ⟨rfl, rfl, trivial⟩
      case hk => rfl
      case h1 =>
        intro wq_12 kq_12
        have zs_kq_12 := kq_12.size
        refine WL.want rfl rfl rfl (WL.len Try.underlying30 rfl rfl (?_))
        refine WL.nil ?_
        exact WX.one ⟨rfl, by first | exact Chg.refl _ _ | assumption⟩
      apply DQT.step (E' := [(106, _), (104, _)])
      case ho => rfl
      case hs => exact ⟨rfl, rfl, trivial⟩
      case hk => rfl
      case h1 =>
        intro wq_13 kq_13
        refine WL.want rfl rfl rfl (?_)
        refine WL.neqF rfl rfl rfl ((by show ((rotB (B x.fill) n).length : Int) = 128; omega)) ?_
        refine WL.nil ?_
        exact WX.one ⟨rfl, by first | exact Chg.refl _ _ | assumption⟩
      apply DQT.step (E' := [(104, _), (107, _)])
      case ho => rfl
      case hs => exact ⟨rfl, rfl, trivial⟩
      case hk => rfl
      case h1 =>
        intro wq_14 kq_14
        refine WL.pickF rfl rfl rfl (?_)
        refine WL.nil ?_
        exact WX.one ⟨rfl, by first | exact Chg.refl _ _ | assumption⟩
      apply DQT.step (E' := [(108, _)])
      case ho => rfl
      case hs => exact ⟨rfl, trivial⟩
      case hk => rfl
      case h1 =>
        intro wq_15 kq_15
        refine WL.move rfl rfl (?_)
        refine WL.nil ?_
        exact WX.one ⟨rfl, by first | exact Chg.refl _ _ | assumption⟩
      apply DQT.step (E' := [(11, _), (109, _)])
      case ho => rfl
      case hs => exact ⟨rfl, rfl, trivial⟩
      case hk => rfl
      case h1 =>
        intro wq_16 kq_16
        refine WL.want rfl rfl rfl (WL.move rfl rfl (?_))
        refine WL.nil ?_
        exact WX.one ⟨rfl, by first | exact Chg.refl _ _ | assumption⟩
      apply DQT.step (E' := [(110, _), (109, _)])
      case ho => rfl
      case hs => exact ⟨rfl, rfl, trivial⟩
      case hk => rfl
      case h1 =>
        intro wq_17 kq_17
        refine WL.want rfl rfl rfl (?_)
        refine WL.neqF rfl rfl rfl (by first | rfl | omega | decide) ?_
        refine WL.nil ?_
        exact WX.one ⟨rfl, by first | exact Chg.refl _ _ | assumption⟩
      apply DQT.step (E' := [(109, _), (111, _)])
      case ho => rfl
      case hs => exact ⟨rfl, rfl, trivial⟩
      case hk => rfl
      case h1 =>
        intro wq_18 kq_18
        refine WL.pickF rfl rfl rfl (?_)
        refine WL.nil ?_
        exact WX.one ⟨rfl, by first | exact Chg.refl _ _ | assumption⟩
      apply DQT.step (E' := [(112, _)])
      case ho => rfl
      case hs => exact ⟨rfl, trivial⟩
      case hk => rfl
      case h1 =>
        intro wq_19 kq_19
        refine WL.move rfl rfl (?_)
        refine WL.nil ?_
        exact WX.one ⟨rfl, by first | exact Chg.refl _ _ | assumption⟩
      apply DQT.step (E' := [(8, _), (113, _)])
      case ho => rfl
      case hs => exact ⟨rfl, rfl, trivial⟩
      case hk => rfl
      case h1 =>
        intro wq_20 kq_20
        refine WL.want rfl rfl rfl (WL.move rfl rfl (?_))
        refine WL.nil ?_
        exact WX.one ⟨rfl, by first | exact Chg.refl _ _ | assumption⟩
      refine DQT.done (fun hd_3 => ?_)
      refine ⟨?_, ?_, trivial, trivial, trivial, trivial, trivial, trivial, trivial, trivial, trivial, trivial⟩
      refine DT.step [(114, _), (113, _)] rfl ⟨rfl, rfl, trivial⟩ rfl (fun wq_21 kq_21 => ?_)
      have zs_kq_21 := kq_21.size
      replace hw := hw.pure kq_21
      replace hR := hR.pure kq_21
      replace hq1 := hq1.pure kq_21
      replace hq2 := hq2.pure kq_21
      replace hg := hg.pure kq_21
      replace hd_3 := hd_3.pure kq_21
      refine WL.want rfl rfl rfl (WL.toStr Try.underlying30 Try.underlying5 Try.underlying9 hq2 rfl rfl (?_))
      refine WL.nil ?_
      refine WX.one ⟨hd_3, ?_⟩
      refine ⟨?_, trivial, trivial, trivial, trivial, trivial, trivial, trivial, trivial, trivial, trivial⟩
      refine DT.step [(113, _)] rfl ⟨rfl, trivial⟩ rfl (fun wq_22 kq_22 => ?_)
      have zs_kq_22 := kq_22.size
      replace hw := hw.pure kq_22
      replace hR := hR.pure kq_22
      replace hq1 := hq1.pure kq_22
      replace hq2 := hq2.pure kq_22
      replace hg := hg.pure kq_22
      replace hd_3 := hd_3.pure kq_22
      refine WL.want rfl rfl rfl (?_)
      refine WL.make (e := eb) (0 : UInt8) 128 128 Try.underlying30 info_5 rfl rfl rfl ⟨rfl, rfl, Nat.le_refl _⟩ (by decide) rfl ?_
      intro g9 w9 hm k9 z9 eg9
      have zs_k9 := k9.size
      replace hw := hw.pure k9
      replace hR := hR.pure k9
      replace hq1 := hq1.pure k9
      replace hq2 := hq2.pure k9
      replace hg := hg.pure k9
      replace hd_3 := hd_3.pure k9
      refine WL.nil ?_
      refine WX.one ⟨hd_3, ?_⟩
      refine ⟨?_, trivial, trivial, trivial, trivial, trivial, trivial, trivial, trivial, trivial⟩
      refine DT.step [(116, _), (113, _)] rfl ⟨rfl, rfl, trivial⟩ rfl (fun wq_23 kq_23 => ?_)
      have zs_kq_23 := kq_23.size
      replace hw := hw.pure kq_23
      replace hR := hR.pure kq_23
      replace hq1 := hq1.pure kq_23
      replace hq2 := hq2.pure kq_23
      replace hg := hg.pure kq_23
      replace hd_3 := hd_3.pure kq_23
      replace hm := hm.pure kq_23
      refine WL.want rfl rfl rfl (WL.toStr Try.underlying30 Try.underlying5 Try.underlying9 hm.rsl rfl rfl (?_))
      refine WL.nil ?_
      refine WX.one ⟨hd_3, ?_⟩
      refine ⟨?_, trivial, trivial, trivial, trivial, trivial, trivial, trivial, trivial⟩
      refine DT.step [(115, _), (117, _), (113, _)] rfl ⟨rfl, rfl, rfl, trivial⟩ rfl (fun wq_24 kq_24 => ?_)
      have zs_kq_24 := kq_24.size
      replace hw := hw.pure kq_24
      replace hR := hR.pure kq_24
      replace hq1 := hq1.pure kq_24
      replace hq2 := hq2.pure kq_24
      replace hg := hg.pure kq_24
      replace hd_3 := hd_3.pure kq_24
      replace hm := hm.pure kq_24
      refine WL.want rfl rfl rfl (?_)
      refine WL.sneqF rfl rfl rfl ((by rfl)) ?_
      refine WL.nil ?_
      refine WX.one ⟨hd_3, ?_⟩
      refine ⟨?_, trivial, trivial, trivial, trivial, trivial, trivial, trivial⟩
      refine DT.step [(113, _), (118, _)] rfl ⟨rfl, rfl, trivial⟩ rfl (fun wq_25 kq_25 => ?_)
      have zs_kq_25 := kq_25.size
      replace hw := hw.pure kq_25
      replace hR := hR.pure kq_25
      replace hq1 := hq1.pure kq_25
      replace hq2 := hq2.pure kq_25
      replace hg := hg.pure kq_25
      replace hd_3 := hd_3.pure kq_25
      replace hm := hm.pure kq_25
      refine WL.pickF rfl rfl rfl (?_)
      refine WL.nil ?_
      refine WX.one ⟨hd_3, ?_⟩
      refine ⟨?_, trivial, trivial, trivial, trivial, trivial, trivial⟩
      refine DT.step [(119, _)] rfl ⟨rfl, trivial⟩ rfl (fun wq_26 kq_26 => ?_)
      have zs_kq_26 := kq_26.size
      replace hw := hw.pure kq_26
      replace hR := hR.pure kq_26
      replace hq1 := hq1.pure kq_26
      replace hq2 := hq2.pure kq_26
      replace hg := hg.pure kq_26
      replace hd_3 := hd_3.pure kq_26
      replace hm := hm.pure kq_26
      refine WL.move rfl rfl (?_)
      refine WL.nil ?_
      refine WX.one ⟨hd_3, ?_⟩
      refine ⟨?_, ?_, trivial, trivial, trivial, trivial⟩
      refine DT.step [(3, _), (120, _)] rfl ⟨rfl, rfl, trivial⟩ rfl (fun wq_27 kq_27 => ?_)
      have zs_kq_27 := kq_27.size
      replace hw := hw.pure kq_27
      replace hR := hR.pure kq_27
      replace hq1 := hq1.pure kq_27
      replace hq2 := hq2.pure kq_27
      replace hg := hg.pure kq_27
      replace hd_3 := hd_3.pure kq_27
      replace hm := hm.pure kq_27
      refine WL.want rfl rfl rfl (WL.move rfl rfl (?_))
      refine WL.nil ?_
      refine WX.one ⟨hd_3, ?_⟩
      refine ⟨?_, trivial, trivial, trivial, trivial⟩
      refine DT.step [(5, _), (120, _)] rfl ⟨rfl, rfl, trivial⟩ rfl (fun wq_28 kq_28 => ?_)
      have zs_kq_28 := kq_28.size
      replace hw := hw.pure kq_28
      replace hR := hR.pure kq_28
      replace hq1 := hq1.pure kq_28
      replace hq2 := hq2.pure kq_28
      replace hg := hg.pure kq_28
      replace hd_3 := hd_3.pure kq_28
      replace hm := hm.pure kq_28
      refine WL.want rfl rfl rfl (WL.move rfl rfl (?_))
      refine WL.nil ?_
      refine WX.one ⟨hd_3, ?_⟩
      refine ⟨?_, trivial, trivial, trivial⟩
      refine DT.step [(121, _), (122, _), (120, _)] rfl ⟨rfl, rfl, rfl, trivial⟩ rfl (fun wq_29 kq_29 => ?_)
      have zs_kq_29 := kq_29.size
      replace hw := hw.pure kq_29
      replace hR := hR.pure kq_29
      replace hq1 := hq1.pure kq_29
      replace hq2 := hq2.pure kq_29
      replace hg := hg.pure kq_29
      replace hd_3 := hd_3.pure kq_29
      replace hm := hm.pure kq_29
      refine WL.want rfl rfl rfl (?_)
      refine WL.call eg_19 rfl rfl (RotN (n := -1) (d := 1) (a := (k : Int)) hR (fun x hx => by omega) (by omega)) ?_
      rintro v w10 ⟨rfl, hR10, k10⟩
      have zs_k10 := k10.size
      replace hw := hw.chg k10 (by first | (intro x h1 h2; exact h2) | (intro x h0 h1 h2; exact hS x h1 h2) | (intro x h0 h1 h2; have h3 : _ = _ := h2; subst h3; exact hSR h1.1) | (intro x h1 h2; have h3 : _ = _ := h2; subst h3; assumption) | (intro x h1 h2; have h3 : _ = _ := h2; exfalso; omega) | (intro b h1 h2 h3; have h4 : _ = _ := h3; (try dsimp only at h2); exfalso; omega) | (intro h1; have h2 : _ = _ := h1; exfalso; omega) | (intro h1; have h2 : _ ≤ _ := h1; exfalso; omega) | (intros; exfalso; (try dsimp only at *); omega) | (intro b h1 h2 h3; exfalso; have h4 := h3.2; (try dsimp only at *); omega) | (intro h1; exfalso; have h4 := h1.2; (try dsimp only at *); omega) | (intro x h1 h2; exfalso; have h4 := h2.2; (try dsimp only at *); omega) | (intro x h1 h2; exact ⟨_, rfl, h2⟩) | (intro x h1 h2; have h4 := h2.1; have h5 := h2.2; exfalso; omega) | (intro x h1 h2; exact h2.1) | (intro x h1 h2; rcases h2.1 with h3 | h3; exact h3; exfalso; omega) | (intro x h1 h2; rcases h2 with h3 | h3; exact h3; exfalso; omega))
      replace hg := hg.chg k10 (by first | (intro x h1 h2; exact h2) | (intro x h0 h1 h2; exact hS x h1 h2) | (intro x h0 h1 h2; have h3 : _ = _ := h2; subst h3; exact hSR h1.1) | (intro x h1 h2; have h3 : _ = _ := h2; subst h3; assumption) | (intro x h1 h2; have h3 : _ = _ := h2; exfalso; omega) | (intro b h1 h2 h3; have h4 : _ = _ := h3; (try dsimp only at h2); exfalso; omega) | (intro h1; have h2 : _ = _ := h1; exfalso; omega) | (intro h1; have h2 : _ ≤ _ := h1; exfalso; omega) | (intros; exfalso; (try dsimp only at *); omega) | (intro b h1 h2 h3; exfalso; have h4 := h3.2; (try dsimp only at *); omega) | (intro h1; exfalso; have h4 := h1.2; (try dsimp only at *); omega) | (intro x h1 h2; exfalso; have h4 := h2.2; (try dsimp only at *); omega) | (intro x h1 h2; exact ⟨_, rfl, h2⟩) | (intro x h1 h2; have h4 := h2.1; have h5 := h2.2; exfalso; omega) | (intro x h1 h2; exact h2.1) | (intro x h1 h2; rcases h2.1 with h3 | h3; exact h3; exfalso; omega) | (intro x h1 h2; rcases h2 with h3 | h3; exact h3; exfalso; omega))
      replace hd_3 := hd_3.chg k10 (by first | (intro x h1 h2; exact h2) | (intro x h0 h1 h2; exact hS x h1 h2) | (intro x h0 h1 h2; have h3 : _ = _ := h2; subst h3; exact hSR h1.1) | (intro x h1 h2; have h3 : _ = _ := h2; subst h3; assumption) | (intro x h1 h2; have h3 : _ = _ := h2; exfalso; omega) | (intro b h1 h2 h3; have h4 : _ = _ := h3; (try dsimp only at h2); exfalso; omega) | (intro h1; have h2 : _ = _ := h1; exfalso; omega) | (intro h1; have h2 : _ ≤ _ := h1; exfalso; omega) | (intros; exfalso; (try dsimp only at *); omega) | (intro b h1 h2 h3; exfalso; have h4 := h3.2; (try dsimp only at *); omega) | (intro h1; exfalso; have h4 := h1.2; (try dsimp only at *); omega) | (intro x h1 h2; exfalso; have h4 := h2.2; (try dsimp only at *); omega) | (intro x h1 h2; exact ⟨_, rfl, h2⟩) | (intro x h1 h2; have h4 := h2.1; have h5 := h2.2; exfalso; omega) | (intro x h1 h2; exact h2.1) | (intro x h1 h2; rcases h2.1 with h3 | h3; exact h3; exfalso; omega) | (intro x h1 h2; rcases h2 with h3 | h3; exact h3; exfalso; omega))
      refine WL.nil ?_
      refine WX.one ⟨hd_3, ?_⟩
      refine ⟨?_, trivial, trivial⟩
      refine DT.step [(123, _), (120, _)] rfl ⟨rfl, rfl, trivial⟩ rfl (fun wq_30 kq_30 => ?_)
      have zs_kq_30 := kq_30.size
      replace hw := hw.pure kq_30
      replace hg := hg.pure kq_30
      replace hd_3 := hd_3.pure kq_30
      replace hR10 := hR10.pure kq_30
      refine WL.want rfl rfl rfl (?_)
      refine WL.neqF rfl rfl rfl (by first | rfl | omega | decide) ?_
      refine WL.nil ?_
      refine WX.one ⟨hd_3, ?_⟩
      refine ⟨?_, trivial⟩
      refine DT.step [(120, _), (124, _)] rfl ⟨rfl, rfl, trivial⟩ rfl (fun wq_31 kq_31 => ?_)
      have zs_kq_31 := kq_31.size
      replace hw := hw.pure kq_31
      replace hg := hg.pure kq_31
      replace hd_3 := hd_3.pure kq_31
      replace hR10 := hR10.pure kq_31
      refine WL.pickF rfl rfl rfl (?_)
      refine WL.nil ?_
      refine WX.one ⟨hd_3, ?_⟩
      refine DT.done (fun we_32 ke_32 => ?_) _
      have zs_ke_32 := ke_32.size
      replace hw := hw.pure ke_32
      replace hg := hg.pure ke_32
      replace hd_3 := hd_3.pure ke_32
      replace hR10 := hR10.pure ke_32
      rotate_left
      refine DT.step [(5, _), (120, _)] rfl ⟨rfl, rfl, trivial⟩ rfl (fun wq_27 kq_27 => ?_)
      have zs_kq_27 := kq_27.size
      replace hw := hw.pure kq_27
      replace hR := hR.pure kq_27
      replace hq1 := hq1.pure kq_27
      replace hq2 := hq2.pure kq_27
      replace hg := hg.pure kq_27
      replace hd_3 := hd_3.pure kq_27
      replace hm := hm.pure kq_27
      refine WL.want rfl rfl rfl (WL.move rfl rfl (?_))
      refine WL.nil ?_
      refine WX.one ⟨hd_3, ?_⟩
      refine ⟨?_, trivial, trivial, trivial, trivial⟩
      refine DT.step [(3, _), (120, _)] rfl ⟨rfl, rfl, trivial⟩ rfl (fun wq_28 kq_28 => ?_)
      have zs_kq_28 := kq_28.size
      replace hw := hw.pure kq_28
      replace hR := hR.pure kq_28
      replace hq1 := hq1.pure kq_28
      replace hq2 := hq2.pure kq_28
      replace hg := hg.pure kq_28
      replace hd_3 := hd_3.pure kq_28
      replace hm := hm.pure kq_28
      refine WL.want rfl rfl rfl (WL.move rfl rfl (?_))
      refine WL.nil ?_
      refine WX.one ⟨hd_3, ?_⟩
      refine ⟨?_, trivial, trivial, trivial⟩
      refine DT.step [(121, _), (122, _), (120, _)] rfl ⟨rfl, rfl, rfl, trivial⟩ rfl (fun wq_29 kq_29 => ?_)
      have zs_kq_29 := kq_29.size
      replace hw := hw.pure kq_29
      replace hR := hR.pure kq_29
      replace hq1 := hq1.pure kq_29
      replace hq2 := hq2.pure kq_29
      replace hg := hg.pure kq_29
      replace hd_3 := hd_3.pure kq_29
      replace hm := hm.pure kq_29
      refine WL.want rfl rfl rfl (?_)
      refine WL.call eg_19 rfl rfl (RotN (n := -1) (d := 1) (a := (k : Int)) hR (fun x hx => by omega) (by omega)) ?_
      rintro v w10 ⟨rfl, hR10, k10⟩
      have zs_k10 := k10.size
      replace hw := hw.chg k10 (by first | (intro x h1 h2; exact h2) | (intro x h0 h1 h2; exact hS x h1 h2) | (intro x h0 h1 h2; have h3 : _ = _ := h2; subst h3; exact hSR h1.1) | (intro x h1 h2; have h3 : _ = _ := h2; subst h3; assumption) | (intro x h1 h2; have h3 : _ = _ := h2; exfalso; omega) | (intro b h1 h2 h3; have h4 : _ = _ := h3; (try dsimp only at h2); exfalso; omega) | (intro h1; have h2 : _ = _ := h1; exfalso; omega) | (intro h1; have h2 : _ ≤ _ := h1; exfalso; omega) | (intros; exfalso; (try dsimp only at *); omega) | (intro b h1 h2 h3; exfalso; have h4 := h3.2; (try dsimp only at *); omega) | (intro h1; exfalso; have h4 := h1.2; (try dsimp only at *); omega) | (intro x h1 h2; exfalso; have h4 := h2.2; (try dsimp only at *); omega) | (intro x h1 h2; exact ⟨_, rfl, h2⟩) | (intro x h1 h2; have h4 := h2.1; have h5 := h2.2; exfalso; omega) | (intro x h1 h2; exact h2.1) | (intro x h1 h2; rcases h2.1 with h3 | h3; exact h3; exfalso; omega) | (intro x h1 h2; rcases h2 with h3 | h3; exact h3; exfalso; omega))
      replace hg := hg.chg k10 (by first | (intro x h1 h2; exact h2) | (intro x h0 h1 h2; exact hS x h1 h2) | (intro x h0 h1 h2; have h3 : _ = _ := h2; subst h3; exact hSR h1.1) | (intro x h1 h2; have h3 : _ = _ := h2; subst h3; assumption) | (intro x h1 h2; have h3 : _ = _ := h2; exfalso; omega) | (intro b h1 h2 h3; have h4 : _ = _ := h3; (try dsimp only at h2); exfalso; omega) | (intro h1; have h2 : _ = _ := h1; exfalso; omega) | (intro h1; have h2 : _ ≤ _ := h1; exfalso; omega) | (intros; exfalso; (try dsimp only at *); omega) | (intro b h1 h2 h3; exfalso; have h4 := h3.2; (try dsimp only at *); omega) | (intro h1; exfalso; have h4 := h1.2; (try dsimp only at *); omega) | (intro x h1 h2; exfalso; have h4 := h2.2; (try dsimp only at *); omega) | (intro x h1 h2; exact ⟨_, rfl, h2⟩) | (intro x h1 h2; have h4 := h2.1; have h5 := h2.2; exfalso; omega) | (intro x h1 h2; exact h2.1) | (intro x h1 h2; rcases h2.1 with h3 | h3; exact h3; exfalso; omega) | (intro x h1 h2; rcases h2 with h3 | h3; exact h3; exfalso; omega))
      replace hd_3 := hd_3.chg k10 (by first | (intro x h1 h2; exact h2) | (intro x h0 h1 h2; exact hS x h1 h2) | (intro x h0 h1 h2; have h3 : _ = _ := h2; subst h3; exact hSR h1.1) | (intro x h1 h2; have h3 : _ = _ := h2; subst h3; assumption) | (intro x h1 h2; have h3 : _ = _ := h2; exfalso; omega) | (intro b h1 h2 h3; have h4 : _ = _ := h3; (try dsimp only at h2); exfalso; omega) | (intro h1; have h2 : _ = _ := h1; exfalso; omega) | (intro h1; have h2 : _ ≤ _ := h1; exfalso; omega) | (intros; exfalso; (try dsimp only at *); omega) | (intro b h1 h2 h3; exfalso; have h4 := h3.2; (try dsimp only at *); omega) | (intro h1; exfalso; have h4 := h1.2; (try dsimp only at *); omega) | (intro x h1 h2; exfalso; have h4 := h2.2; (try dsimp only at *); omega) | (intro x h1 h2; exact ⟨_, rfl, h2⟩) | (intro x h1 h2; have h4 := h2.1; have h5 := h2.2; exfalso; omega) | (intro x h1 h2; exact h2.1) | (intro x h1 h2; rcases h2.1 with h3 | h3; exact h3; exfalso; omega) | (intro x h1 h2; rcases h2 with h3 | h3; exact h3; exfalso; omega))
      refine WL.nil ?_
      refine WX.one ⟨hd_3, ?_⟩
      refine ⟨?_, trivial, trivial⟩
      refine DT.step [(123, _), (120, _)] rfl ⟨rfl, rfl, trivial⟩ rfl (fun wq_30 kq_30 => ?_)
      have zs_kq_30 := kq_30.size
      replace hw := hw.pure kq_30
      replace hg := hg.pure kq_30
      replace hd_3 := hd_3.pure kq_30
      replace hR10 := hR10.pure kq_30
      refine WL.want rfl rfl rfl (?_)
      refine WL.neqF rfl rfl rfl (by first | rfl | omega | decide) ?_
      refine WL.nil ?_
      refine WX.one ⟨hd_3, ?_⟩
      refine ⟨?_, trivial⟩
      refine DT.step [(120, _), (124, _)] rfl ⟨rfl, rfl, trivial⟩ rfl (fun wq_31 kq_31 => ?_)
      have zs_kq_31 := kq_31.size
      replace hw := hw.pure kq_31
      replace hg := hg.pure kq_31
      replace hd_3 := hd_3.pure kq_31
      replace hR10 := hR10.pure kq_31
      refine WL.pickF rfl rfl rfl (?_)
      refine WL.nil ?_
      refine WX.one ⟨hd_3, ?_⟩
      refine DT.done (fun we_32 ke_32 => ?_) _
      have zs_ke_32 := ke_32.size
      replace hw := hw.pure ke_32
      replace hg := hg.pure ke_32
      replace hd_3 := hd_3.pure ke_32
      replace hR10 := hR10.pure ke_32
      rotate_left
      refine DT.step [(113, _)] rfl ⟨rfl, trivial⟩ rfl (fun wq_21 kq_21 => ?_)
      have zs_kq_21 := kq_21.size
      replace hw := hw.pure kq_21
      replace hR := hR.pure kq_21
      replace hq1 := hq1.pure kq_21
      replace hq2 := hq2.pure kq_21
      replace hg := hg.pure kq_21
      replace hd_3 := hd_3.pure kq_21
      refine WL.want rfl rfl rfl (?_)
      refine WL.make (e := eb) (0 : UInt8) 128 128 Try.underlying30 info_5 rfl rfl rfl ⟨rfl, rfl, Nat.le_refl _⟩ (by decide) rfl ?_
      intro g9 w9 hm k9 z9 eg9
      have zs_k9 := k9.size
      replace hw := hw.pure k9
      replace hR := hR.pure k9
      replace hq1 := hq1.pure k9
      replace hq2 := hq2.pure k9
      replace hg := hg.pure k9
      replace hd_3 := hd_3.pure k9
      refine WL.nil ?_
      refine WX.one ⟨hd_3, ?_⟩
      refine ⟨?_, ?_, trivial, trivial, trivial, trivial, trivial, trivial, trivial, trivial, trivial⟩
      refine DT.step [(114, _), (113, _)] rfl ⟨rfl, rfl, trivial⟩ rfl (fun wq_22 kq_22 => ?_)
      have zs_kq_22 := kq_22.size
      replace hw := hw.pure kq_22
      replace hR := hR.pure kq_22
      replace hq1 := hq1.pure kq_22
      replace hq2 := hq2.pure kq_22
      replace hg := hg.pure kq_22
      replace hd_3 := hd_3.pure kq_22
      replace hm := hm.pure kq_22
      refine WL.want rfl rfl rfl (WL.toStr Try.underlying30 Try.underlying5 Try.underlying9 hq2 rfl rfl (?_))
      refine WL.nil ?_
      refine WX.one ⟨hd_3, ?_⟩
      refine ⟨?_, trivial, trivial, trivial, trivial, trivial, trivial, trivial, trivial, trivial⟩
      refine DT.step [(116, _), (113, _)] rfl ⟨rfl, rfl, trivial⟩ rfl (fun wq_23 kq_23 => ?_)
      have zs_kq_23 := kq_23.size
      replace hw := hw.pure kq_23
      replace hR := hR.pure kq_23
      replace hq1 := hq1.pure kq_23
      replace hq2 := hq2.pure kq_23
      replace hg := hg.pure kq_23
      replace hd_3 := hd_3.pure kq_23
      replace hm := hm.pure kq_23
      refine WL.want rfl rfl rfl (WL.toStr Try.underlying30 Try.underlying5 Try.underlying9 hm.rsl rfl rfl (?_))
      refine WL.nil ?_
      refine WX.one ⟨hd_3, ?_⟩
      refine ⟨?_, trivial, trivial, trivial, trivial, trivial, trivial, trivial, trivial⟩
      refine DT.step [(115, _), (117, _), (113, _)] rfl ⟨rfl, rfl, rfl, trivial⟩ rfl (fun wq_24 kq_24 => ?_)
      have zs_kq_24 := kq_24.size
      replace hw := hw.pure kq_24
      replace hR := hR.pure kq_24
      replace hq1 := hq1.pure kq_24
      replace hq2 := hq2.pure kq_24
      replace hg := hg.pure kq_24
      replace hd_3 := hd_3.pure kq_24
      replace hm := hm.pure kq_24
      refine WL.want rfl rfl rfl (?_)
      refine WL.sneqF rfl rfl rfl ((by rfl)) ?_
      refine WL.nil ?_
      refine WX.one ⟨hd_3, ?_⟩
      refine ⟨?_, trivial, trivial, trivial, trivial, trivial, trivial, trivial⟩
      refine DT.step [(113, _), (118, _)] rfl ⟨rfl, rfl, trivial⟩ rfl (fun wq_25 kq_25 => ?_)
      have zs_kq_25 := kq_25.size
      replace hw := hw.pure kq_25
      replace hR := hR.pure kq_25
      replace hq1 := hq1.pure kq_25
      replace hq2 := hq2.pure kq_25
      replace hg := hg.pure kq_25
      replace hd_3 := hd_3.pure kq_25
      replace hm := hm.pure kq_25
      refine WL.pickF rfl rfl rfl (?_)
      refine WL.nil ?_
      refine WX.one ⟨hd_3, ?_⟩
      refine ⟨?_, trivial, trivial, trivial, trivial, trivial, trivial⟩
      refine DT.step [(119, _)] rfl ⟨rfl, trivial⟩ rfl (fun wq_26 kq_26 => ?_)
      have zs_kq_26 := kq_26.size
      replace hw := hw.pure kq_26
      replace hR := hR.pure kq_26
      replace hq1 := hq1.pure kq_26
      replace hq2 := hq2.pure kq_26
      replace hg := hg.pure kq_26
      replace hd_3 := hd_3.pure kq_26
      replace hm := hm.pure kq_26
      refine WL.move rfl rfl (?_)
      refine WL.nil ?_
      refine WX.one ⟨hd_3, ?_⟩
      refine ⟨?_, ?_, trivial, trivial, trivial, trivial⟩
      refine DT.step [(3, _), (120, _)] rfl ⟨rfl, rfl, trivial⟩ rfl (fun wq_27 kq_27 => ?_)
      have zs_kq_27 := kq_27.size
      replace hw := hw.pure kq_27
      replace hR := hR.pure kq_27
      replace hq1 := hq1.pure kq_27
      replace hq2 := hq2.pure kq_27
      replace hg := hg.pure kq_27
      replace hd_3 := hd_3.pure kq_27
      replace hm := hm.pure kq_27
      refine WL.want rfl rfl rfl (WL.move rfl rfl (?_))
      refine WL.nil ?_
      refine WX.one ⟨hd_3, ?_⟩
      refine ⟨?_, trivial, trivial, trivial, trivial⟩
      refine DT.step [(5, _), (120, _)] rfl ⟨rfl, rfl, trivial⟩ rfl (fun wq_28 kq_28 => ?_)
      have zs_kq_28 := kq_28.size
      replace hw := hw.pure kq_28
      replace hR := hR.pure kq_28
      replace hq1 := hq1.pure kq_28
      replace hq2 := hq2.pure kq_28
      replace hg := hg.pure kq_28
      replace hd_3 := hd_3.pure kq_28
      replace hm := hm.pure kq_28
      refine WL.want rfl rfl rfl (WL.move rfl rfl (?_))
      refine WL.nil ?_
      refine WX.one ⟨hd_3, ?_⟩
      refine ⟨?_, trivial, trivial, trivial⟩
      refine DT.step [(121, _), (122, _), (120, _)] rfl ⟨rfl, rfl, rfl, trivial⟩ rfl (fun wq_29 kq_29 => ?_)
      have zs_kq_29 := kq_29.size
      replace hw := hw.pure kq_29
      replace hR := hR.pure kq_29
      replace hq1 := hq1.pure kq_29
      replace hq2 := hq2.pure kq_29
      replace hg := hg.pure kq_29
      replace hd_3 := hd_3.pure kq_29
      replace hm := hm.pure kq_29
      refine WL.want rfl rfl rfl (?_)
      refine WL.call eg_19 rfl rfl (RotN (n := -1) (d := 1) (a := (k : Int)) hR (fun x hx => by omega) (by omega)) ?_
      rintro v w10 ⟨rfl, hR10, k10⟩
      have zs_k10 := k10.size
      replace hw := hw.chg k10 (by first | (intro x h1 h2; exact h2) | (intro x h0 h1 h2; exact hS x h1 h2) | (intro x h0 h1 h2; have h3 : _ = _ := h2; subst h3; exact hSR h1.1) | (intro x h1 h2; have h3 : _ = _ := h2; subst h3; assumption) | (intro x h1 h2; have h3 : _ = _ := h2; exfalso; omega) | (intro b h1 h2 h3; have h4 : _ = _ := h3; (try dsimp only at h2); exfalso; omega) | (intro h1; have h2 : _ = _ := h1; exfalso; omega) | (intro h1; have h2 : _ ≤ _ := h1; exfalso; omega) | (intros; exfalso; (try dsimp only at *); omega) | (intro b h1 h2 h3; exfalso; have h4 := h3.2; (try dsimp only at *); omega) | (intro h1; exfalso; have h4 := h1.2; (try dsimp only at *); omega) | (intro x h1 h2; exfalso; have h4 := h2.2; (try dsimp only at *); omega) | (intro x h1 h2; exact ⟨_, rfl, h2⟩) | (intro x h1 h2; have h4 := h2.1; have h5 := h2.2; exfalso; omega) | (intro x h1 h2; exact h2.1) | (intro x h1 h2; rcases h2.1 with h3 | h3; exact h3; exfalso; omega) | (intro x h1 h2; rcases h2 with h3 | h3; exact h3; exfalso; omega))
      replace hg := hg.chg k10 (by first | (intro x h1 h2; exact h2) | (intro x h0 h1 h2; exact hS x h1 h2) | (intro x h0 h1 h2; have h3 : _ = _ := h2; subst h3; exact hSR h1.1) | (intro x h1 h2; have h3 : _ = _ := h2; subst h3; assumption) | (intro x h1 h2; have h3 : _ = _ := h2; exfalso; omega) | (intro b h1 h2 h3; have h4 : _ = _ := h3; (try dsimp only at h2); exfalso; omega) | (intro h1; have h2 : _ = _ := h1; exfalso; omega) | (intro h1; have h2 : _ ≤ _ := h1; exfalso; omega) | (intros; exfalso; (try dsimp only at *); omega) | (intro b h1 h2 h3; exfalso; have h4 := h3.2; (try dsimp only at *); omega) | (intro h1; exfalso; have h4 := h1.2; (try dsimp only at *); omega) | (intro x h1 h2; exfalso; have h4 := h2.2; (try dsimp only at *); omega) | (intro x h1 h2; exact ⟨_, rfl, h2⟩) | (intro x h1 h2; have h4 := h2.1; have h5 := h2.2; exfalso; omega) | (intro x h1 h2; exact h2.1) | (intro x h1 h2; rcases h2.1 with h3 | h3; exact h3; exfalso; omega) | (intro x h1 h2; rcases h2 with h3 | h3; exact h3; exfalso; omega))
      replace hd_3 := hd_3.chg k10 (by first | (intro x h1 h2; exact h2) | (intro x h0 h1 h2; exact hS x h1 h2) | (intro x h0 h1 h2; have h3 : _ = _ := h2; subst h3; exact hSR h1.1) | (intro x h1 h2; have h3 : _ = _ := h2; subst h3; assumption) | (intro x h1 h2; have h3 : _ = _ := h2; exfalso; omega) | (intro b h1 h2 h3; have h4 : _ = _ := h3; (try dsimp only at h2); exfalso; omega) | (intro h1; have h2 : _ = _ := h1; exfalso; omega) | (intro h1; have h2 : _ ≤ _ := h1; exfalso; omega) | (intros; exfalso; (try dsimp only at *); omega) | (intro b h1 h2 h3; exfalso; have h4 := h3.2; (try dsimp only at *); omega) | (intro h1; exfalso; have h4 := h1.2; (try dsimp only at *); omega) | (intro x h1 h2; exfalso; have h4 := h2.2; (try dsimp only at *); omega) | (intro x h1 h2; exact ⟨_, rfl, h2⟩) | (intro x h1 h2; have h4 := h2.1; have h5 := h2.2; exfalso; omega) | (intro x h1 h2; exact h2.1) | (intro x h1 h2; rcases h2.1 with h3 | h3; exact h3; exfalso; omega) | (intro x h1 h2; rcases h2 with h3 | h3; exact h3; exfalso; omega))
      refine WL.nil ?_
      refine WX.one ⟨hd_3, ?_⟩
      refine ⟨?_, trivial, trivial⟩
      refine DT.step [(123, _), (120, _)] rfl ⟨rfl, rfl, trivial⟩ rfl (fun wq_30 kq_30 => ?_)
      have zs_kq_30 := kq_30.size
      replace hw := hw.pure kq_30
      replace hg := hg.pure kq_30
      replace hd_3 := hd_3.pure kq_30
      replace hR10 := hR10.pure kq_30
      refine WL.want rfl rfl rfl (?_)
      refine WL.neqF rfl rfl rfl (by first | rfl | omega | decide) ?_
      refine WL.nil ?_
      refine WX.one ⟨hd_3, ?_⟩
      refine ⟨?_, trivial⟩
      refine DT.step [(120, _), (124, _)] rfl ⟨rfl, rfl, trivial⟩ rfl (fun wq_31 kq_31 => ?_)
      have zs_kq_31 := kq_31.size
      replace hw := hw.pure kq_31
      replace hg := hg.pure kq_31
      replace hd_3 := hd_3.pure kq_31
      replace hR10 := hR10.pure kq_31
      refine WL.pickF rfl rfl rfl (?_)
      refine WL.nil ?_
      refine WX.one ⟨hd_3, ?_⟩
      refine DT.done (fun we_32 ke_32 => ?_) _
      have zs_ke_32 := ke_32.size
      replace hw := hw.pure ke_32
      replace hg := hg.pure ke_32
      replace hd_3 := hd_3.pure ke_32
      replace hR10 := hR10.pure ke_32
      rotate_left
      refine DT.step [(5, _), (120, _)] rfl ⟨rfl, rfl, trivial⟩ rfl (fun wq_27 kq_27 => ?_)
      have zs_kq_27 := kq_27.size
      replace hw := hw.pure kq_27
      replace hR := hR.pure kq_27
      replace hq1 := hq1.pure kq_27
      replace hq2 := hq2.pure kq_27
      replace hg := hg.pure kq_27
      replace hd_3 := hd_3.pure kq_27
      replace hm := hm.pure kq_27
      refine WL.want rfl rfl rfl (WL.move rfl rfl (?_))
      refine WL.nil ?_
      refine WX.one ⟨hd_3, ?_⟩
      refine ⟨?_, trivial, trivial, trivial, trivial⟩
      refine DT.step [(3, _), (120, _)] rfl ⟨rfl, rfl, trivial⟩ rfl (fun wq_28 kq_28 => ?_)
      have zs_kq_28 := kq_28.size
      replace hw := hw.pure kq_28
      replace hR := hR.pure kq_28
      replace hq1 := hq1.pure kq_28
      replace hq2 := hq2.pure kq_28
      replace hg := hg.pure kq_28
      replace hd_3 := hd_3.pure kq_28
      replace hm := hm.pure kq_28
      refine WL.want rfl rfl rfl (WL.move rfl rfl (?_))
      refine WL.nil ?_
      refine WX.one ⟨hd_3, ?_⟩
      refine ⟨?_, trivial, trivial, trivial⟩
      refine DT.step [(121, _), (122, _), (120, _)] rfl ⟨rfl, rfl, rfl, trivial⟩ rfl (fun wq_29 kq_29 => ?_)
      have zs_kq_29 := kq_29.size
      replace hw := hw.pure kq_29
      replace hR := hR.pure kq_29
      replace hq1 := hq1.pure kq_29
      replace hq2 := hq2.pure kq_29
      replace hg := hg.pure kq_29
      replace hd_3 := hd_3.pure kq_29
      replace hm := hm.pure kq_29
      refine WL.want rfl rfl rfl (?_)
      refine WL.call eg_19 rfl rfl (RotN (n := -1) (d := 1) (a := (k : Int)) hR (fun x hx => by omega) (by omega)) ?_
      rintro v w10 ⟨rfl, hR10, k10⟩
      have zs_k10 := k10.size
      replace hw := hw.chg k10 (by first | (intro x h1 h2; exact h2) | (intro x h0 h1 h2; exact hS x h1 h2) | (intro x h0 h1 h2; have h3 : _ = _ := h2; subst h3; exact hSR h1.1) | (intro x h1 h2; have h3 : _ = _ := h2; subst h3; assumption) | (intro x h1 h2; have h3 : _ = _ := h2; exfalso; omega) | (intro b h1 h2 h3; have h4 : _ = _ := h3; (try dsimp only at h2); exfalso; omega) | (intro h1; have h2 : _ = _ := h1; exfalso; omega) | (intro h1; have h2 : _ ≤ _ := h1; exfalso; omega) | (intros; exfalso; (try dsimp only at *); omega) | (intro b h1 h2 h3; exfalso; have h4 := h3.2; (try dsimp only at *); omega) | (intro h1; exfalso; have h4 := h1.2; (try dsimp only at *); omega) | (intro x h1 h2; exfalso; have h4 := h2.2; (try dsimp only at *); omega) | (intro x h1 h2; exact ⟨_, rfl, h2⟩) | (intro x h1 h2; have h4 := h2.1; have h5 := h2.2; exfalso; omega) | (intro x h1 h2; exact h2.1) | (intro x h1 h2; rcases h2.1 with h3 | h3; exact h3; exfalso; omega) | (intro x h1 h2; rcases h2 with h3 | h3; exact h3; exfalso; omega))
      replace hg := hg.chg k10 (by first | (intro x h1 h2; exact h2) | (intro x h0 h1 h2; exact hS x h1 h2) | (intro x h0 h1 h2; have h3 : _ = _ := h2; subst h3; exact hSR h1.1) | (intro x h1 h2; have h3 : _ = _ := h2; subst h3; assumption) | (intro x h1 h2; have h3 : _ = _ := h2; exfalso; omega) | (intro b h1 h2 h3; have h4 : _ = _ := h3; (try dsimp only at h2); exfalso; omega) | (intro h1; have h2 : _ = _ := h1; exfalso; omega) | (intro h1; have h2 : _ ≤ _ := h1; exfalso; omega) | (intros; exfalso; (try dsimp only at *); omega) | (intro b h1 h2 h3; exfalso; have h4 := h3.2; (try dsimp only at *); omega) | (intro h1; exfalso; have h4 := h1.2; (try dsimp only at *); omega) | (intro x h1 h2; exfalso; have h4 := h2.2; (try dsimp only at *); omega) | (intro x h1 h2; exact ⟨_, rfl, h2⟩) | (intro x h1 h2; have h4 := h2.1; have h5 := h2.2; exfalso; omega) | (intro x h1 h2; exact h2.1) | (intro x h1 h2; rcases h2.1 with h3 | h3; exact h3; exfalso; omega) | (intro x h1 h2; rcases h2 with h3 | h3; exact h3; exfalso; omega))
      replace hd_3 := hd_3.chg k10 (by first | (intro x h1 h2; exact h2) | (intro x h0 h1 h2; exact hS x h1 h2) | (intro x h0 h1 h2; have h3 : _ = _ := h2; subst h3; exact hSR h1.1) | (intro x h1 h2; have h3 : _ = _ := h2; subst h3; assumption) | (intro x h1 h2; have h3 : _ = _ := h2; exfalso; omega) | (intro b h1 h2 h3; have h4 : _ = _ := h3; (try dsimp only at h2); exfalso; omega) | (intro h1; have h2 : _ = _ := h1; exfalso; omega) | (intro h1; have h2 : _ ≤ _ := h1; exfalso; omega) | (intros; exfalso; (try dsimp only at *); omega) | (intro b h1 h2 h3; exfalso; have h4 := h3.2; (try dsimp only at *); omega) | (intro h1; exfalso; have h4 := h1.2; (try dsimp only at *); omega) | (intro x h1 h2; exfalso; have h4 := h2.2; (try dsimp only at *); omega) | (intro x h1 h2; exact ⟨_, rfl, h2⟩) | (intro x h1 h2; have h4 := h2.1; have h5 := h2.2; exfalso; omega) | (intro x h1 h2; exact h2.1) | (intro x h1 h2; rcases h2.1 with h3 | h3; exact h3; exfalso; omega) | (intro x h1 h2; rcases h2 with h3 | h3; exact h3; exfalso; omega))
      refine WL.nil ?_
      refine WX.one ⟨hd_3, ?_⟩
      refine ⟨?_, trivial, trivial⟩
      refine DT.step [(123, _), (120, _)] rfl ⟨rfl, rfl, trivial⟩ rfl (fun wq_30 kq_30 => ?_)
      have zs_kq_30 := kq_30.size
      replace hw := hw.pure kq_30
      replace hg := hg.pure kq_30
      replace hd_3 := hd_3.pure kq_30
      replace hR10 := hR10.pure kq_30
      refine WL.want rfl rfl rfl (?_)
      refine WL.neqF rfl rfl rfl (by first | rfl | omega | decide) ?_
      refine WL.nil ?_
      refine WX.one ⟨hd_3, ?_⟩
      refine ⟨?_, trivial⟩
      refine DT.step [(120, _), (124, _)] rfl ⟨rfl, rfl, trivial⟩ rfl (fun wq_31 kq_31 => ?_)
      have zs_kq_31 := kq_31.size
      replace hw := hw.pure kq_31
      replace hg := hg.pure kq_31
      replace hd_3 := hd_3.pure kq_31
      replace hR10 := hR10.pure kq_31
      refine WL.pickF rfl rfl rfl (?_)
      refine WL.nil ?_
      refine WX.one ⟨hd_3, ?_⟩
      refine DT.done (fun we_32 ke_32 => ?_) _
      have zs_ke_32 := ke_32.size
      replace hw := hw.pure ke_32
      replace hg := hg.pure ke_32
      replace hd_3 := hd_3.pure ke_32
      replace hR10 := hR10.pure ke_32
      rotate_left
      refine DT.step [(116, _), (113, _)] rfl ⟨rfl, rfl, trivial⟩ rfl (fun wq_22 kq_22 => ?_)
      have zs_kq_22 := kq_22.size
      replace hw := hw.pure kq_22
      replace hR := hR.pure kq_22
      replace hq1 := hq1.pure kq_22
      replace hq2 := hq2.pure kq_22
      replace hg := hg.pure kq_22
      replace hd_3 := hd_3.pure kq_22
      replace hm := hm.pure kq_22
      refine WL.want rfl rfl rfl (WL.toStr Try.underlying30 Try.underlying5 Try.underlying9 hm.rsl rfl rfl (?_))
      refine WL.nil ?_
      refine WX.one ⟨hd_3, ?_⟩
      refine ⟨?_, trivial, trivial, trivial, trivial, trivial, trivial, trivial, trivial, trivial⟩
      refine DT.step [(114, _), (113, _)] rfl ⟨rfl, rfl, trivial⟩ rfl (fun wq_23 kq_23 => ?_)
      have zs_kq_23 := kq_23.size
      replace hw := hw.pure kq_23
      replace hR := hR.pure kq_23
      replace hq1 := hq1.pure kq_23
      replace hq2 := hq2.pure kq_23
      replace hg := hg.pure kq_23
      replace hd_3 := hd_3.pure kq_23
      replace hm := hm.pure kq_23
      refine WL.want rfl rfl rfl (WL.toStr Try.underlying30 Try.underlying5 Try.underlying9 hq2 rfl rfl (?_))
      refine WL.nil ?_
      refine WX.one ⟨hd_3, ?_⟩
      refine ⟨?_, trivial, trivial, trivial, trivial, trivial, trivial, trivial, trivial⟩
      refine DT.step [(115, _), (117, _), (113, _)] rfl ⟨rfl, rfl, rfl, trivial⟩ rfl (fun wq_24 kq_24 => ?_)
      have zs_kq_24 := kq_24.size
      replace hw := hw.pure kq_24
      replace hR := hR.pure kq_24
      replace hq1 := hq1.pure kq_24
      replace hq2 := hq2.pure kq_24
      replace hg := hg.pure kq_24
      replace hd_3 := hd_3.pure kq_24
      replace hm := hm.pure kq_24
      refine WL.want rfl rfl rfl (?_)
      refine WL.sneqF rfl rfl rfl ((by rfl)) ?_
      refine WL.nil ?_
      refine WX.one ⟨hd_3, ?_⟩
      refine ⟨?_, trivial, trivial, trivial, trivial, trivial, trivial, trivial⟩
      refine DT.step [(113, _), (118, _)] rfl ⟨rfl, rfl, trivial⟩ rfl (fun wq_25 kq_25 => ?_)
      have zs_kq_25 := kq_25.size
      replace hw := hw.pure kq_25
      replace hR := hR.pure kq_25
      replace hq1 := hq1.pure kq_25
      replace hq2 := hq2.pure kq_25
      replace hg := hg.pure kq_25
      replace hd_3 := hd_3.pure kq_25
      replace hm := hm.pure kq_25
      refine WL.pickF rfl rfl rfl (?_)
      refine WL.nil ?_
      refine WX.one ⟨hd_3, ?_⟩
      refine ⟨?_, trivial, trivial, trivial, trivial, trivial, trivial⟩
      refine DT.step [(119, _)] rfl ⟨rfl, trivial⟩ rfl (fun wq_26 kq_26 => ?_)
      have zs_kq_26 := kq_26.size
      replace hw := hw.pure kq_26
      replace hR := hR.pure kq_26
      replace hq1 := hq1.pure kq_26
      replace hq2 := hq2.pure kq_26
      replace hg := hg.pure kq_26
      replace hd_3 := hd_3.pure kq_26
      replace hm := hm.pure kq_26
      refine WL.move rfl rfl (?_)
      refine WL.nil ?_
      refine WX.one ⟨hd_3, ?_⟩
      refine ⟨?_, ?_, trivial, trivial, trivial, trivial⟩
      refine DT.step [(3, _), (120, _)] rfl ⟨rfl, rfl, trivial⟩ rfl (fun wq_27 kq_27 => ?_)
      have zs_kq_27 := kq_27.size
      replace hw := hw.pure kq_27
      replace hR := hR.pure kq_27
      replace hq1 := hq1.pure kq_27
      replace hq2 := hq2.pure kq_27
      replace hg := hg.pure kq_27
      replace hd_3 := hd_3.pure kq_27
      replace hm := hm.pure kq_27
      refine WL.want rfl rfl rfl (WL.move rfl rfl (?_))
      refine WL.nil ?_
      refine WX.one ⟨hd_3, ?_⟩
      refine ⟨?_, trivial, trivial, trivial, trivial⟩
      refine DT.step [(5, _), (120, _)] rfl ⟨rfl, rfl, trivial⟩ rfl (fun wq_28 kq_28 => ?_)
      have zs_kq_28 := kq_28.size
      replace hw := hw.pure kq_28
      replace hR := hR.pure kq_28
      replace hq1 := hq1.pure kq_28
      replace hq2 := hq2.pure kq_28
      replace hg := hg.pure kq_28
      replace hd_3 := hd_3.pure kq_28
      replace hm := hm.pure kq_28
      refine WL.want rfl rfl rfl (WL.move rfl rfl (?_))
      refine WL.nil ?_
      refine WX.one ⟨hd_3, ?_⟩
      refine ⟨?_, trivial, trivial, trivial⟩
      refine DT.step [(121, _), (122, _), (120, _)] rfl ⟨rfl, rfl, rfl, trivial⟩ rfl (fun wq_29 kq_29 => ?_)
      have zs_kq_29 := kq_29.size
      replace hw := hw.pure kq_29
      replace hR := hR.pure kq_29
      replace hq1 := hq1.pure kq_29
      replace hq2 := hq2.pure kq_29
      replace hg := hg.pure kq_29
      replace hd_3 := hd_3.pure kq_29
      replace hm := hm.pure kq_29
      refine WL.want rfl rfl rfl (?_)
      refine WL.call eg_19 rfl rfl (RotN (n := -1) (d := 1) (a := (k : Int)) hR (fun x hx => by omega) (by omega)) ?_
      rintro v w10 ⟨rfl, hR10, k10⟩
      have zs_k10 := k10.size
      replace hw := hw.chg k10 (by first | (intro x h1 h2; exact h2) | (intro x h0 h1 h2; exact hS x h1 h2) | (intro x h0 h1 h2; have h3 : _ = _ := h2; subst h3; exact hSR h1.1) | (intro x h1 h2; have h3 : _ = _ := h2; subst h3; assumption) | (intro x h1 h2; have h3 : _ = _ := h2; exfalso; omega) | (intro b h1 h2 h3; have h4 : _ = _ := h3; (try dsimp only at h2); exfalso; omega) | (intro h1; have h2 : _ = _ := h1; exfalso; omega) | (intro h1; have h2 : _ ≤ _ := h1; exfalso; omega) | (intros; exfalso; (try dsimp only at *); omega) | (intro b h1 h2 h3; exfalso; have h4 := h3.2; (try dsimp only at *); omega) | (intro h1; exfalso; have h4 := h1.2; (try dsimp only at *); omega) | (intro x h1 h2; exfalso; have h4 := h2.2; (try dsimp only at *); omega) | (intro x h1 h2; exact ⟨_, rfl, h2⟩) | (intro x h1 h2; have h4 := h2.1; have h5 := h2.2; exfalso; omega) | (intro x h1 h2; exact h2.1) | (intro x h1 h2; rcases h2.1 with h3 | h3; exact h3; exfalso; omega) | (intro x h1 h2; rcases h2 with h3 | h3; exact h3; exfalso; omega))
      replace hg := hg.chg k10 (by first | (intro x h1 h2; exact h2) | (intro x h0 h1 h2; exact hS x h1 h2) | (intro x h0 h1 h2; have h3 : _ = _ := h2; subst h3; exact hSR h1.1) | (intro x h1 h2; have h3 : _ = _ := h2; subst h3; assumption) | (intro x h1 h2; have h3 : _ = _ := h2; exfalso; omega) | (intro b h1 h2 h3; have h4 : _ = _ := h3; (try dsimp only at h2); exfalso; omega) | (intro h1; have h2 : _ = _ := h1; exfalso; omega) | (intro h1; have h2 : _ ≤ _ := h1; exfalso; omega) | (intros; exfalso; (try dsimp only at *); omega) | (intro b h1 h2 h3; exfalso; have h4 := h3.2; (try dsimp only at *); omega) | (intro h1; exfalso; have h4 := h1.2; (try dsimp only at *); omega) | (intro x h1 h2; exfalso; have h4 := h2.2; (try dsimp only at *); omega) | (intro x h1 h2; exact ⟨_, rfl, h2⟩) | (intro x h1 h2; have h4 := h2.1; have h5 := h2.2; exfalso; omega) | (intro x h1 h2; exact h2.1) | (intro x h1 h2; rcases h2.1 with h3 | h3; exact h3; exfalso; omega) | (intro x h1 h2; rcases h2 with h3 | h3; exact h3; exfalso; omega))
      replace hd_3 := hd_3.chg k10 (by first | (intro x h1 h2; exact h2) | (intro x h0 h1 h2; exact hS x h1 h2) | (intro x h0 h1 h2; have h3 : _ = _ := h2; subst h3; exact hSR h1.1) | (intro x h1 h2; have h3 : _ = _ := h2; subst h3; assumption) | (intro x h1 h2; have h3 : _ = _ := h2; exfalso; omega) | (intro b h1 h2 h3; have h4 : _ = _ := h3; (try dsimp only at h2); exfalso; omega) | (intro h1; have h2 : _ = _ := h1; exfalso; omega) | (intro h1; have h2 : _ ≤ _ := h1; exfalso; omega) | (intros; exfalso; (try dsimp only at *); omega) | (intro b h1 h2 h3; exfalso; have h4 := h3.2; (try dsimp only at *); omega) | (intro h1; exfalso; have h4 := h1.2; (try dsimp only at *); omega) | (intro x h1 h2; exfalso; have h4 := h2.2; (try dsimp only at *); omega) | (intro x h1 h2; exact ⟨_, rfl, h2⟩) | (intro x h1 h2; have h4 := h2.1; have h5 := h2.2; exfalso; omega) | (intro x h1 h2; exact h2.1) | (intro x h1 h2; rcases h2.1 with h3 | h3; exact h3; exfalso; omega) | (intro x h1 h2; rcases h2 with h3 | h3; exact h3; exfalso; omega))
      refine WL.nil ?_
      refine WX.one ⟨hd_3, ?_⟩
      refine ⟨?_, trivial, trivial⟩
      refine DT.step [(123, _), (120, _)] rfl ⟨rfl, rfl, trivial⟩ rfl (fun wq_30 kq_30 => ?_)
      have zs_kq_30 := kq_30.size
      replace hw := hw.pure kq_30
      replace hg := hg.pure kq_30
      replace hd_3 := hd_3.pure kq_30
      replace hR10 := hR10.pure kq_30
      refine WL.want rfl rfl rfl (?_)
      refine WL.neqF rfl rfl rfl (by first | rfl | omega | decide) ?_
      refine WL.nil ?_
      refine WX.one ⟨hd_3, ?_⟩
      refine ⟨?_, trivial⟩
      refine DT.step [(120, _), (124, _)] rfl ⟨rfl, rfl, trivial⟩ rfl (fun wq_31 kq_31 => ?_)
      have zs_kq_31 := kq_31.size
      replace hw := hw.pure kq_31
      replace hg := hg.pure kq_31
      replace hd_3 := hd_3.pure kq_31
      replace hR10 := hR10.pure kq_31
      refine WL.pickF rfl rfl rfl (?_)
      refine WL.nil ?_
      refine WX.one ⟨hd_3, ?_⟩
      refine DT.done (fun we_32 ke_32 => ?_) _
      have zs_ke_32 := ke_32.size
      replace hw := hw.pure ke_32
      replace hg := hg.pure ke_32
      replace hd_3 := hd_3.pure ke_32
      replace hR10 := hR10.pure ke_32
      rotate_left
      refine DT.step [(5, _), (120, _)] rfl ⟨rfl, rfl, trivial⟩ rfl (fun wq_27 kq_27 => ?_)
      have zs_kq_27 := kq_27.size
      replace hw := hw.pure kq_27
      replace hR := hR.pure kq_27
      replace hq1 := hq1.pure kq_27
      replace hq2 := hq2.pure kq_27
      replace hg := hg.pure kq_27
      replace hd_3 := hd_3.pure kq_27
      replace hm := hm.pure kq_27
      refine WL.want rfl rfl rfl (WL.move rfl rfl (?_))
      refine WL.nil ?_
      refine WX.one ⟨hd_3, ?_⟩
      refine ⟨?_, trivial, trivial, trivial, trivial⟩
      refine DT.step [(3, _), (120, _)] rfl ⟨rfl, rfl, trivial⟩ rfl (fun wq_28 kq_28 => ?_)
      have zs_kq_28 := kq_28.size
      replace hw := hw.pure kq_28
      replace hR := hR.pure kq_28
      replace hq1 := hq1.pure kq_28
      replace hq2 := hq2.pure kq_28
      replace hg := hg.pure kq_28
      replace hd_3 := hd_3.pure kq_28
      replace hm := hm.pure kq_28
      refine WL.want rfl rfl rfl (WL.move rfl rfl (?_))
      refine WL.nil ?_
      refine WX.one ⟨hd_3, ?_⟩
      refine ⟨?_, trivial, trivial, trivial⟩
      refine DT.step [(121, _), (122, _), (120, _)] rfl ⟨rfl, rfl, rfl, trivial⟩ rfl (fun wq_29 kq_29 => ?_)
      have zs_kq_29 := kq_29.size
      replace hw := hw.pure kq_29
      replace hR := hR.pure kq_29
      replace hq1 := hq1.pure kq_29
      replace hq2 := hq2.pure kq_29
      replace hg := hg.pure kq_29
      replace hd_3 := hd_3.pure kq_29
      replace hm := hm.pure kq_29
      refine WL.want rfl rfl rfl (?_)
      refine WL.call eg_19 rfl rfl (RotN (n := -1) (d := 1) (a := (k : Int)) hR (fun x hx => by omega) (by omega)) ?_
      rintro v w10 ⟨rfl, hR10, k10⟩
      have zs_k10 := k10.size
      replace hw := hw.chg k10 (by first | (intro x h1 h2; exact h2) | (intro x h0 h1 h2; exact hS x h1 h2) | (intro x h0 h1 h2; have h3 : _ = _ := h2; subst h3; exact hSR h1.1) | (intro x h1 h2; have h3 : _ = _ := h2; subst h3; assumption) | (intro x h1 h2; have h3 : _ = _ := h2; exfalso; omega) | (intro b h1 h2 h3; have h4 : _ = _ := h3; (try dsimp only at h2); exfalso; omega) | (intro h1; have h2 : _ = _ := h1; exfalso; omega) | (intro h1; have h2 : _ ≤ _ := h1; exfalso; omega) | (intros; exfalso; (try dsimp only at *); omega) | (intro b h1 h2 h3; exfalso; have h4 := h3.2; (try dsimp only at *); omega) | (intro h1; exfalso; have h4 := h1.2; (try dsimp only at *); omega) | (intro x h1 h2; exfalso; have h4 := h2.2; (try dsimp only at *); omega) | (intro x h1 h2; exact ⟨_, rfl, h2⟩) | (intro x h1 h2; have h4 := h2.1; have h5 := h2.2; exfalso; omega) | (intro x h1 h2; exact h2.1) | (intro x h1 h2; rcases h2.1 with h3 | h3; exact h3; exfalso; omega) | (intro x h1 h2; rcases h2 with h3 | h3; exact h3; exfalso; omega))
      replace hg := hg.chg k10 (by first | (intro x h1 h2; exact h2) | (intro x h0 h1 h2; exact hS x h1 h2) | (intro x h0 h1 h2; have h3 : _ = _ := h2; subst h3; exact hSR h1.1) | (intro x h1 h2; have h3 : _ = _ := h2; subst h3; assumption) | (intro x h1 h2; have h3 : _ = _ := h2; exfalso; omega) | (intro b h1 h2 h3; have h4 : _ = _ := h3; (try dsimp only at h2); exfalso; omega) | (intro h1; have h2 : _ = _ := h1; exfalso; omega) | (intro h1; have h2 : _ ≤ _ := h1; exfalso; omega) | (intros; exfalso; (try dsimp only at *); omega) | (intro b h1 h2 h3; exfalso; have h4 := h3.2; (try dsimp only at *); omega) | (intro h1; exfalso; have h4 := h1.2; (try dsimp only at *); omega) | (intro x h1 h2; exfalso; have h4 := h2.2; (try dsimp only at *); omega) | (intro x h1 h2; exact ⟨_, rfl, h2⟩) | (intro x h1 h2; have h4 := h2.1; have h5 := h2.2; exfalso; omega) | (intro x h1 h2; exact h2.1) | (intro x h1 h2; rcases h2.1 with h3 | h3; exact h3; exfalso; omega) | (intro x h1 h2; rcases h2 with h3 | h3; exact h3; exfalso; omega))
      replace hd_3 := hd_3.chg k10 (by first | (intro x h1 h2; exact h2) | (intro x h0 h1 h2; exact hS x h1 h2) | (intro x h0 h1 h2; have h3 : _ = _ := h2; subst h3; exact hSR h1.1) | (intro x h1 h2; have h3 : _ = _ := h2; subst h3; assumption) | (intro x h1 h2; have h3 : _ = _ := h2; exfalso; omega) | (intro b h1 h2 h3; have h4 : _ = _ := h3; (try dsimp only at h2); exfalso; omega) | (intro h1; have h2 : _ = _ := h1; exfalso; omega) | (intro h1; have h2 : _ ≤ _ := h1; exfalso; omega) | (intros; exfalso; (try dsimp only at *); omega) | (intro b h1 h2 h3; exfalso; have h4 := h3.2; (try dsimp only at *); omega) | (intro h1; exfalso; have h4 := h1.2; (try dsimp only at *); omega) | (intro x h1 h2; exfalso; have h4 := h2.2; (try dsimp only at *); omega) | (intro x h1 h2; exact ⟨_, rfl, h2⟩) | (intro x h1 h2; have h4 := h2.1; have h5 := h2.2; exfalso; omega) | (intro x h1 h2; exact h2.1) | (intro x h1 h2; rcases h2.1 with h3 | h3; exact h3; exfalso; omega) | (intro x h1 h2; rcases h2 with h3 | h3; exact h3; exfalso; omega))
      refine WL.nil ?_
      refine WX.one ⟨hd_3, ?_⟩
      refine ⟨?_, trivial, trivial⟩
      refine DT.step [(123, _), (120, _)] rfl ⟨rfl, rfl, trivial⟩ rfl (fun wq_30 kq_30 => ?_)
      have zs_kq_30 := kq_30.size
      replace hw := hw.pure kq_30
      replace hg := hg.pure kq_30
      replace hd_3 := hd_3.pure kq_30
      replace hR10 := hR10.pure kq_30
      refine WL.want rfl rfl rfl (?_)
      refine WL.neqF rfl rfl rfl (by first | rfl | omega | decide) ?_
      refine WL.nil ?_
      refine WX.one ⟨hd_3, ?_⟩
      refine ⟨?_, trivial⟩
      refine DT.step [(120, _), (124, _)] rfl ⟨rfl, rfl, trivial⟩ rfl (fun wq_31 kq_31 => ?_)
      have zs_kq_31 := kq_31.size
      replace hw := hw.pure kq_31
      replace hg := hg.pure kq_31
      replace hd_3 := hd_3.pure kq_31
      replace hR10 := hR10.pure kq_31
      refine WL.pickF rfl rfl rfl (?_)
      refine WL.nil ?_
      refine WX.one ⟨hd_3, ?_⟩
      refine DT.done (fun we_32 ke_32 => ?_) _
      have zs_ke_32 := ke_32.size
      replace hw := hw.pure ke_32
      replace hg := hg.pure ke_32
      replace hd_3 := hd_3.pure ke_32
      replace hR10 := hR10.pure ke_32
      rotate_left
      all_goals
        refine WX.then_normal (WC.cond_false rfl (WC.skip (WX.then_normal (WC.seq (WC.region (WL.move rfl rfl (WL.move rfl rfl (?_))))))))
        refine WL.move rfl rfl (?_)
        refine WL.call eg_19 rfl rfl (RotU (n := (n : Int)) hR10 (fun x hx => by omega) (by unfold inS; rw [sd5, sn5]; omega) (sg5 1) ⟨by omega, by omega⟩) ?_
        rintro v w11 ⟨rfl, hR11, k11⟩
        have zs_k11 := k11.size
        replace hw := hw.chg k11 (by first | (intro x h1 h2; exact h2) | (intro x h0 h1 h2; exact hS x h1 h2) | (intro x h0 h1 h2; have h3 : _ = _ := h2; subst h3; exact hSR h1.1) | (intro x h1 h2; have h3 : _ = _ := h2; subst h3; assumption) | (intro x h1 h2; have h3 : _ = _ := h2; exfalso; omega) | (intro b h1 h2 h3; have h4 : _ = _ := h3; (try dsimp only at h2); exfalso; omega) | (intro h1; have h2 : _ = _ := h1; exfalso; omega) | (intro h1; have h2 : _ ≤ _ := h1; exfalso; omega) | (intros; exfalso; (try dsimp only at *); omega) | (intro b h1 h2 h3; exfalso; have h4 := h3.2; (try dsimp only at *); omega) | (intro h1; exfalso; have h4 := h1.2; (try dsimp only at *); omega) | (intro x h1 h2; exfalso; have h4 := h2.2; (try dsimp only at *); omega) | (intro x h1 h2; exact ⟨_, rfl, h2⟩) | (intro x h1 h2; have h4 := h2.1; have h5 := h2.2; exfalso; omega) | (intro x h1 h2; exact h2.1) | (intro x h1 h2; rcases h2.1 with h3 | h3; exact h3; exfalso; omega) | (intro x h1 h2; rcases h2 with h3 | h3; exact h3; exfalso; omega))
        replace hg := hg.chg k11 (by first | (intro x h1 h2; exact h2) | (intro x h0 h1 h2; exact hS x h1 h2) | (intro x h0 h1 h2; have h3 : _ = _ := h2; subst h3; exact hSR h1.1) | (intro x h1 h2; have h3 : _ = _ := h2; subst h3; assumption) | (intro x h1 h2; have h3 : _ = _ := h2; exfalso; omega) | (intro b h1 h2 h3; have h4 : _ = _ := h3; (try dsimp only at h2); exfalso; omega) | (intro h1; have h2 : _ = _ := h1; exfalso; omega) | (intro h1; have h2 : _ ≤ _ := h1; exfalso; omega) | (intros; exfalso; (try dsimp only at *); omega) | (intro b h1 h2 h3; exfalso; have h4 := h3.2; (try dsimp only at *); omega) | (intro h1; exfalso; have h4 := h1.2; (try dsimp only at *); omega) | (intro x h1 h2; exfalso; have h4 := h2.2; (try dsimp only at *); omega) | (intro x h1 h2; exact ⟨_, rfl, h2⟩) | (intro x h1 h2; have h4 := h2.1; have h5 := h2.2; exfalso; omega) | (intro x h1 h2; exact h2.1) | (intro x h1 h2; rcases h2.1 with h3 | h3; exact h3; exfalso; omega) | (intro x h1 h2; rcases h2 with h3 | h3; exact h3; exfalso; omega))
        refine WL.assign rfl rfl (WL.nil (WX.then_normal (WC.seq (WC.region (WL.move rfl rfl (WL.move rfl rfl (?_)))))))
        refine WL.call eg_16 rfl rfl (ReadU hR11 (rotS_up us5 _ _) (by unfold inS; rw [rotS_dn, rotS_sn, sd5, sn5]; omega) (by rw [rotS_gone]; exact sg5 1)) ?_
        rintro v w12 ⟨⟨r3, rfl, hx3, hq3⟩, k12⟩
        rw [rotS_held, if_pos rfl, hA5, rotB_rotB hbl] at hx3
        have zs_k12 := k12.size
        replace hw := hw.pure k12
        replace hg := hg.pure k12
        replace hR11 := hR11.pure k12
        refine WL.move rfl rfl (WL.extract rfl rfl rfl (?_))
        refine WL.extract rfl rfl rfl ?_
        refine WL.assign rfl rfl (WL.assign rfl rfl (WL.nil (WX.then_normal (WC.seq (WC.region (WL.move rfl rfl (?_)))))))
        refine WL.eqlT rfl rfl rfl (by first | rfl | omega | decide) ?_
        refine WL.move rfl rfl (WL.want rfl rfl rfl (WL.move rfl rfl (WL.want rfl rfl rfl (?_))))
        refine WL.eqlT rfl rfl rfl (by first | rfl | omega | decide) ?_
        refine WL.pickT rfl rfl rfl (WL.move rfl rfl (WL.want rfl rfl rfl (WL.move rfl rfl (WL.want rfl rfl rfl (WL.toStr Try.underlying30 Try.underlying5 Try.underlying9 hq3 rfl rfl (WL.want rfl rfl rfl (WL.move rfl rfl (?_))))))))
        refine WL.want rfl rfl rfl (WL.toStr Try.underlying30 Try.underlying5 Try.underlying9 hg rfl rfl (WL.want rfl rfl rfl (?_)))
        refine WL.seqlT rfl rfl rfl ((by rw [hx3])) ?_
        refine WL.pickT rfl rfl rfl (WL.assign rfl rfl (WL.nil (WX.then_normal (WC.ret (?_)))))
        refine WX.ret1 (.inl rfl) Try.results5 rfl ?_
        exact ⟨_, rfl, rfl, hw⟩
end Go.Proofs.Ytdjlfbadcijjaaa
