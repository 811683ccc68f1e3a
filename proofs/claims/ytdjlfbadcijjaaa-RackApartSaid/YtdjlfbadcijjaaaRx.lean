import Derived.Test.YtdjlfbadcijjaaaRv
namespace Go.Proofs.Ytdjlfbadcijjaaa
open Go.RowKit Go.HL

/-! scripts of calls -/
structure OpV where
  kind : Int
  drive : Int
  at_ : Int
  fill : Int
  n : Int
  pao : Option Addr
  pcap : Nat
  picks : List Int
def eop : Enc OpV := ⟨6, fun x => [vi x.kind, vi x.drive, vi x.at_, vi x.fill, vi x.n, .slice x.pao x.picks.length x.pcap], fun _ => rfl, by simp [Value.oneCell'], by decide⟩
structure OS (S : Nat → Prop) (w : World) (ao : Option Addr) (c : Nat) (l : List OpV) : Prop where
  outer : RSl S w eop ao c l
  inner : ∀ o ∈ l, RSl S w ei o.pao o.pcap o.picks
section
variable {S M : Nat → Prop} {w w' : World} {ao : Option Addr} {c : Nat} {l : List OpV}
theorem OS.chg (h : OS S w ao c l) (k : Chg M w w') (hd : ∀ b, b < w.heap.size → S b → M b → False) : OS S w' ao c l := ⟨h.outer.chg k hd, fun r hr => (h.inner r hr).chg k hd⟩
theorem OS.pure (h : OS S w ao c l) (k : Chg Nob w w') : OS S w' ao c l := ⟨h.outer.pure k, fun r hr => (h.inner r hr).pure k⟩
end
theorem puts_other {V : Type} {kp : Nat → Bool} {ws l : List (Pl × V)} {q : Pl} (h : ∀ x ∈ ws, x.1 ≠ q) (n : Nat) : mget (puts kp ws l n) q = mget l q := by
  induction n with
  | zero => rfl
  | succ n ih =>
    simp only [puts]
    split
    · rename_i x hx
      split
      · rw [mget_put, if_neg (fun e => h x (List.mem_of_getElem? hx) e.symm)]
        exact ih
      · exact ih
    · exact ih
/-- what befalls one drive alone -/
structure Ap (B : Int → List UInt8) (k i : Nat) (s : RA) : Prop where
  dn : s.dn = 4
  sn : s.sn = 4
  up : Up s
  gone : ∀ d : Nat, d ≠ k → goneS s d = false
  waits : ∀ x ∈ s.waits, x.1.1 = (k : Int)
  len : s.waits.length ≤ i
  last : ∀ d a : Nat, d < 4 → a < 4 → d ≠ k → lastS s ((d : Int), (a : Int)) = B ((d : Int) * 10 + a)
section
variable {B : Int → List UInt8} {k i : Nat} {s : RA}
theorem Ap.no (h : Ap B k i s) {d a : Nat} (hd : d ≠ k) : ∀ x ∈ s.waits, x.1 ≠ ((d : Int), (a : Int)) := fun x hx e => by
  have h1 := h.waits x hx
  rw [e] at h1
  have h2 : (d : Int) = k := h1
  omega
theorem Ap.held (h : Ap B k i s) {d a : Nat} (hd : d < 4) (ha : a < 4) (hk : d ≠ k) : heldS s ((d : Int), (a : Int)) = B ((d : Int) * 10 + a) := by
  rw [heldS_eq, newV_none (h.no hk)]
  exact h.last d a hd ha hk
theorem Ap.more (h : Ap B k i s) : Ap B k (i + 1) s := ⟨h.dn, h.sn, h.up, h.gone, h.waits, by have := h.len; omega, h.last⟩
theorem Ap.write (h : Ap B k i s) (a : Int) (b : List UInt8) : Ap B k (i + 1) (writeS s k a b) := by
  unfold writeS
  rw [h.up.spend]
  split
  · refine ⟨h.dn, h.sn, ⟨h.up.off, h.up.armed⟩, h.gone, fun x hx => ?_, ?_, h.last⟩
    · rcases List.mem_append.1 hx with h1 | h1
      · exact h.waits x h1
      · simp at h1
        rw [h1]
    · show (s.waits ++ [_]).length ≤ _
      rw [List.length_append]
      have := h.len
      simpa using this
  · split
    · exact h.more
    · exact h.more
theorem Ap.flush (h : Ap B k i s) : Ap B k (i + 1) (flushS s) := by
  rw [h.up.flush]
  exact ⟨h.dn, h.sn, allS_up h.up, h.gone, (fun x hx => by cases hx), Nat.zero_le _, fun d a hd ha hk => by rw [allS_last, h.held hd ha hk]⟩
theorem Ap.crash (h : Ap B k i s) (ps : List Int) : Ap B k (i + 1) (crashS s ps) := by
  refine ⟨h.dn, h.sn, crash_up s ps, h.gone, (fun x hx => by cases hx), Nat.zero_le _, fun d a hd ha hk => ?_⟩
  show (mget (puts (keep ps) s.waits s.last s.waits.length) _).getD zeros = _
  rw [puts_other (h.no hk)]
  exact h.last d a hd ha hk
theorem Ap.is (h : Ap B k i s) (hk : k < 4) : isS s k := by
  unfold isS
  rw [h.dn]
  omega
theorem Ap.lose (h : Ap B k i s) (hok : s.ok) (hk : k < 4) (b : Bool) : Ap B k (i + 1) (loseS s k b) := by
  refine ⟨h.dn, h.sn, loseS_up h.up _ _, fun d hd => ?_, fun x hx => h.waits x (List.mem_filter.1 hx).1, ?_, h.last⟩
  · rw [loseS_gone hok (h.is hk) b (by omega), if_neg (by omega)]
    exact h.gone d hd
  · have h1 := stay_len (k : Int) s.waits
    have h2 := h.len
    show (stay (k : Int) s.waits).length ≤ _
    omega
theorem Ap.replace (h : Ap B k i s) (hok : s.ok) (hk : k < 4) : Ap B k (i + 1) (replaceS s k) := by
  have h1 := h.lose hok hk false
  refine ⟨h1.dn, h1.sn, replaceS_up h.up _, h1.gone, h1.waits, h1.len, fun d a hd ha hdk => ?_⟩
  rw [replaceS_last hok, if_neg (fun c => hdk (by have : (d : Int) = k := c.1; omega))]
  exact h.last d a hd ha hdk
theorem Ap.rot (h : Ap B k i s) (a n : Int) : Ap B k (i + 1) (rotS s ((k : Int), a) n) := by
  refine ⟨by rw [rotS_dn, h.dn], by rw [rotS_sn, h.sn], rotS_up h.up _ _, fun d hd => by rw [rotS_gone]; exact h.gone d hd, fun x hx => ?_, by rw [rotS_len]; have := h.len; omega, fun d a2 hd ha hdk => ?_⟩
  · unfold rotS at hx
    split at hx
    · rcases putW_mem hx with h1 | h1
      · exact h.waits x h1
      · rw [h1]
    · exact h.waits x hx
  · have h1 : lastS (rotS s ((k : Int), a) n) ((d : Int), (a2 : Int)) = lastS s ((d : Int), (a2 : Int)) := by
      unfold rotS
      split
      · rfl
      · unfold lastS
        simp only [mget_put]
        rw [if_neg (fun e => hdk (by injection e with e1 e2; have : (d : Int) = k := e1; omega))]
    rw [h1]
    exact h.last d a2 hd ha hdk
end
set_option maxHeartbeats 8000000 in
theorem rackApart_calls {w : World} {a0 : Option Addr} {c0 : Nat} {l0 : List OpV} (x1 : Int) (hO : OS (· < w.heap.size) w a0 c0 l0) (hl0 : ∀ o ∈ l0, o.picks.length * 8 ≤ 140737488351232) :
    Calls Try.prog 9 [.slice a0 l0.length c0, vi x1].toArray w (Ret fun v w' => v = .bool true ∧ Chg Nob w w') := by
  have hw := Chg.refl Nob w
  obtain ⟨B, hBl, hBc⟩ := bytes_all
  obtain ⟨s0, sd, sn, u0, sg, sh, sl, sw, hNew⟩ := new_all 4 4 (by decide) (by decide)
  have sw0 : s0.waits.length = 0 := by rw [sw]; rfl
  clear sl sw sh
  obtain ⟨k, hk⟩ : ∃ k, k = (B64 x1 % 4).toNat := ⟨_, rfl⟩
  have hk4 : k < 4 := by rw [hk, UInt64.toNat_mod]; exact Nat.mod_lt _ (by decide)
  refine Calls.of_WC Try.func9 rfl Try.ntmps9 (by simp) ?_
  refine WC.seq (WC.region (WL.assign rfl rfl (WL.nil (WX.then_normal (WC.seq (WC.seq (WC.region (?_))))))))
  refine WL.call eg_11 rfl rfl (known_calls _) ?_
  rintro v w1 ⟨rfl, k1⟩
  have zs_k1 := k1.size
  replace hO := hO.pure k1
  replace hw := hw.pure k1
  refine WL.not rfl rfl (WL.nil (WX.then_normal (WC.cond_false rfl (WC.skip (WX.then_normal (WC.seq (WC.region (?_))))))))
  refine WL.call eg_12 rfl rfl (hNew _) ?_
  rintro v w2 ⟨⟨R, rfl, hR⟩, k2⟩
  replace hR := hR.mono (A' := (w.heap.size ≤ ·)) (fun x hx => by have := hw.size; omega)
  have zs_k2 := k2.size
  replace hO := hO.pure k2
  replace hw := hw.pure k2
  refine WL.move rfl rfl (WL.extract rfl rfl rfl (WL.extract rfl rfl rfl (WL.assign rfl rfl (WL.assign rfl rfl (WL.nil (WX.then_normal (WC.seq (?_))))))))
  refine WC.seq (WC.region (WL.move rfl rfl (?_)))
  refine WL.neqF rfl rfl rfl (by first | rfl | omega | decide) ?_
  refine WL.nil (WX.then_normal (WC.cond_false rfl (WC.skip (WX.then_normal (WC.seq (WC.region (WL.move rfl rfl (?_))))))))
  refine WL.c_i64_u64 Try.underlying3 Try.underlying41 rfl rfl (WL.num rfl rfl (n_rem64 _ _ _ 4 (by decide)) rfl (?_))
  refine WL.c_u64_i64s (n := k) Try.underlying41 Try.underlying3 rfl ⟨hk.symm, by omega⟩ rfl ?_
  refine WL.assign rfl rfl (WL.nil (WX.then_normal (WC.seq (WC.seq (WC.region (WL.assign rfl rfl (WL.nil (?_))))))))
  refine WX.then_normal (WC.block (?_))
  have zw0 := hw.size
  refine WC.loop (σ := Nat) (fun d => [(0, .slice a0 l0.length c0), (1, vi (k : Int)), (5, ptr R), (7, vi (d : Int))]) (fun d w' => d ≤ 4 ∧ OS (· < w.heap.size) w' a0 c0 l0 ∧ Chg Nob w w' ∧ ∃ s : RA, s.dn = 4 ∧ s.sn = 4 ∧ Up s ∧ (∀ d, goneS s d = false) ∧ s.waits.length ≤ d * 4 ∧ (∀ d2 a2 : Nat, d2 < d → a2 < 4 → heldS s ((d2 : Int), (a2 : Int)) = B ((d2 : Int) * 10 + a2)) ∧ RK (w.heap.size ≤ ·) w' R s) (fun d => 4 - d) 0 ⟨rfl, rfl, rfl, rfl, trivial⟩ ⟨by omega, hO, hw, s0, sd, sn, u0, sg, by omega, fun d2 a2 h => by omega, hR⟩ ?_
  clear hO hw hR u0 sg sw0 sd sn hNew
  rintro d w1 ⟨hd, hO, hw, s, sd, sn, us, sg, sw, sh, hR⟩
  refine WC.seq (WC.seq (WC.region (WL.move rfl rfl (?_))))
  refine WL.lss? rfl rfl rfl (fun h28 => ?_) (fun h28 => ?_)
  ·
    refine WL.nil (WX.then_normal (WC.cond_true rfl (WC.skip (WX.then_normal (WC.seq (WC.block (WC.seq (?_))))))))
    refine WC.region (WL.assign rfl rfl (WL.nil (WX.then_normal (WC.block (?_)))))
    refine WC.loop (σ := Nat) (fun a => [(0, .slice a0 l0.length c0), (1, vi (k : Int)), (5, ptr R), (7, vi (d : Int)), (8, vi (a : Int))]) (fun a w' => a ≤ 4 ∧ OS (· < w.heap.size) w' a0 c0 l0 ∧ Chg Nob w w' ∧ ∃ s : RA, s.dn = 4 ∧ s.sn = 4 ∧ Up s ∧ (∀ d, goneS s d = false) ∧ s.waits.length ≤ d * 4 + a ∧ (∀ d2 a2 : Nat, d2 < d ∨ d2 = d ∧ a2 < a → a2 < 4 → heldS s ((d2 : Int), (a2 : Int)) = B ((d2 : Int) * 10 + a2)) ∧ RK (w.heap.size ≤ ·) w' R s) (fun a => 4 - a) 0 ⟨rfl, rfl, rfl, rfl, rfl, trivial⟩ ⟨by omega, hO, hw, s, sd, sn, us, sg, by omega, fun d2 a2 h h2 => sh d2 a2 (by omega) h2, hR⟩ ?_
    clear hO hw hR us sg sw sd sn sh
    rintro a w1 ⟨ha, hO, hw, s, sd, sn, us, sg, sw, sh, hR⟩
    refine WC.seq (WC.seq (WC.region (WL.move rfl rfl (?_))))
    refine WL.lss? rfl rfl rfl (fun h32 => ?_) (fun h32 => ?_)
    ·
      refine WL.nil (WX.then_normal (WC.cond_true rfl (WC.skip (WX.then_normal (WC.seq (WC.block (WC.seq (?_))))))))
      refine WC.region (WL.move rfl rfl (WL.move rfl rfl (WL.move rfl rfl (WL.move rfl rfl (WL.mul64 rfl rfl (by first | omega | (constructor <;> omega)) rfl (WL.move rfl rfl (WL.add64 rfl rfl (by first | omega | (constructor <;> omega)) rfl (?_))))))))
      refine WL.call eg_14 rfl rfl (hBc ((d : Int) * 10 + a) _) ?_
      rintro v w2 ⟨⟨g, rfl, hq, hg1, hg2⟩, k2⟩
      have zs_k2 := k2.size
      replace hO := hO.pure k2
      replace hw := hw.pure k2
      replace hR := hR.pure k2
      have zw := hw.size
      refine WL.call eg_13 rfl rfl (WriteU (d := (d : Int)) (a := (a : Int)) hR (fun x hx => by omega) us (by unfold inS; rw [sd, sn]; omega) (sg _) hq (hBl _) (by omega)) ?_
      rintro v w3 ⟨rfl, hR3, k3⟩
      have zs_k3 := k3.size
      replace hO := hO.chg k3 (by first | (intro x h1 h2; exact h2) | (intro x h0 h1 h2; exact hS x h1 h2) | (intro x h0 h1 h2; have h3 : _ = _ := h2; subst h3; exact hSR h1.1) | (intro x h1 h2; have h3 : _ = _ := h2; subst h3; assumption) | (intro x h1 h2; have h3 : _ = _ := h2; exfalso; omega) | (intro b h1 h2 h3; have h4 : _ = _ := h3; (try dsimp only at h2); exfalso; omega) | (intro h1; have h2 : _ = _ := h1; exfalso; omega) | (intro h1; have h2 : _ ≤ _ := h1; exfalso; omega) | (intros; exfalso; (try dsimp only at *); omega) | (intro b h1 h2 h3; exfalso; have h4 := h3.2; (try dsimp only at *); omega) | (intro h1; exfalso; have h4 := h1.2; (try dsimp only at *); omega) | (intro x h1 h2; exfalso; have h4 := h2.2; (try dsimp only at *); omega) | (intro x h1 h2; exact ⟨_, rfl, h2⟩) | (intro x h1 h2; have h4 := h2.1; have h5 := h2.2; exfalso; omega) | (intro x h1 h2; exact h2.1) | (intro x h1 h2; rcases h2.1 with h3 | h3; exact h3; exfalso; omega) | (intro x h1 h2; rcases h2 with h3 | h3; exact h3; exfalso; omega))
      replace hw := hw.chg k3 (by first | (intro x h1 h2; exact h2) | (intro x h0 h1 h2; exact hS x h1 h2) | (intro x h0 h1 h2; have h3 : _ = _ := h2; subst h3; exact hSR h1.1) | (intro x h1 h2; have h3 : _ = _ := h2; subst h3; assumption) | (intro x h1 h2; have h3 : _ = _ := h2; exfalso; omega) | (intro b h1 h2 h3; have h4 : _ = _ := h3; (try dsimp only at h2); exfalso; omega) | (intro h1; have h2 : _ = _ := h1; exfalso; omega) | (intro h1; have h2 : _ ≤ _ := h1; exfalso; omega) | (intros; exfalso; (try dsimp only at *); omega) | (intro b h1 h2 h3; exfalso; have h4 := h3.2; (try dsimp only at *); omega) | (intro h1; exfalso; have h4 := h1.2; (try dsimp only at *); omega) | (intro x h1 h2; exfalso; have h4 := h2.2; (try dsimp only at *); omega) | (intro x h1 h2; exact ⟨_, rfl, h2⟩) | (intro x h1 h2; have h4 := h2.1; have h5 := h2.2; exfalso; omega) | (intro x h1 h2; exact h2.1) | (intro x h1 h2; rcases h2.1 with h3 | h3; exact h3; exfalso; omega) | (intro x h1 h2; rcases h2 with h3 | h3; exact h3; exfalso; omega))
      refine WL.neqF rfl rfl rfl (by first | rfl | omega | decide) ?_
      refine WL.nil (WX.then_normal (WC.cond_false rfl (WC.skip (WX.block_normal (WX.then_normal (WC.region (WL.move rfl rfl (?_))))))))
      refine WL.add64 rfl rfl (by first | omega | (constructor <;> omega)) rfl (WL.assign rfl rfl (WL.nil (?_)))
      first
        | exact WX.loop_next (i + 1) ⟨rfl, rfl, rfl, rfl, trivial⟩ ⟨by omega, hO, hw, _, hA2, hR2⟩ (by omega)
        | exact WX.loop_next (i + 1) ⟨rfl, rfl, rfl, rfl, trivial⟩ ⟨by omega, hO, hw, _, hA.more, hR⟩ (by omega)
        | exact WX.loop_next (d + 1) ⟨rfl, rfl, rfl, rfl, trivial⟩ ⟨by omega, hO, hw, s, sd, sn, us, sg, by omega, fun d2 a2 h h2 => sh d2 a2 (by omega) h2, hR⟩ (by omega)
        | (refine WX.loop_next (a + 1) ⟨rfl, rfl, rfl, rfl, rfl, trivial⟩ ⟨by omega, hO, hw, addS s ((d : Int), (a : Int)) (B ((d : Int) * 10 + a)), sd, sn, addS_up us _ _, sg, ?_, fun d2 a2 h h2 => ?_, hR3⟩ (by omega)
           ·
             show (s.waits ++ [_]).length ≤ _
             rw [List.length_append]
             show s.waits.length + 1 ≤ _
             omega
           ·
             rw [addS_held]
             split
             ·
               rename_i e
               injection e with e1 e2
               rw [e1, e2]
             ·
               rename_i e
               refine sh d2 a2 ?_ h2
               rcases h with h | ⟨h, h3⟩
               ·
                 exact .inl h
               ·
                 right
                 refine ⟨h, ?_⟩
                 rcases Nat.lt_or_ge a2 a with h4 | h4
                 ·
                   exact h4
                 ·
                   exfalso
                   have h5 : a2 = a := by omega
                   exact e (by rw [h, h5]))
        | exact WX.loop_next (e + 1) ⟨rfl, rfl, rfl, rfl, trivial⟩ ⟨by omega, hw, hR⟩ (by omega)
        | exact WX.loop_next (f + 1) ⟨rfl, rfl, rfl, trivial⟩ ⟨by omega, hw, hR⟩ (by omega)
    ·
      refine WL.nil (WX.then_normal (WC.cond_false rfl (WC.exit (WX.then_exit (WX.then_exit (WX.block_here (WX.block_normal (?_))))))))
      refine WX.then_normal (WC.region (WL.move rfl rfl (WL.add64 rfl rfl (by first | omega | (constructor <;> omega)) rfl (WL.assign rfl rfl (WL.nil (?_))))))
      first
        | exact WX.loop_next (i + 1) ⟨rfl, rfl, rfl, rfl, trivial⟩ ⟨by omega, hO, hw, _, hA2, hR2⟩ (by omega)
        | exact WX.loop_next (i + 1) ⟨rfl, rfl, rfl, rfl, trivial⟩ ⟨by omega, hO, hw, _, hA.more, hR⟩ (by omega)
        | exact WX.loop_next (d + 1) ⟨rfl, rfl, rfl, rfl, trivial⟩ ⟨by omega, hO, hw, s, sd, sn, us, sg, by omega, fun d2 a2 h h2 => sh d2 a2 (by omega) h2, hR⟩ (by omega)
        | (refine WX.loop_next (a + 1) ⟨rfl, rfl, rfl, rfl, rfl, trivial⟩ ⟨by omega, hO, hw, addS s ((d : Int), (a : Int)) (B ((d : Int) * 10 + a)), sd, sn, addS_up us _ _, sg, ?_, fun d2 a2 h h2 => ?_, hR3⟩ (by omega)
           ·
             show (s.waits ++ [_]).length ≤ _
             rw [List.length_append]
             show s.waits.length + 1 ≤ _
             omega
           ·
             rw [addS_held]
             split
             ·
               rename_i e
               injection e with e1 e2
               rw [e1, e2]
             ·
               rename_i e
               refine sh d2 a2 ?_ h2
               rcases h with h | ⟨h, h3⟩
               ·
                 exact .inl h
               ·
                 right
                 refine ⟨h, ?_⟩
                 rcases Nat.lt_or_ge a2 a with h4 | h4
                 ·
                   exact h4
                 ·
                   exfalso
                   have h5 : a2 = a := by omega
                   exact e (by rw [h, h5]))
        | exact WX.loop_next (e + 1) ⟨rfl, rfl, rfl, rfl, trivial⟩ ⟨by omega, hw, hR⟩ (by omega)
        | exact WX.loop_next (f + 1) ⟨rfl, rfl, rfl, trivial⟩ ⟨by omega, hw, hR⟩ (by omega)
  ·
    refine WL.nil (WX.then_normal (WC.cond_false rfl (WC.exit (WX.then_exit (WX.then_exit (WX.block_here (WX.then_normal (?_))))))))
    refine WC.seq (WC.seq (WC.region (WL.move rfl rfl (?_))))
    refine WL.call eg_15 rfl rfl (FlushU hR us) ?_
    rintro v w3 ⟨rfl, hR3, k3⟩
    have zs_k3 := k3.size
    replace hO := hO.chg k3 (by first | (intro x h1 h2; exact h2) | (intro x h0 h1 h2; exact hS x h1 h2) | (intro x h0 h1 h2; have h3 : _ = _ := h2; subst h3; exact hSR h1.1) | (intro x h1 h2; have h3 : _ = _ := h2; subst h3; assumption) | (intro x h1 h2; have h3 : _ = _ := h2; exfalso; omega) | (intro b h1 h2 h3; have h4 : _ = _ := h3; (try dsimp only at h2); exfalso; omega) | (intro h1; have h2 : _ = _ := h1; exfalso; omega) | (intro h1; have h2 : _ ≤ _ := h1; exfalso; omega) | (intros; exfalso; (try dsimp only at *); omega) | (intro b h1 h2 h3; exfalso; have h4 := h3.2; (try dsimp only at *); omega) | (intro h1; exfalso; have h4 := h1.2; (try dsimp only at *); omega) | (intro x h1 h2; exfalso; have h4 := h2.2; (try dsimp only at *); omega) | (intro x h1 h2; exact ⟨_, rfl, h2⟩) | (intro x h1 h2; have h4 := h2.1; have h5 := h2.2; exfalso; omega) | (intro x h1 h2; exact h2.1) | (intro x h1 h2; rcases h2.1 with h3 | h3; exact h3; exfalso; omega) | (intro x h1 h2; rcases h2 with h3 | h3; exact h3; exfalso; omega))
    replace hw := hw.chg k3 (by first | (intro x h1 h2; exact h2) | (intro x h0 h1 h2; exact hS x h1 h2) | (intro x h0 h1 h2; have h3 : _ = _ := h2; subst h3; exact hSR h1.1) | (intro x h1 h2; have h3 : _ = _ := h2; subst h3; assumption) | (intro x h1 h2; have h3 : _ = _ := h2; exfalso; omega) | (intro b h1 h2 h3; have h4 : _ = _ := h3; (try dsimp only at h2); exfalso; omega) | (intro h1; have h2 : _ = _ := h1; exfalso; omega) | (intro h1; have h2 : _ ≤ _ := h1; exfalso; omega) | (intros; exfalso; (try dsimp only at *); omega) | (intro b h1 h2 h3; exfalso; have h4 := h3.2; (try dsimp only at *); omega) | (intro h1; exfalso; have h4 := h1.2; (try dsimp only at *); omega) | (intro x h1 h2; exfalso; have h4 := h2.2; (try dsimp only at *); omega) | (intro x h1 h2; exact ⟨_, rfl, h2⟩) | (intro x h1 h2; have h4 := h2.1; have h5 := h2.2; exfalso; omega) | (intro x h1 h2; exact h2.1) | (intro x h1 h2; rcases h2.1 with h3 | h3; exact h3; exfalso; omega) | (intro x h1 h2; rcases h2 with h3 | h3; exact h3; exfalso; omega))
    have hA3 : Ap B k 0 (allS s) := by
      refine ⟨sd, sn, allS_up us, fun d2 _ => sg d2, (fun x hx => by cases hx), Nat.zero_le _, fun d2 a2 h2 h3 _ => ?_⟩
      rw [allS_last]
      exact sh d2 a2 (by omega) h3
    obtain ⟨s3, es3⟩ : ∃ s3, s3 = allS s := ⟨_, rfl⟩
    rw [← es3] at hR3 hA3
    clear es3
    refine WL.neqF rfl rfl rfl (by first | rfl | omega | decide) ?_
    refine WL.nil (WX.then_normal (WC.cond_false rfl (WC.skip (WX.then_normal (WC.seq (WC.seq (WC.region (?_))))))))
    refine WL.assign rfl rfl (WL.nil (WX.then_normal (WC.block (?_))))
    refine WC.loop (σ := Nat) (fun i => [(0, .slice a0 l0.length c0), (1, vi (k : Int)), (5, ptr R), (9, vi (i : Int))]) (fun i w' => i ≤ 40 ∧ OS (· < w.heap.size) w' a0 c0 l0 ∧ Chg Nob w w' ∧ ∃ s : RA, Ap B k i s ∧ RK (w.heap.size ≤ ·) w' R s) (fun i => 40 - i) 0 ⟨rfl, rfl, rfl, rfl, trivial⟩ ⟨by omega, hO, hw, s3, hA3, hR3⟩ ?_
    clear hO hw hR3 hA3 us sg sw sd sn sh
    rintro i w1 ⟨hi, hO, hw, s, hA, hR⟩
    have hlen := hA.len
    refine WC.seq (WC.seq (WC.region (WL.move rfl rfl (WL.move rfl rfl (WL.len Try.underlying53 rfl rfl (?_))))))
    refine WL.lss? rfl rfl rfl (fun h51 => ?_) (fun h51 => ?_)
    ·
      refine WL.move rfl rfl (WL.want rfl rfl rfl (WL.move rfl rfl (WL.want rfl rfl rfl (?_))))
      refine WL.lss? rfl rfl rfl (fun h54 => ?_) (fun h54 => ?_)
      ·
        refine WL.pickT rfl rfl rfl (WL.nil (WX.then_normal (WC.cond_true rfl (WC.skip (WX.then_normal (WC.seq (WC.block (?_))))))))
        refine WC.seq (WC.region (WL.move rfl rfl (WL.move rfl rfl (?_))))
        obtain ⟨o, ho⟩ : ∃ o, l0[i]? = some o := ⟨_, List.getElem?_eq_getElem (by omega)⟩
        obtain ⟨ka, hka⟩ : ∃ ka, ka = (B64 o.at_ % 4).toNat := ⟨_, rfl⟩
        have hka4 : ka < 4 := by rw [hka, UInt64.toNat_mod]; exact Nat.mod_lt _ (by decide)
        refine WL.indexT (e := eop) Try.underlying53 Try.sizeOf55 hO.outer rfl rfl ⟨ho, rfl⟩ rfl ?_
        intro bb oo hcc
        refine WL.fieldAddr (fld_55_2) rfl rfl (WL.load Try.isAgg3 rfl (hcc _ _ rfl) rfl (WL.c_i64_u64 Try.underlying3 Try.underlying41 rfl rfl (WL.num rfl rfl (n_rem64 _ _ _ 4 (by decide)) rfl (?_))))
        refine WL.c_u64_i64s (n := ka) Try.underlying41 Try.underlying3 rfl ⟨hka.symm, by omega⟩ rfl ?_
        refine WL.assign rfl rfl (WL.nil (WX.then_normal (WC.seq (WC.region (WL.move rfl rfl (WL.move rfl rfl (?_)))))))
        refine WL.indexT (e := eop) Try.underlying53 Try.sizeOf55 hO.outer rfl rfl ⟨ho, rfl⟩ rfl ?_
        intro bb oo hcc
        refine WL.fieldAddr (fld_55_0) rfl rfl (WL.load Try.isAgg3 rfl (hcc _ _ rfl) rfl (WL.nil (WX.then_normal (WC.block (WC.seq (WC.region (?_)))))))
        refine WL.eql? rfl rfl rfl (fun h72 => ?_) (fun h72 => ?_)
        ·
          refine WL.assign rfl rfl (WL.nil (WX.then_normal (WC.cond_true rfl (WC.region (WL.move rfl rfl (WL.move rfl rfl (WL.move rfl rfl (?_))))))))
          refine WL.move rfl rfl (WL.move rfl rfl (?_))
          refine WL.indexT (e := eop) Try.underlying53 Try.sizeOf55 hO.outer rfl rfl ⟨ho, rfl⟩ rfl ?_
          intro bb oo hcc
          refine WL.fieldAddr (fld_55_3) rfl rfl (WL.load Try.isAgg3 rfl (hcc _ _ rfl) rfl (?_))
          refine WL.call eg_14 rfl rfl (hBc o.fill _) ?_
          rintro v w2 ⟨⟨g, rfl, hq, hg1, hg2⟩, k2⟩
          have zs_k2 := k2.size
          replace hO := hO.pure k2
          replace hw := hw.pure k2
          replace hR := hR.pure k2
          have zw := hw.size
          refine WL.call eg_13 rfl rfl (Write_calls hR (k : Int) (ka : Int) (hR.ne hq).rsl (fun x h1 h2 => h1.2 h2) (by omega)) ?_
          rintro v w3 ⟨rfl, hR3, k3⟩
          replace hR3 := hR3.grow (fun x hx => by show w.heap.size ≤ x; omega)
          have zs_k3 := k3.size
          replace hO := hO.chg k3 (by first | (intro x h1 h2; exact h2) | (intro x h0 h1 h2; exact hS x h1 h2) | (intro x h0 h1 h2; have h3 : _ = _ := h2; subst h3; exact hSR h1.1) | (intro x h1 h2; have h3 : _ = _ := h2; subst h3; assumption) | (intro x h1 h2; have h3 : _ = _ := h2; exfalso; omega) | (intro b h1 h2 h3; have h4 : _ = _ := h3; (try dsimp only at h2); exfalso; omega) | (intro h1; have h2 : _ = _ := h1; exfalso; omega) | (intro h1; have h2 : _ ≤ _ := h1; exfalso; omega) | (intros; exfalso; (try dsimp only at *); omega) | (intro b h1 h2 h3; exfalso; have h4 := h3.2; (try dsimp only at *); omega) | (intro h1; exfalso; have h4 := h1.2; (try dsimp only at *); omega) | (intro x h1 h2; exfalso; have h4 := h2.2; (try dsimp only at *); omega) | (intro x h1 h2; exact ⟨_, rfl, h2⟩) | (intro x h1 h2; have h4 := h2.1; have h5 := h2.2; exfalso; omega) | (intro x h1 h2; exact h2.1) | (intro x h1 h2; rcases h2.1 with h3 | h3; exact h3; exfalso; omega) | (intro x h1 h2; rcases h2 with h3 | h3; exact h3; exfalso; omega))
          replace hw := hw.chg k3 (by first | (intro x h1 h2; exact h2) | (intro x h0 h1 h2; exact hS x h1 h2) | (intro x h0 h1 h2; have h3 : _ = _ := h2; subst h3; exact hSR h1.1) | (intro x h1 h2; have h3 : _ = _ := h2; subst h3; assumption) | (intro x h1 h2; have h3 : _ = _ := h2; exfalso; omega) | (intro b h1 h2 h3; have h4 : _ = _ := h3; (try dsimp only at h2); exfalso; omega) | (intro h1; have h2 : _ = _ := h1; exfalso; omega) | (intro h1; have h2 : _ ≤ _ := h1; exfalso; omega) | (intros; exfalso; (try dsimp only at *); omega) | (intro b h1 h2 h3; exfalso; have h4 := h3.2; (try dsimp only at *); omega) | (intro h1; exfalso; have h4 := h1.2; (try dsimp only at *); omega) | (intro x h1 h2; exfalso; have h4 := h2.2; (try dsimp only at *); omega) | (intro x h1 h2; exact ⟨_, rfl, h2⟩) | (intro x h1 h2; have h4 := h2.1; have h5 := h2.2; exfalso; omega) | (intro x h1 h2; exact h2.1) | (intro x h1 h2; rcases h2.1 with h3 | h3; exact h3; exfalso; omega) | (intro x h1 h2; rcases h2 with h3 | h3; exact h3; exfalso; omega))
          have hA2 := hA.write (ka : Int) (B o.fill)
          have hR2 := hR3
          clear hR3
          refine WL.nil (WX.block_normal (WX.block_normal (WX.then_normal (WC.region (WL.move rfl rfl (WL.add64 rfl rfl (by first | omega | (constructor <;> omega)) rfl (WL.assign rfl rfl (?_))))))))
          refine WL.nil (?_)
          first
            | exact WX.loop_next (i + 1) ⟨rfl, rfl, rfl, rfl, trivial⟩ ⟨by omega, hO, hw, _, hA2, hR2⟩ (by omega)
            | exact WX.loop_next (i + 1) ⟨rfl, rfl, rfl, rfl, trivial⟩ ⟨by omega, hO, hw, _, hA.more, hR⟩ (by omega)
            | exact WX.loop_next (d + 1) ⟨rfl, rfl, rfl, rfl, trivial⟩ ⟨by omega, hO, hw, s, sd, sn, us, sg, by omega, fun d2 a2 h h2 => sh d2 a2 (by omega) h2, hR⟩ (by omega)
            | (refine WX.loop_next (a + 1) ⟨rfl, rfl, rfl, rfl, rfl, trivial⟩ ⟨by omega, hO, hw, addS s ((d : Int), (a : Int)) (B ((d : Int) * 10 + a)), sd, sn, addS_up us _ _, sg, ?_, fun d2 a2 h h2 => ?_, hR3⟩ (by omega)
               ·
                 show (s.waits ++ [_]).length ≤ _
                 rw [List.length_append]
                 show s.waits.length + 1 ≤ _
                 omega
               ·
                 rw [addS_held]
                 split
                 ·
                   rename_i e
                   injection e with e1 e2
                   rw [e1, e2]
                 ·
                   rename_i e
                   refine sh d2 a2 ?_ h2
                   rcases h with h | ⟨h, h3⟩
                   ·
                     exact .inl h
                   ·
                     right
                     refine ⟨h, ?_⟩
                     rcases Nat.lt_or_ge a2 a with h4 | h4
                     ·
                       exact h4
                     ·
                       exfalso
                       have h5 : a2 = a := by omega
                       exact e (by rw [h, h5]))
            | exact WX.loop_next (e + 1) ⟨rfl, rfl, rfl, rfl, trivial⟩ ⟨by omega, hw, hR⟩ (by omega)
            | exact WX.loop_next (f + 1) ⟨rfl, rfl, rfl, trivial⟩ ⟨by omega, hw, hR⟩ (by omega)
        ·
          refine WL.assign rfl rfl (WL.nil (WX.then_normal (WC.cond_false rfl (WC.seq (WC.region (?_))))))
          refine WL.eql? rfl rfl rfl (fun h84 => ?_) (fun h84 => ?_)
          ·
            refine WL.assign rfl rfl (WL.nil (WX.then_normal (WC.cond_true rfl (WC.region (WL.move rfl rfl (?_))))))
            refine WL.call eg_15 rfl rfl (Flush_calls hR) ?_
            rintro v w3 ⟨rfl, hR2, k3⟩
            have zs_k3 := k3.size
            replace hO := hO.chg k3 (by first | (intro x h1 h2; exact h2) | (intro x h0 h1 h2; exact hS x h1 h2) | (intro x h0 h1 h2; have h3 : _ = _ := h2; subst h3; exact hSR h1.1) | (intro x h1 h2; have h3 : _ = _ := h2; subst h3; assumption) | (intro x h1 h2; have h3 : _ = _ := h2; exfalso; omega) | (intro b h1 h2 h3; have h4 : _ = _ := h3; (try dsimp only at h2); exfalso; omega) | (intro h1; have h2 : _ = _ := h1; exfalso; omega) | (intro h1; have h2 : _ ≤ _ := h1; exfalso; omega) | (intros; exfalso; (try dsimp only at *); omega) | (intro b h1 h2 h3; exfalso; have h4 := h3.2; (try dsimp only at *); omega) | (intro h1; exfalso; have h4 := h1.2; (try dsimp only at *); omega) | (intro x h1 h2; exfalso; have h4 := h2.2; (try dsimp only at *); omega) | (intro x h1 h2; exact ⟨_, rfl, h2⟩) | (intro x h1 h2; have h4 := h2.1; have h5 := h2.2; exfalso; omega) | (intro x h1 h2; exact h2.1) | (intro x h1 h2; rcases h2.1 with h3 | h3; exact h3; exfalso; omega) | (intro x h1 h2; rcases h2 with h3 | h3; exact h3; exfalso; omega))
            replace hw := hw.chg k3 (by first | (intro x h1 h2; exact h2) | (intro x h0 h1 h2; exact hS x h1 h2) | (intro x h0 h1 h2; have h3 : _ = _ := h2; subst h3; exact hSR h1.1) | (intro x h1 h2; have h3 : _ = _ := h2; subst h3; assumption) | (intro x h1 h2; have h3 : _ = _ := h2; exfalso; omega) | (intro b h1 h2 h3; have h4 : _ = _ := h3; (try dsimp only at h2); exfalso; omega) | (intro h1; have h2 : _ = _ := h1; exfalso; omega) | (intro h1; have h2 : _ ≤ _ := h1; exfalso; omega) | (intros; exfalso; (try dsimp only at *); omega) | (intro b h1 h2 h3; exfalso; have h4 := h3.2; (try dsimp only at *); omega) | (intro h1; exfalso; have h4 := h1.2; (try dsimp only at *); omega) | (intro x h1 h2; exfalso; have h4 := h2.2; (try dsimp only at *); omega) | (intro x h1 h2; exact ⟨_, rfl, h2⟩) | (intro x h1 h2; have h4 := h2.1; have h5 := h2.2; exfalso; omega) | (intro x h1 h2; exact h2.1) | (intro x h1 h2; rcases h2.1 with h3 | h3; exact h3; exfalso; omega) | (intro x h1 h2; rcases h2 with h3 | h3; exact h3; exfalso; omega))
            have hA2 := hA.flush
            refine WL.nil (WX.block_normal (WX.block_normal (WX.then_normal (WC.region (WL.move rfl rfl (WL.add64 rfl rfl (by first | omega | (constructor <;> omega)) rfl (WL.assign rfl rfl (?_))))))))
            refine WL.nil (?_)
            first
              | exact WX.loop_next (i + 1) ⟨rfl, rfl, rfl, rfl, trivial⟩ ⟨by omega, hO, hw, _, hA2, hR2⟩ (by omega)
              | exact WX.loop_next (i + 1) ⟨rfl, rfl, rfl, rfl, trivial⟩ ⟨by omega, hO, hw, _, hA.more, hR⟩ (by omega)
              | exact WX.loop_next (d + 1) ⟨rfl, rfl, rfl, rfl, trivial⟩ ⟨by omega, hO, hw, s, sd, sn, us, sg, by omega, fun d2 a2 h h2 => sh d2 a2 (by omega) h2, hR⟩ (by omega)
              | (refine WX.loop_next (a + 1) ⟨rfl, rfl, rfl, rfl, rfl, trivial⟩ ⟨by omega, hO, hw, addS s ((d : Int), (a : Int)) (B ((d : Int) * 10 + a)), sd, sn, addS_up us _ _, sg, ?_, fun d2 a2 h h2 => ?_, hR3⟩ (by omega)
                 ·
                   show (s.waits ++ [_]).length ≤ _
                   rw [List.length_append]
                   show s.waits.length + 1 ≤ _
                   omega
                 ·
                   rw [addS_held]
                   split
                   ·
                     rename_i e
                     injection e with e1 e2
                     rw [e1, e2]
                   ·
                     rename_i e
                     refine sh d2 a2 ?_ h2
                     rcases h with h | ⟨h, h3⟩
                     ·
                       exact .inl h
                     ·
                       right
                       refine ⟨h, ?_⟩
                       rcases Nat.lt_or_ge a2 a with h4 | h4
                       ·
                         exact h4
                       ·
                         exfalso
                         have h5 : a2 = a := by omega
                         exact e (by rw [h, h5]))
              | exact WX.loop_next (e + 1) ⟨rfl, rfl, rfl, rfl, trivial⟩ ⟨by omega, hw, hR⟩ (by omega)
              | exact WX.loop_next (f + 1) ⟨rfl, rfl, rfl, trivial⟩ ⟨by omega, hw, hR⟩ (by omega)
          ·
            refine WL.assign rfl rfl (WL.nil (WX.then_normal (WC.cond_false rfl (WC.seq (WC.region (?_))))))
            refine WL.eql? rfl rfl rfl (fun h88 => ?_) (fun h88 => ?_)
            ·
              refine WL.assign rfl rfl (WL.nil (WX.then_normal (WC.cond_true rfl (WC.region (WL.move rfl rfl (?_))))))
              replace hR := hR.old
              have zw := hw.size
              refine WL.build (e := ei) [] Try.underlying22 Try.sizeOf3 Try.zeroValue3 rfl rfl rfl (by first | (simp [Value.cells]; done) | (simp [Value.cells] <;> rfl) | (simp [Value.cells, eb, ei, es, ebool, e32, e64]; done)) (by decide) rfl ?_
              intro a_hb0 w_hb0 hb0 l_hb0 z_hb0 k_hb0
              have zs_k_hb0 := k_hb0.size
              replace hO := hO.pure k_hb0
              replace hw := hw.pure k_hb0
              replace hR := hR.pure k_hb0
              refine WL.move rfl rfl (WL.move rfl rfl (?_))
              refine WL.indexT (e := eop) Try.underlying53 Try.sizeOf55 hO.outer rfl rfl ⟨ho, rfl⟩ rfl ?_
              intro bb oo hcc
              refine WL.fieldAddr (fld_55_5) rfl rfl (WL.load Try.isAgg22 rfl (hcc _ _ rfl) rfl (?_))
              have hpk := hO.inner o (List.mem_of_getElem? ho)
              have hpl := hl0 o (List.mem_of_getElem? ho)
              refine WL.append (e := ei) info_3 rfl Try.underlying22 rfl rfl hb0 (hpk.src Try.underlying22) (by (try simp only [List.length_append, List.length_cons, List.length_nil] at *); omega) (by intro b hb; first | (apply hS; omega) | ((try dsimp only); omega)) rfl ?_
              intro a_hb1 c_hb1 w_hb1 hb1 g_hb1 n_hb1
              have z_hb1 := g_hb1.chg.size
              have zs_g_hb1_chg := g_hb1.chg.size
              replace hO := hO.chg g_hb1.chg (by first | (intro x h1 h2; exact h2) | (intro x h0 h1 h2; exact hS x h1 h2) | (intro x h0 h1 h2; have h3 : _ = _ := h2; subst h3; exact hSR h1.1) | (intro x h1 h2; have h3 : _ = _ := h2; subst h3; assumption) | (intro x h1 h2; have h3 : _ = _ := h2; exfalso; omega) | (intro b h1 h2 h3; have h4 : _ = _ := h3; (try dsimp only at h2); exfalso; omega) | (intro h1; have h2 : _ = _ := h1; exfalso; omega) | (intro h1; have h2 : _ ≤ _ := h1; exfalso; omega) | (intros; exfalso; (try dsimp only at *); omega) | (intro b h1 h2 h3; exfalso; have h4 := h3.2; (try dsimp only at *); omega) | (intro h1; exfalso; have h4 := h1.2; (try dsimp only at *); omega) | (intro x h1 h2; exfalso; have h4 := h2.2; (try dsimp only at *); omega) | (intro x h1 h2; exact ⟨_, rfl, h2⟩) | (intro x h1 h2; have h4 := h2.1; have h5 := h2.2; exfalso; omega) | (intro x h1 h2; exact h2.1) | (intro x h1 h2; rcases h2.1 with h3 | h3; exact h3; exfalso; omega) | (intro x h1 h2; rcases h2 with h3 | h3; exact h3; exfalso; omega))
              replace hw := hw.chg g_hb1.chg (by first | (intro x h1 h2; exact h2) | (intro x h0 h1 h2; exact hS x h1 h2) | (intro x h0 h1 h2; have h3 : _ = _ := h2; subst h3; exact hSR h1.1) | (intro x h1 h2; have h3 : _ = _ := h2; subst h3; assumption) | (intro x h1 h2; have h3 : _ = _ := h2; exfalso; omega) | (intro b h1 h2 h3; have h4 : _ = _ := h3; (try dsimp only at h2); exfalso; omega) | (intro h1; have h2 : _ = _ := h1; exfalso; omega) | (intro h1; have h2 : _ ≤ _ := h1; exfalso; omega) | (intros; exfalso; (try dsimp only at *); omega) | (intro b h1 h2 h3; exfalso; have h4 := h3.2; (try dsimp only at *); omega) | (intro h1; exfalso; have h4 := h1.2; (try dsimp only at *); omega) | (intro x h1 h2; exfalso; have h4 := h2.2; (try dsimp only at *); omega) | (intro x h1 h2; exact ⟨_, rfl, h2⟩) | (intro x h1 h2; have h4 := h2.1; have h5 := h2.2; exfalso; omega) | (intro x h1 h2; exact h2.1) | (intro x h1 h2; rcases h2.1 with h3 | h3; exact h3; exfalso; omega) | (intro x h1 h2; rcases h2 with h3 | h3; exact h3; exfalso; omega))
              replace hR := hR.chg g_hb1.chg (by first | (intro x h1 h2; exact h2) | (intro x h0 h1 h2; exact hS x h1 h2) | (intro x h0 h1 h2; have h3 : _ = _ := h2; subst h3; exact hSR h1.1) | (intro x h1 h2; have h3 : _ = _ := h2; subst h3; assumption) | (intro x h1 h2; have h3 : _ = _ := h2; exfalso; omega) | (intro b h1 h2 h3; have h4 : _ = _ := h3; (try dsimp only at h2); exfalso; omega) | (intro h1; have h2 : _ = _ := h1; exfalso; omega) | (intro h1; have h2 : _ ≤ _ := h1; exfalso; omega) | (intros; exfalso; (try dsimp only at *); omega) | (intro b h1 h2 h3; exfalso; have h4 := h3.2; (try dsimp only at *); omega) | (intro h1; exfalso; have h4 := h1.2; (try dsimp only at *); omega) | (intro x h1 h2; exfalso; have h4 := h2.2; (try dsimp only at *); omega) | (intro x h1 h2; exact ⟨_, rfl, h2⟩) | (intro x h1 h2; have h4 := h2.1; have h5 := h2.2; exfalso; omega) | (intro x h1 h2; exact h2.1) | (intro x h1 h2; rcases h2.1 with h3 | h3; exact h3; exfalso; omega) | (intro x h1 h2; rcases h2 with h3 | h3; exact h3; exfalso; omega))
              rw [show ([] ++ o.picks : List Int) = o.picks from rfl] at hb1 ⊢
              refine WL.call eg_17 rfl rfl (Crash_calls hR hb1.rsl (fun x h1 h2 => by omega)) ?_
              rintro v w7 ⟨rfl, hR7, k7⟩
              have zs_k7 := k7.size
              replace hO := hO.chg k7 (by first | (intro x h1 h2; exact h2) | (intro x h0 h1 h2; exact hS x h1 h2) | (intro x h0 h1 h2; have h3 : _ = _ := h2; subst h3; exact hSR h1.1) | (intro x h1 h2; have h3 : _ = _ := h2; subst h3; assumption) | (intro x h1 h2; have h3 : _ = _ := h2; exfalso; omega) | (intro b h1 h2 h3; have h4 : _ = _ := h3; (try dsimp only at h2); exfalso; omega) | (intro h1; have h2 : _ = _ := h1; exfalso; omega) | (intro h1; have h2 : _ ≤ _ := h1; exfalso; omega) | (intros; exfalso; (try dsimp only at *); omega) | (intro b h1 h2 h3; exfalso; have h4 := h3.2; (try dsimp only at *); omega) | (intro h1; exfalso; have h4 := h1.2; (try dsimp only at *); omega) | (intro x h1 h2; exfalso; have h4 := h2.2; (try dsimp only at *); omega) | (intro x h1 h2; exact ⟨_, rfl, h2⟩) | (intro x h1 h2; have h4 := h2.1; have h5 := h2.2; exfalso; omega) | (intro x h1 h2; exact h2.1) | (intro x h1 h2; rcases h2.1 with h3 | h3; exact h3; exfalso; omega) | (intro x h1 h2; rcases h2 with h3 | h3; exact h3; exfalso; omega))
              replace hw := hw.chg k7 (by first | (intro x h1 h2; exact h2) | (intro x h0 h1 h2; exact hS x h1 h2) | (intro x h0 h1 h2; have h3 : _ = _ := h2; subst h3; exact hSR h1.1) | (intro x h1 h2; have h3 : _ = _ := h2; subst h3; assumption) | (intro x h1 h2; have h3 : _ = _ := h2; exfalso; omega) | (intro b h1 h2 h3; have h4 : _ = _ := h3; (try dsimp only at h2); exfalso; omega) | (intro h1; have h2 : _ = _ := h1; exfalso; omega) | (intro h1; have h2 : _ ≤ _ := h1; exfalso; omega) | (intros; exfalso; (try dsimp only at *); omega) | (intro b h1 h2 h3; exfalso; have h4 := h3.2; (try dsimp only at *); omega) | (intro h1; exfalso; have h4 := h1.2; (try dsimp only at *); omega) | (intro x h1 h2; exfalso; have h4 := h2.2; (try dsimp only at *); omega) | (intro x h1 h2; exact ⟨_, rfl, h2⟩) | (intro x h1 h2; have h4 := h2.1; have h5 := h2.2; exfalso; omega) | (intro x h1 h2; exact h2.1) | (intro x h1 h2; rcases h2.1 with h3 | h3; exact h3; exfalso; omega) | (intro x h1 h2; rcases h2 with h3 | h3; exact h3; exfalso; omega))
              have hA2 := hA.crash o.picks
              have hR2 := hR7.mono (A' := fun x => w.heap.size ≤ x) (fun x hx => hx.1)
              clear hR7
              refine WL.nil (WX.block_normal (WX.block_normal (WX.then_normal (WC.region (WL.move rfl rfl (WL.add64 rfl rfl (by first | omega | (constructor <;> omega)) rfl (WL.assign rfl rfl (?_))))))))
              refine WL.nil (?_)
              first
                | exact WX.loop_next (i + 1) ⟨rfl, rfl, rfl, rfl, trivial⟩ ⟨by omega, hO, hw, _, hA2, hR2⟩ (by omega)
                | exact WX.loop_next (i + 1) ⟨rfl, rfl, rfl, rfl, trivial⟩ ⟨by omega, hO, hw, _, hA.more, hR⟩ (by omega)
                | exact WX.loop_next (d + 1) ⟨rfl, rfl, rfl, rfl, trivial⟩ ⟨by omega, hO, hw, s, sd, sn, us, sg, by omega, fun d2 a2 h h2 => sh d2 a2 (by omega) h2, hR⟩ (by omega)
                | (refine WX.loop_next (a + 1) ⟨rfl, rfl, rfl, rfl, rfl, trivial⟩ ⟨by omega, hO, hw, addS s ((d : Int), (a : Int)) (B ((d : Int) * 10 + a)), sd, sn, addS_up us _ _, sg, ?_, fun d2 a2 h h2 => ?_, hR3⟩ (by omega)
                   ·
                     show (s.waits ++ [_]).length ≤ _
                     rw [List.length_append]
                     show s.waits.length + 1 ≤ _
                     omega
                   ·
                     rw [addS_held]
                     split
                     ·
                       rename_i e
                       injection e with e1 e2
                       rw [e1, e2]
                     ·
                       rename_i e
                       refine sh d2 a2 ?_ h2
                       rcases h with h | ⟨h, h3⟩
                       ·
                         exact .inl h
                       ·
                         right
                         refine ⟨h, ?_⟩
                         rcases Nat.lt_or_ge a2 a with h4 | h4
                         ·
                           exact h4
                         ·
                           exfalso
                           have h5 : a2 = a := by omega
                           exact e (by rw [h, h5]))
                | exact WX.loop_next (e + 1) ⟨rfl, rfl, rfl, rfl, trivial⟩ ⟨by omega, hw, hR⟩ (by omega)
                | exact WX.loop_next (f + 1) ⟨rfl, rfl, rfl, trivial⟩ ⟨by omega, hw, hR⟩ (by omega)
            ·
              refine WL.assign rfl rfl (WL.nil (WX.then_normal (WC.cond_false rfl (WC.seq (WC.region (?_))))))
              refine WL.eql? rfl rfl rfl (fun h99 => ?_) (fun h99 => ?_)
              ·
                refine WL.assign rfl rfl (WL.nil (WX.then_normal (WC.cond_true rfl (WC.region (WL.move rfl rfl (WL.move rfl rfl (?_)))))))
                have hok := hR.ok
                refine WL.call eg_20 rfl rfl (LoseU hR (hA.is hk4)) ?_
                rintro v w3 ⟨rfl, hR2, k3⟩
                have zs_k3 := k3.size
                replace hO := hO.chg k3 (by first | (intro x h1 h2; exact h2) | (intro x h0 h1 h2; exact hS x h1 h2) | (intro x h0 h1 h2; have h3 : _ = _ := h2; subst h3; exact hSR h1.1) | (intro x h1 h2; have h3 : _ = _ := h2; subst h3; assumption) | (intro x h1 h2; have h3 : _ = _ := h2; exfalso; omega) | (intro b h1 h2 h3; have h4 : _ = _ := h3; (try dsimp only at h2); exfalso; omega) | (intro h1; have h2 : _ = _ := h1; exfalso; omega) | (intro h1; have h2 : _ ≤ _ := h1; exfalso; omega) | (intros; exfalso; (try dsimp only at *); omega) | (intro b h1 h2 h3; exfalso; have h4 := h3.2; (try dsimp only at *); omega) | (intro h1; exfalso; have h4 := h1.2; (try dsimp only at *); omega) | (intro x h1 h2; exfalso; have h4 := h2.2; (try dsimp only at *); omega) | (intro x h1 h2; exact ⟨_, rfl, h2⟩) | (intro x h1 h2; have h4 := h2.1; have h5 := h2.2; exfalso; omega) | (intro x h1 h2; exact h2.1) | (intro x h1 h2; rcases h2.1 with h3 | h3; exact h3; exfalso; omega) | (intro x h1 h2; rcases h2 with h3 | h3; exact h3; exfalso; omega))
                replace hw := hw.chg k3 (by first | (intro x h1 h2; exact h2) | (intro x h0 h1 h2; exact hS x h1 h2) | (intro x h0 h1 h2; have h3 : _ = _ := h2; subst h3; exact hSR h1.1) | (intro x h1 h2; have h3 : _ = _ := h2; subst h3; assumption) | (intro x h1 h2; have h3 : _ = _ := h2; exfalso; omega) | (intro b h1 h2 h3; have h4 : _ = _ := h3; (try dsimp only at h2); exfalso; omega) | (intro h1; have h2 : _ = _ := h1; exfalso; omega) | (intro h1; have h2 : _ ≤ _ := h1; exfalso; omega) | (intros; exfalso; (try dsimp only at *); omega) | (intro b h1 h2 h3; exfalso; have h4 := h3.2; (try dsimp only at *); omega) | (intro h1; exfalso; have h4 := h1.2; (try dsimp only at *); omega) | (intro x h1 h2; exfalso; have h4 := h2.2; (try dsimp only at *); omega) | (intro x h1 h2; exact ⟨_, rfl, h2⟩) | (intro x h1 h2; have h4 := h2.1; have h5 := h2.2; exfalso; omega) | (intro x h1 h2; exact h2.1) | (intro x h1 h2; rcases h2.1 with h3 | h3; exact h3; exfalso; omega) | (intro x h1 h2; rcases h2 with h3 | h3; exact h3; exfalso; omega))
                have hA2 := hA.lose hok hk4 true
                refine WL.nil (WX.block_normal (WX.block_normal (WX.then_normal (WC.region (WL.move rfl rfl (WL.add64 rfl rfl (by first | omega | (constructor <;> omega)) rfl (WL.assign rfl rfl (?_))))))))
                refine WL.nil (?_)
                first
                  | exact WX.loop_next (i + 1) ⟨rfl, rfl, rfl, rfl, trivial⟩ ⟨by omega, hO, hw, _, hA2, hR2⟩ (by omega)
                  | exact WX.loop_next (i + 1) ⟨rfl, rfl, rfl, rfl, trivial⟩ ⟨by omega, hO, hw, _, hA.more, hR⟩ (by omega)
                  | exact WX.loop_next (d + 1) ⟨rfl, rfl, rfl, rfl, trivial⟩ ⟨by omega, hO, hw, s, sd, sn, us, sg, by omega, fun d2 a2 h h2 => sh d2 a2 (by omega) h2, hR⟩ (by omega)
                  | (refine WX.loop_next (a + 1) ⟨rfl, rfl, rfl, rfl, rfl, trivial⟩ ⟨by omega, hO, hw, addS s ((d : Int), (a : Int)) (B ((d : Int) * 10 + a)), sd, sn, addS_up us _ _, sg, ?_, fun d2 a2 h h2 => ?_, hR3⟩ (by omega)
                     ·
                       show (s.waits ++ [_]).length ≤ _
                       rw [List.length_append]
                       show s.waits.length + 1 ≤ _
                       omega
                     ·
                       rw [addS_held]
                       split
                       ·
                         rename_i e
                         injection e with e1 e2
                         rw [e1, e2]
                       ·
                         rename_i e
                         refine sh d2 a2 ?_ h2
                         rcases h with h | ⟨h, h3⟩
                         ·
                           exact .inl h
                         ·
                           right
                           refine ⟨h, ?_⟩
                           rcases Nat.lt_or_ge a2 a with h4 | h4
                           ·
                             exact h4
                           ·
                             exfalso
                             have h5 : a2 = a := by omega
                             exact e (by rw [h, h5]))
                  | exact WX.loop_next (e + 1) ⟨rfl, rfl, rfl, rfl, trivial⟩ ⟨by omega, hw, hR⟩ (by omega)
                  | exact WX.loop_next (f + 1) ⟨rfl, rfl, rfl, trivial⟩ ⟨by omega, hw, hR⟩ (by omega)
              ·
                refine WL.assign rfl rfl (WL.nil (WX.then_normal (WC.cond_false rfl (WC.seq (WC.region (?_))))))
                refine WL.eql? rfl rfl rfl (fun h104 => ?_) (fun h104 => ?_)
                ·
                  refine WL.assign rfl rfl (WL.nil (WX.then_normal (WC.cond_true rfl (WC.region (WL.move rfl rfl (WL.move rfl rfl (?_)))))))
                  have hok := hR.ok
                  refine WL.call eg_23 rfl rfl (ReplaceU hR (hA.is hk4)) ?_
                  rintro v w3 ⟨rfl, hR2, k3⟩
                  have zs_k3 := k3.size
                  replace hO := hO.chg k3 (by first | (intro x h1 h2; exact h2) | (intro x h0 h1 h2; exact hS x h1 h2) | (intro x h0 h1 h2; have h3 : _ = _ := h2; subst h3; exact hSR h1.1) | (intro x h1 h2; have h3 : _ = _ := h2; subst h3; assumption) | (intro x h1 h2; have h3 : _ = _ := h2; exfalso; omega) | (intro b h1 h2 h3; have h4 : _ = _ := h3; (try dsimp only at h2); exfalso; omega) | (intro h1; have h2 : _ = _ := h1; exfalso; omega) | (intro h1; have h2 : _ ≤ _ := h1; exfalso; omega) | (intros; exfalso; (try dsimp only at *); omega) | (intro b h1 h2 h3; exfalso; have h4 := h3.2; (try dsimp only at *); omega) | (intro h1; exfalso; have h4 := h1.2; (try dsimp only at *); omega) | (intro x h1 h2; exfalso; have h4 := h2.2; (try dsimp only at *); omega) | (intro x h1 h2; exact ⟨_, rfl, h2⟩) | (intro x h1 h2; have h4 := h2.1; have h5 := h2.2; exfalso; omega) | (intro x h1 h2; exact h2.1) | (intro x h1 h2; rcases h2.1 with h3 | h3; exact h3; exfalso; omega) | (intro x h1 h2; rcases h2 with h3 | h3; exact h3; exfalso; omega))
                  replace hw := hw.chg k3 (by first | (intro x h1 h2; exact h2) | (intro x h0 h1 h2; exact hS x h1 h2) | (intro x h0 h1 h2; have h3 : _ = _ := h2; subst h3; exact hSR h1.1) | (intro x h1 h2; have h3 : _ = _ := h2; subst h3; assumption) | (intro x h1 h2; have h3 : _ = _ := h2; exfalso; omega) | (intro b h1 h2 h3; have h4 : _ = _ := h3; (try dsimp only at h2); exfalso; omega) | (intro h1; have h2 : _ = _ := h1; exfalso; omega) | (intro h1; have h2 : _ ≤ _ := h1; exfalso; omega) | (intros; exfalso; (try dsimp only at *); omega) | (intro b h1 h2 h3; exfalso; have h4 := h3.2; (try dsimp only at *); omega) | (intro h1; exfalso; have h4 := h1.2; (try dsimp only at *); omega) | (intro x h1 h2; exfalso; have h4 := h2.2; (try dsimp only at *); omega) | (intro x h1 h2; exact ⟨_, rfl, h2⟩) | (intro x h1 h2; have h4 := h2.1; have h5 := h2.2; exfalso; omega) | (intro x h1 h2; exact h2.1) | (intro x h1 h2; rcases h2.1 with h3 | h3; exact h3; exfalso; omega) | (intro x h1 h2; rcases h2 with h3 | h3; exact h3; exfalso; omega))
                  have hA2 := hA.replace hok hk4
                  refine WL.nil (WX.block_normal (WX.block_normal (WX.then_normal (WC.region (WL.move rfl rfl (WL.add64 rfl rfl (by first | omega | (constructor <;> omega)) rfl (WL.assign rfl rfl (?_))))))))
                  refine WL.nil (?_)
                  first
                    | exact WX.loop_next (i + 1) ⟨rfl, rfl, rfl, rfl, trivial⟩ ⟨by omega, hO, hw, _, hA2, hR2⟩ (by omega)
                    | exact WX.loop_next (i + 1) ⟨rfl, rfl, rfl, rfl, trivial⟩ ⟨by omega, hO, hw, _, hA.more, hR⟩ (by omega)
                    | exact WX.loop_next (d + 1) ⟨rfl, rfl, rfl, rfl, trivial⟩ ⟨by omega, hO, hw, s, sd, sn, us, sg, by omega, fun d2 a2 h h2 => sh d2 a2 (by omega) h2, hR⟩ (by omega)
                    | (refine WX.loop_next (a + 1) ⟨rfl, rfl, rfl, rfl, rfl, trivial⟩ ⟨by omega, hO, hw, addS s ((d : Int), (a : Int)) (B ((d : Int) * 10 + a)), sd, sn, addS_up us _ _, sg, ?_, fun d2 a2 h h2 => ?_, hR3⟩ (by omega)
                       ·
                         show (s.waits ++ [_]).length ≤ _
                         rw [List.length_append]
                         show s.waits.length + 1 ≤ _
                         omega
                       ·
                         rw [addS_held]
                         split
                         ·
                           rename_i e
                           injection e with e1 e2
                           rw [e1, e2]
                         ·
                           rename_i e
                           refine sh d2 a2 ?_ h2
                           rcases h with h | ⟨h, h3⟩
                           ·
                             exact .inl h
                           ·
                             right
                             refine ⟨h, ?_⟩
                             rcases Nat.lt_or_ge a2 a with h4 | h4
                             ·
                               exact h4
                             ·
                               exfalso
                               have h5 : a2 = a := by omega
                               exact e (by rw [h, h5]))
                    | exact WX.loop_next (e + 1) ⟨rfl, rfl, rfl, rfl, trivial⟩ ⟨by omega, hw, hR⟩ (by omega)
                    | exact WX.loop_next (f + 1) ⟨rfl, rfl, rfl, trivial⟩ ⟨by omega, hw, hR⟩ (by omega)
                ·
                  refine WL.assign rfl rfl (WL.nil (WX.then_normal (WC.cond_false rfl (WC.seq (WC.region (?_))))))
                  refine WL.eql? rfl rfl rfl (fun h109 => ?_) (fun h109 => ?_)
                  ·
                    refine WL.assign rfl rfl (WL.nil (WX.then_normal (WC.cond_true rfl (WC.region (WL.move rfl rfl (WL.move rfl rfl (WL.move rfl rfl (?_))))))))
                    refine WL.move rfl rfl (WL.move rfl rfl (?_))
                    refine WL.indexT (e := eop) Try.underlying53 Try.sizeOf55 hO.outer rfl rfl ⟨ho, rfl⟩ rfl ?_
                    intro bb oo hcc
                    refine WL.fieldAddr (fld_55_4) rfl rfl (WL.load Try.isAgg3 rfl (hcc _ _ rfl) rfl (WL.c_i64_u64 Try.underlying3 Try.underlying41 rfl rfl (WL.num rfl rfl (n_shr64 _ _ _ _ 1 (by decide)) rfl (?_))))
                    have hn63 : (B64 o.n >>> 1).toNat ≤ 9223372036854775807 := by
                      rw [UInt64.toNat_shiftRight]
                      have := (B64 o.n).toNat_lt
                      rw [Nat.shiftRight_eq_div_pow]
                      show _ / 2 ≤ _
                      omega
                    refine WL.c_u64_i64s (n := (B64 o.n >>> 1).toNat) Try.underlying41 Try.underlying3 rfl ⟨rfl, hn63⟩ rfl ?_
                    have zw := hw.size
                    refine WL.call eg_19 rfl rfl (Rot_calls hR (k : Int) (ka : Int) (((B64 o.n >>> 1).toNat : Nat) : Int) (by omega)) ?_
                    rintro v w3 ⟨rfl, hR3, k3⟩
                    replace hR3 := hR3.grow (fun x hx => by show w.heap.size ≤ x; omega)
                    have zs_k3 := k3.size
                    replace hO := hO.chg k3 (by first | (intro x h1 h2; exact h2) | (intro x h0 h1 h2; exact hS x h1 h2) | (intro x h0 h1 h2; have h3 : _ = _ := h2; subst h3; exact hSR h1.1) | (intro x h1 h2; have h3 : _ = _ := h2; subst h3; assumption) | (intro x h1 h2; have h3 : _ = _ := h2; exfalso; omega) | (intro b h1 h2 h3; have h4 : _ = _ := h3; (try dsimp only at h2); exfalso; omega) | (intro h1; have h2 : _ = _ := h1; exfalso; omega) | (intro h1; have h2 : _ ≤ _ := h1; exfalso; omega) | (intros; exfalso; (try dsimp only at *); omega) | (intro b h1 h2 h3; exfalso; have h4 := h3.2; (try dsimp only at *); omega) | (intro h1; exfalso; have h4 := h1.2; (try dsimp only at *); omega) | (intro x h1 h2; exfalso; have h4 := h2.2; (try dsimp only at *); omega) | (intro x h1 h2; exact ⟨_, rfl, h2⟩) | (intro x h1 h2; have h4 := h2.1; have h5 := h2.2; exfalso; omega) | (intro x h1 h2; exact h2.1) | (intro x h1 h2; rcases h2.1 with h3 | h3; exact h3; exfalso; omega) | (intro x h1 h2; rcases h2 with h3 | h3; exact h3; exfalso; omega))
                    replace hw := hw.chg k3 (by first | (intro x h1 h2; exact h2) | (intro x h0 h1 h2; exact hS x h1 h2) | (intro x h0 h1 h2; have h3 : _ = _ := h2; subst h3; exact hSR h1.1) | (intro x h1 h2; have h3 : _ = _ := h2; subst h3; assumption) | (intro x h1 h2; have h3 : _ = _ := h2; exfalso; omega) | (intro b h1 h2 h3; have h4 : _ = _ := h3; (try dsimp only at h2); exfalso; omega) | (intro h1; have h2 : _ = _ := h1; exfalso; omega) | (intro h1; have h2 : _ ≤ _ := h1; exfalso; omega) | (intros; exfalso; (try dsimp only at *); omega) | (intro b h1 h2 h3; exfalso; have h4 := h3.2; (try dsimp only at *); omega) | (intro h1; exfalso; have h4 := h1.2; (try dsimp only at *); omega) | (intro x h1 h2; exfalso; have h4 := h2.2; (try dsimp only at *); omega) | (intro x h1 h2; exact ⟨_, rfl, h2⟩) | (intro x h1 h2; have h4 := h2.1; have h5 := h2.2; exfalso; omega) | (intro x h1 h2; exact h2.1) | (intro x h1 h2; rcases h2.1 with h3 | h3; exact h3; exfalso; omega) | (intro x h1 h2; rcases h2 with h3 | h3; exact h3; exfalso; omega))
                    have hA2 : Ap B k (i + 1) (if rotE s (k : Int) (ka : Int) (((B64 o.n >>> 1).toNat : Nat) : Int) = 0 then rotS s ((k : Int), (ka : Int)) (((B64 o.n >>> 1).toNat : Nat) : Int) else s) := by
                      split
                      ·
                        exact hA.rot _ _
                      ·
                        exact hA.more
                    have hR2 := hR3
                    clear hR3
                    refine WL.nil (WX.block_normal (WX.block_normal (WX.then_normal (WC.region (WL.move rfl rfl (WL.add64 rfl rfl (by first | omega | (constructor <;> omega)) rfl (WL.assign rfl rfl (?_))))))))
                    refine WL.nil (?_)
                    first
                      | exact WX.loop_next (i + 1) ⟨rfl, rfl, rfl, rfl, trivial⟩ ⟨by omega, hO, hw, _, hA2, hR2⟩ (by omega)
                      | exact WX.loop_next (i + 1) ⟨rfl, rfl, rfl, rfl, trivial⟩ ⟨by omega, hO, hw, _, hA.more, hR⟩ (by omega)
                      | exact WX.loop_next (d + 1) ⟨rfl, rfl, rfl, rfl, trivial⟩ ⟨by omega, hO, hw, s, sd, sn, us, sg, by omega, fun d2 a2 h h2 => sh d2 a2 (by omega) h2, hR⟩ (by omega)
                      | (refine WX.loop_next (a + 1) ⟨rfl, rfl, rfl, rfl, rfl, trivial⟩ ⟨by omega, hO, hw, addS s ((d : Int), (a : Int)) (B ((d : Int) * 10 + a)), sd, sn, addS_up us _ _, sg, ?_, fun d2 a2 h h2 => ?_, hR3⟩ (by omega)
                         ·
                           show (s.waits ++ [_]).length ≤ _
                           rw [List.length_append]
                           show s.waits.length + 1 ≤ _
                           omega
                         ·
                           rw [addS_held]
                           split
                           ·
                             rename_i e
                             injection e with e1 e2
                             rw [e1, e2]
                           ·
                             rename_i e
                             refine sh d2 a2 ?_ h2
                             rcases h with h | ⟨h, h3⟩
                             ·
                               exact .inl h
                             ·
                               right
                               refine ⟨h, ?_⟩
                               rcases Nat.lt_or_ge a2 a with h4 | h4
                               ·
                                 exact h4
                               ·
                                 exfalso
                                 have h5 : a2 = a := by omega
                                 exact e (by rw [h, h5]))
                      | exact WX.loop_next (e + 1) ⟨rfl, rfl, rfl, rfl, trivial⟩ ⟨by omega, hw, hR⟩ (by omega)
                      | exact WX.loop_next (f + 1) ⟨rfl, rfl, rfl, trivial⟩ ⟨by omega, hw, hR⟩ (by omega)
                  ·
                    refine WL.assign rfl rfl (WL.nil (WX.then_normal (WC.cond_false rfl (WC.skip (WX.block_normal (WX.block_normal (WX.then_normal (?_))))))))
                    refine WC.region (WL.move rfl rfl (WL.add64 rfl rfl (by first | omega | (constructor <;> omega)) rfl (WL.assign rfl rfl (WL.nil (?_)))))
                    first
                      | exact WX.loop_next (i + 1) ⟨rfl, rfl, rfl, rfl, trivial⟩ ⟨by omega, hO, hw, _, hA2, hR2⟩ (by omega)
                      | exact WX.loop_next (i + 1) ⟨rfl, rfl, rfl, rfl, trivial⟩ ⟨by omega, hO, hw, _, hA.more, hR⟩ (by omega)
                      | exact WX.loop_next (d + 1) ⟨rfl, rfl, rfl, rfl, trivial⟩ ⟨by omega, hO, hw, s, sd, sn, us, sg, by omega, fun d2 a2 h h2 => sh d2 a2 (by omega) h2, hR⟩ (by omega)
                      | (refine WX.loop_next (a + 1) ⟨rfl, rfl, rfl, rfl, rfl, trivial⟩ ⟨by omega, hO, hw, addS s ((d : Int), (a : Int)) (B ((d : Int) * 10 + a)), sd, sn, addS_up us _ _, sg, ?_, fun d2 a2 h h2 => ?_, hR3⟩ (by omega)
                         ·
                           show (s.waits ++ [_]).length ≤ _
                           rw [List.length_append]
                           show s.waits.length + 1 ≤ _
                           omega
                         ·
                           rw [addS_held]
                           split
                           ·
                             rename_i e
                             injection e with e1 e2
                             rw [e1, e2]
                           ·
                             rename_i e
                             refine sh d2 a2 ?_ h2
                             rcases h with h | ⟨h, h3⟩
                             ·
                               exact .inl h
                             ·
                               right
                               refine ⟨h, ?_⟩
                               rcases Nat.lt_or_ge a2 a with h4 | h4
                               ·
                                 exact h4
                               ·
                                 exfalso
                                 have h5 : a2 = a := by omega
                                 exact e (by rw [h, h5]))
                      | exact WX.loop_next (e + 1) ⟨rfl, rfl, rfl, rfl, trivial⟩ ⟨by omega, hw, hR⟩ (by omega)
                      | exact WX.loop_next (f + 1) ⟨rfl, rfl, rfl, trivial⟩ ⟨by omega, hw, hR⟩ (by omega)
      ·
        refine WL.pickT rfl rfl rfl (WL.nil (WX.then_normal (WC.cond_false rfl (WC.exit (WX.then_exit (WX.then_exit (WX.block_here (?_))))))))
        refine WX.then_normal (WC.seq (WC.seq (WC.region (WL.assign rfl rfl (WL.nil (WX.then_normal (WC.block (?_))))))))
        refine WC.loop (σ := Nat) (fun f => [(1, vi (k : Int)), (5, ptr R), (11, vi (f : Int))]) (fun f w' => f ≤ 4 ∧ Chg Nob w w' ∧ RK (w.heap.size ≤ ·) w' R s) (fun f => 4 - f) 0 ⟨rfl, rfl, rfl, trivial⟩ ⟨by omega, hw, hR⟩ ?_
        clear hw hR hO
        rintro f w1 ⟨hf, hw, hR⟩
        refine WC.seq (WC.seq (WC.region (WL.move rfl rfl (?_))))
        refine WL.lss? rfl rfl rfl (fun h123 => ?_) (fun h123 => ?_)
        ·
          refine WL.nil (WX.then_normal (WC.cond_true rfl (WC.skip (WX.then_normal (WC.seq (WC.block (WC.seq (?_))))))))
          refine WC.region (WL.assign rfl rfl (WL.nil (WX.then_normal (WC.block (?_)))))
          refine WC.loop (σ := Nat) (fun e => [(1, vi (k : Int)), (5, ptr R), (11, vi (f : Int)), (12, vi (e : Int))]) (fun e w' => e ≤ 4 ∧ Chg Nob w w' ∧ RK (w.heap.size ≤ ·) w' R s) (fun e => 4 - e) 0 ⟨rfl, rfl, rfl, rfl, trivial⟩ ⟨by omega, hw, hR⟩ ?_
          clear hw hR
          rintro e w1 ⟨he, hw, hR⟩
          refine WC.seq (WC.seq (WC.region (WL.move rfl rfl (?_))))
          refine WL.lss? rfl rfl rfl (fun h127 => ?_) (fun h127 => ?_)
          ·
            refine WL.nil (WX.then_normal (WC.cond_true rfl (WC.skip (WX.then_normal (WC.seq (WC.block (WC.seq (?_))))))))
            refine WC.region (WL.move rfl rfl (WL.move rfl rfl (WL.move rfl rfl (?_))))
            refine WL.call eg_16 rfl rfl (Read_calls hR (f : Int) (e : Int)) ?_
            rintro v w2 ⟨⟨r, er, rfl, her, hx, -, hq⟩, k2⟩
            have zs_k2 := k2.size
            replace hw := hw.pure k2
            replace hR := hR.pure k2
            replace hq := hq.rsl.old
            refine WL.move rfl rfl (WL.extract rfl rfl rfl (?_))
            refine WL.extract rfl rfl rfl ?_
            refine WL.assign rfl rfl (WL.assign rfl rfl (WL.nil (WX.then_normal (WC.seq (?_)))))
            refine WC.drawM (Nob) [0, 1, 2, 3, 4, 5, 6, 7, 8, 9, 10, 11, 12] [13, 14, 15, 16, 17, 18, 19, 20, 21, 22] mixed rfl rfl (fun wd_1 kd_1 zd_1 => ?_)
            have zs_kd_1 := kd_1.size
            replace hw := hw.pure kd_1
            replace hR := hR.pure kd_1
            replace hq := hq.pure kd_1
            apply DQT.step (E' := [(11, _)])
            case ho => rfl
            case hs => exact ⟨rfl, trivial⟩
            case hk => rfl
            case h1 =>
              intro wq_3 kq_3
              refine WL.move rfl rfl (?_)
              refine WL.nil ?_
              exact WX.one ⟨rfl, by first | exact Chg.refl _ _ | assumption⟩
            apply DQT.step (E' := [(1, _)])
            case ho => rfl
            case hs => exact ⟨rfl, trivial⟩
            case hk => rfl
            case h1 =>
              intro wq_4 kq_4
              refine WL.move rfl rfl (?_)
              refine WL.nil ?_
              exact WX.one ⟨rfl, by first | exact Chg.refl _ _ | assumption⟩
            apply DQT.split (E' := [(137, _), (138, _)])
            case ho => rfl
            case hs => exact ⟨rfl, rfl, trivial⟩
            case hk => rfl
            case h1 =>
              intro wq_5 kq_5
              refine WL.neq rfl rfl rfl ?_
              refine WL.nil ?_
              exact WX.one ⟨rfl, by first | exact Chg.refl _ _ | assumption⟩
            case ht =>
              intro h139
              replace h139 := of_decide_eq_true h139
              apply DQT.step (E' := [(139, _)])
              case ho => rfl
              case hs => exact ⟨rfl, trivial⟩
              case hk => rfl
              case h1 =>
                intro wq_6 kq_6
                refine WL.move rfl rfl (?_)
                refine WL.nil ?_
                exact WX.one ⟨rfl, by first | exact Chg.refl _ _ | assumption⟩
              apply DQT.step (E' := [(14, _), (140, _)])
              case ho => rfl
              case hs => exact ⟨rfl, rfl, trivial⟩
              case hk => rfl
              case h1 =>
                intro wq_7 kq_7
                refine WL.want rfl rfl rfl (WL.move rfl rfl (?_))
                refine WL.nil ?_
                exact WX.one ⟨rfl, by first | exact Chg.refl _ _ | assumption⟩
              apply DQT.step (E' := [(141, _), (140, _)])
              case ho => rfl
              case hs => exact ⟨rfl, rfl, trivial⟩
              case hk => rfl
              case h1 =>
                intro wq_8 kq_8
                refine WL.want rfl rfl rfl (?_)
                have her0 : er = 0 := her.trans (errS_up hA.up (by unfold inS; rw [hA.dn, hA.sn]; omega) (hA.gone f (by omega)))
                refine WL.neqF rfl rfl rfl (her0) ?_
                refine WL.nil ?_
                exact WX.one ⟨rfl, by first | exact Chg.refl _ _ | assumption⟩
              apply DQT.step (E' := [(142, _), (140, _)])
              case ho => rfl
              case hs => exact ⟨rfl, rfl, trivial⟩
              case hk => rfl
              case h1 =>
                intro wq_9 kq_9
                refine WL.want rfl rfl rfl (WL.move rfl rfl (?_))
                refine WL.nil ?_
                exact WX.one ⟨rfl, by first | exact Chg.refl _ _ | assumption⟩
              apply DQT.step (E' := [(13, _), (143, _)])
              case ho => rfl
              case hs => exact ⟨rfl, rfl, trivial⟩
              case hk => rfl
              case h1 =>
                intro wq_10 kq_10
                refine WL.want rfl rfl rfl (WL.move rfl rfl (?_))
                refine WL.nil ?_
                exact WX.one ⟨rfl, by first | exact Chg.refl _ _ | assumption⟩
              apply DQT.step (E' := [(144, _), (143, _)])
              case ho => rfl
              case hs => exact ⟨rfl, rfl, trivial⟩
              case hk => rfl
              case h1 =>
                intro wq_11 kq_11
                have zs_kq_11 := kq_11.size
                replace hw := hw.pure kq_11
                replace hR := hR.pure kq_11
                replace hq := hq.pure kq_11
                refine WL.want rfl rfl rfl (WL.toStr Try.underlying30 Try.underlying5 Try.underlying9 hq rfl rfl (?_))
                refine WL.nil ?_
                exact WX.one ⟨rfl, by first | exact Chg.refl _ _ | assumption⟩
              apply DQT.step (E' := [(11, _), (143, _)])
              case ho => rfl
              case hs => exact ⟨rfl, rfl, trivial⟩
              case hk => rfl
              case h1 =>
                intro wq_12 kq_12
                refine WL.want rfl rfl rfl (WL.move rfl rfl (?_))
                refine WL.nil ?_
                exact WX.one ⟨rfl, by first | exact Chg.refl _ _ | assumption⟩
              apply DQT.step (E' := [(146, _), (143, _)])
              case ho => rfl
              case hs => exact ⟨rfl, rfl, trivial⟩
              case hk => rfl
              case h1 =>
                intro wq_13 kq_13
                refine WL.want rfl rfl rfl (WL.mul64 rfl rfl (by first | omega | (constructor <;> omega)) rfl (?_))
                refine WL.nil ?_
                exact WX.one ⟨rfl, by first | exact Chg.refl _ _ | assumption⟩
              apply DQT.step (E' := [(12, _), (143, _)])
              case ho => rfl
              case hs => exact ⟨rfl, rfl, trivial⟩
              case hk => rfl
              case h1 =>
                intro wq_14 kq_14
                refine WL.want rfl rfl rfl (WL.move rfl rfl (?_))
                refine WL.nil ?_
                exact WX.one ⟨rfl, by first | exact Chg.refl _ _ | assumption⟩
              apply DQT.step (E' := [(147, _), (148, _), (143, _)])
              case ho => rfl
              case hs => exact ⟨rfl, rfl, rfl, trivial⟩
              case hk => rfl
              case h1 =>
                intro wq_15 kq_15
                refine WL.want rfl rfl rfl (WL.add64 rfl rfl (by first | omega | (constructor <;> omega)) rfl (?_))
                refine WL.nil ?_
                exact WX.one ⟨rfl, by first | exact Chg.refl _ _ | assumption⟩
              refine DQT.done (fun hd_2 => ?_)
              refine ⟨?_, trivial, trivial, trivial, trivial, trivial, trivial, trivial, trivial, trivial, trivial⟩
              refine DT.step [(149, _), (143, _)] rfl ⟨rfl, rfl, trivial⟩ rfl (fun wq_16 kq_16 => ?_)
              have zs_kq_16 := kq_16.size
              replace hw := hw.pure kq_16
              replace hR := hR.pure kq_16
              replace hq := hq.pure kq_16
              replace hd_2 := hd_2.pure kq_16
              refine WL.want rfl rfl rfl (?_)
              refine WL.call eg_14 rfl rfl (hBc ((f : Int) * 10 + e) _) ?_
              rintro v w3 ⟨⟨g3, rfl, hq3, hg31, hg32⟩, k3⟩
              have zs_k3 := k3.size
              replace hw := hw.pure k3
              replace hR := hR.pure k3
              replace hq := hq.pure k3
              replace hd_2 := hd_2.pure k3
              refine WL.nil ?_
              refine WX.one ⟨hd_2, ?_⟩
              refine ⟨?_, trivial, trivial, trivial, trivial, trivial, trivial, trivial, trivial, trivial⟩
              refine DT.step [(150, _), (143, _)] rfl ⟨rfl, rfl, trivial⟩ rfl (fun wq_17 kq_17 => ?_)
              have zs_kq_17 := kq_17.size
              replace hw := hw.pure kq_17
              replace hR := hR.pure kq_17
              replace hq := hq.pure kq_17
              replace hd_2 := hd_2.pure kq_17
              replace hq3 := hq3.pure kq_17
              refine WL.want rfl rfl rfl (WL.toStr Try.underlying30 Try.underlying5 Try.underlying9 hq3.rsl rfl rfl (?_))
              refine WL.nil ?_
              refine WX.one ⟨hd_2, ?_⟩
              refine ⟨?_, trivial, trivial, trivial, trivial, trivial, trivial, trivial, trivial⟩
              refine DT.step [(145, _), (151, _), (143, _)] rfl ⟨rfl, rfl, rfl, trivial⟩ rfl (fun wq_18 kq_18 => ?_)
              have zs_kq_18 := kq_18.size
              replace hw := hw.pure kq_18
              replace hR := hR.pure kq_18
              replace hq := hq.pure kq_18
              replace hd_2 := hd_2.pure kq_18
              replace hq3 := hq3.pure kq_18
              refine WL.want rfl rfl rfl (?_)
              refine WL.sneqF rfl rfl rfl ((by rw [hx (her.trans (errS_up hA.up (by unfold inS; rw [hA.dn, hA.sn]; omega) (hA.gone f (by omega)))), hA.held (by omega) (by omega) (by omega)])) ?_
              refine WL.nil ?_
              refine WX.one ⟨hd_2, ?_⟩
              refine ⟨?_, trivial, trivial, trivial, trivial, trivial, trivial, trivial⟩
              refine DT.step [(143, _), (152, _), (140, _)] rfl ⟨rfl, rfl, rfl, trivial⟩ rfl (fun wq_19 kq_19 => ?_)
              have zs_kq_19 := kq_19.size
              replace hw := hw.pure kq_19
              replace hR := hR.pure kq_19
              replace hq := hq.pure kq_19
              replace hd_2 := hd_2.pure kq_19
              replace hq3 := hq3.pure kq_19
              refine WL.want rfl rfl rfl (WL.pickF rfl rfl rfl (?_))
              refine WL.nil ?_
              refine WX.one ⟨hd_2, ?_⟩
              refine ⟨?_, trivial, trivial, trivial, trivial, trivial, trivial⟩
              refine DT.step [(153, _), (140, _)] rfl ⟨rfl, rfl, trivial⟩ rfl (fun wq_20 kq_20 => ?_)
              have zs_kq_20 := kq_20.size
              replace hw := hw.pure kq_20
              replace hR := hR.pure kq_20
              replace hq := hq.pure kq_20
              replace hd_2 := hd_2.pure kq_20
              replace hq3 := hq3.pure kq_20
              refine WL.want rfl rfl rfl (WL.move rfl rfl (?_))
              refine WL.nil ?_
              refine WX.one ⟨hd_2, ?_⟩
              refine ⟨?_, ?_, trivial, trivial, trivial, trivial⟩
              refine DT.step [(5, _), (154, _)] rfl ⟨rfl, rfl, trivial⟩ rfl (fun wq_21 kq_21 => ?_)
              have zs_kq_21 := kq_21.size
              replace hw := hw.pure kq_21
              replace hR := hR.pure kq_21
              replace hq := hq.pure kq_21
              replace hd_2 := hd_2.pure kq_21
              replace hq3 := hq3.pure kq_21
              refine WL.want rfl rfl rfl (WL.move rfl rfl (?_))
              refine WL.nil ?_
              refine WX.one ⟨hd_2, ?_⟩
              refine ⟨?_, trivial, trivial, trivial, trivial⟩
              refine DT.step [(11, _), (154, _)] rfl ⟨rfl, rfl, trivial⟩ rfl (fun wq_22 kq_22 => ?_)
              have zs_kq_22 := kq_22.size
              replace hw := hw.pure kq_22
              replace hR := hR.pure kq_22
              replace hq := hq.pure kq_22
              replace hd_2 := hd_2.pure kq_22
              replace hq3 := hq3.pure kq_22
              refine WL.want rfl rfl rfl (WL.move rfl rfl (?_))
              refine WL.nil ?_
              refine WX.one ⟨hd_2, ?_⟩
              refine ⟨?_, trivial, trivial, trivial⟩
              refine DT.step [(155, _), (156, _), (154, _)] rfl ⟨rfl, rfl, rfl, trivial⟩ rfl (fun wq_23 kq_23 => ?_)
              have zs_kq_23 := kq_23.size
              replace hw := hw.pure kq_23
              replace hR := hR.pure kq_23
              replace hq := hq.pure kq_23
              replace hd_2 := hd_2.pure kq_23
              replace hq3 := hq3.pure kq_23
              refine WL.want rfl rfl rfl (?_)
              refine WL.call eg_22 rfl rfl (Gone_calls hR (f : Int)) ?_
              rintro v w4 ⟨rfl, k4⟩
              rw [hA.gone f (by omega), Bool.and_false]
              have zs_k4 := k4.size
              replace hw := hw.pure k4
              replace hR := hR.pure k4
              replace hq := hq.pure k4
              replace hd_2 := hd_2.pure k4
              replace hq3 := hq3.pure k4
              refine WL.nil ?_
              refine WX.one ⟨hd_2, ?_⟩
              refine ⟨?_, trivial, trivial⟩
              refine DT.step [(154, _), (157, _), (140, _)] rfl ⟨rfl, rfl, rfl, trivial⟩ rfl (fun wq_24 kq_24 => ?_)
              have zs_kq_24 := kq_24.size
              replace hw := hw.pure kq_24
              replace hR := hR.pure kq_24
              replace hq := hq.pure kq_24
              replace hd_2 := hd_2.pure kq_24
              replace hq3 := hq3.pure kq_24
              refine WL.want rfl rfl rfl (WL.pickF rfl rfl rfl (?_))
              refine WL.nil ?_
              refine WX.one ⟨hd_2, ?_⟩
              refine ⟨?_, trivial⟩
              refine DT.step [(140, _), (158, _)] rfl ⟨rfl, rfl, trivial⟩ rfl (fun wq_25 kq_25 => ?_)
              have zs_kq_25 := kq_25.size
              replace hw := hw.pure kq_25
              replace hR := hR.pure kq_25
              replace hq := hq.pure kq_25
              replace hd_2 := hd_2.pure kq_25
              replace hq3 := hq3.pure kq_25
              refine WL.pickT rfl rfl rfl (?_)
              refine WL.nil ?_
              refine WX.one ⟨hd_2, ?_⟩
              refine DT.done (fun we_26 ke_26 => ?_) _
              have zs_ke_26 := ke_26.size
              replace hw := hw.pure ke_26
              replace hR := hR.pure ke_26
              replace hq := hq.pure ke_26
              replace hd_2 := hd_2.pure ke_26
              replace hq3 := hq3.pure ke_26
              rotate_left
              refine DT.step [(11, _), (154, _)] rfl ⟨rfl, rfl, trivial⟩ rfl (fun wq_21 kq_21 => ?_)
              have zs_kq_21 := kq_21.size
              replace hw := hw.pure kq_21
              replace hR := hR.pure kq_21
              replace hq := hq.pure kq_21
              replace hd_2 := hd_2.pure kq_21
              replace hq3 := hq3.pure kq_21
              refine WL.want rfl rfl rfl (WL.move rfl rfl (?_))
              refine WL.nil ?_
              refine WX.one ⟨hd_2, ?_⟩
              refine ⟨?_, trivial, trivial, trivial, trivial⟩
              refine DT.step [(5, _), (154, _)] rfl ⟨rfl, rfl, trivial⟩ rfl (fun wq_22 kq_22 => ?_)
              have zs_kq_22 := kq_22.size
              replace hw := hw.pure kq_22
              replace hR := hR.pure kq_22
              replace hq := hq.pure kq_22
              replace hd_2 := hd_2.pure kq_22
              replace hq3 := hq3.pure kq_22
              refine WL.want rfl rfl rfl (WL.move rfl rfl (?_))
              refine WL.nil ?_
              refine WX.one ⟨hd_2, ?_⟩
              refine ⟨?_, trivial, trivial, trivial⟩
              refine DT.step [(155, _), (156, _), (154, _)] rfl ⟨rfl, rfl, rfl, trivial⟩ rfl (fun wq_23 kq_23 => ?_)
              have zs_kq_23 := kq_23.size
              replace hw := hw.pure kq_23
              replace hR := hR.pure kq_23
              replace hq := hq.pure kq_23
              replace hd_2 := hd_2.pure kq_23
              replace hq3 := hq3.pure kq_23
              refine WL.want rfl rfl rfl (?_)
              refine WL.call eg_22 rfl rfl (Gone_calls hR (f : Int)) ?_
              rintro v w4 ⟨rfl, k4⟩
              rw [hA.gone f (by omega), Bool.and_false]
              have zs_k4 := k4.size
              replace hw := hw.pure k4
              replace hR := hR.pure k4
              replace hq := hq.pure k4
              replace hd_2 := hd_2.pure k4
              replace hq3 := hq3.pure k4
              refine WL.nil ?_
              refine WX.one ⟨hd_2, ?_⟩
              refine ⟨?_, trivial, trivial⟩
              refine DT.step [(154, _), (157, _), (140, _)] rfl ⟨rfl, rfl, rfl, trivial⟩ rfl (fun wq_24 kq_24 => ?_)
              have zs_kq_24 := kq_24.size
              replace hw := hw.pure kq_24
              replace hR := hR.pure kq_24
              replace hq := hq.pure kq_24
              replace hd_2 := hd_2.pure kq_24
              replace hq3 := hq3.pure kq_24
              refine WL.want rfl rfl rfl (WL.pickF rfl rfl rfl (?_))
              refine WL.nil ?_
              refine WX.one ⟨hd_2, ?_⟩
              refine ⟨?_, trivial⟩
              refine DT.step [(140, _), (158, _)] rfl ⟨rfl, rfl, trivial⟩ rfl (fun wq_25 kq_25 => ?_)
              have zs_kq_25 := kq_25.size
              replace hw := hw.pure kq_25
              replace hR := hR.pure kq_25
              replace hq := hq.pure kq_25
              replace hd_2 := hd_2.pure kq_25
              replace hq3 := hq3.pure kq_25
              refine WL.pickT rfl rfl rfl (?_)
              refine WL.nil ?_
              refine WX.one ⟨hd_2, ?_⟩
              refine DT.done (fun we_26 ke_26 => ?_) _
              have zs_ke_26 := ke_26.size
              replace hw := hw.pure ke_26
              replace hR := hR.pure ke_26
              replace hq := hq.pure ke_26
              replace hd_2 := hd_2.pure ke_26
              replace hq3 := hq3.pure ke_26
              rotate_left
              all_goals
                refine WX.then_normal (WC.cond_false rfl (WC.skip (WX.block_normal (WX.then_normal (WC.region (WL.move rfl rfl (WL.add64 rfl rfl (by first | omega | (constructor <;> omega)) rfl (?_))))))))
                refine WL.assign rfl rfl (WL.nil (?_))
                first
                  | exact WX.loop_next (i + 1) ⟨rfl, rfl, rfl, rfl, trivial⟩ ⟨by omega, hO, hw, _, hA2, hR2⟩ (by omega)
                  | exact WX.loop_next (i + 1) ⟨rfl, rfl, rfl, rfl, trivial⟩ ⟨by omega, hO, hw, _, hA.more, hR⟩ (by omega)
                  | exact WX.loop_next (d + 1) ⟨rfl, rfl, rfl, rfl, trivial⟩ ⟨by omega, hO, hw, s, sd, sn, us, sg, by omega, fun d2 a2 h h2 => sh d2 a2 (by omega) h2, hR⟩ (by omega)
                  | (refine WX.loop_next (a + 1) ⟨rfl, rfl, rfl, rfl, rfl, trivial⟩ ⟨by omega, hO, hw, addS s ((d : Int), (a : Int)) (B ((d : Int) * 10 + a)), sd, sn, addS_up us _ _, sg, ?_, fun d2 a2 h h2 => ?_, hR3⟩ (by omega)
                     ·
                       show (s.waits ++ [_]).length ≤ _
                       rw [List.length_append]
                       show s.waits.length + 1 ≤ _
                       omega
                     ·
                       rw [addS_held]
                       split
                       ·
                         rename_i e
                         injection e with e1 e2
                         rw [e1, e2]
                       ·
                         rename_i e
                         refine sh d2 a2 ?_ h2
                         rcases h with h | ⟨h, h3⟩
                         ·
                           exact .inl h
                         ·
                           right
                           refine ⟨h, ?_⟩
                           rcases Nat.lt_or_ge a2 a with h4 | h4
                           ·
                             exact h4
                           ·
                             exfalso
                             have h5 : a2 = a := by omega
                             exact e (by rw [h, h5]))
                  | exact WX.loop_next (e + 1) ⟨rfl, rfl, rfl, rfl, trivial⟩ ⟨by omega, hw, hR⟩ (by omega)
                  | exact WX.loop_next (f + 1) ⟨rfl, rfl, rfl, trivial⟩ ⟨by omega, hw, hR⟩ (by omega)
            case hf =>
              intro h139
              replace h139 := of_decide_eq_false h139
              apply DQT.step (E' := [(139, _)])
              case ho => rfl
              case hs => exact ⟨rfl, trivial⟩
              case hk => rfl
              case h1 =>
                intro wq_6 kq_6
                refine WL.move rfl rfl (?_)
                refine WL.nil ?_
                exact WX.one ⟨rfl, by first | exact Chg.refl _ _ | assumption⟩
              apply DQT.step (E' := [(14, _), (140, _)])
              case ho => rfl
              case hs => exact ⟨rfl, rfl, trivial⟩
              case hk => rfl
              case h1 =>
                intro wq_7 kq_7
                refine WL.pass rfl rfl rfl rfl (WL.nil (?_))
                exact WX.one ⟨rfl, by first | exact Chg.refl _ _ | assumption⟩
              apply DQT.step (E' := [(141, _), (140, _)])
              case ho => rfl
              case hs => exact ⟨rfl, rfl, trivial⟩
              case hk => rfl
              case h1 =>
                intro wq_8 kq_8
                refine WL.pass rfl rfl rfl rfl (WL.nil (?_))
                exact WX.one ⟨rfl, by first | exact Chg.refl _ _ | assumption⟩
              apply DQT.step (E' := [(142, _), (140, _)])
              case ho => rfl
              case hs => exact ⟨rfl, rfl, trivial⟩
              case hk => rfl
              case h1 =>
                intro wq_9 kq_9
                refine WL.pass rfl rfl rfl rfl (WL.nil (?_))
                exact WX.one ⟨rfl, by first | exact Chg.refl _ _ | assumption⟩
              apply DQT.step (E' := [(13, _), (143, _)])
              case ho => rfl
              case hs => exact ⟨rfl, rfl, trivial⟩
              case hk => rfl
              case h1 =>
                intro wq_10 kq_10
                refine WL.passU rfl rfl rfl (WL.nil (?_))
                exact WX.one ⟨rfl, by first | exact Chg.refl _ _ | assumption⟩
              apply DQT.step (E' := [(144, _), (143, _)])
              case ho => rfl
              case hs => exact ⟨rfl, rfl, trivial⟩
              case hk => rfl
              case h1 =>
                intro wq_11 kq_11
                have zs_kq_11 := kq_11.size
                replace hw := hw.pure kq_11
                replace hR := hR.pure kq_11
                replace hq := hq.pure kq_11
                refine WL.passU rfl rfl rfl (WL.nil (?_))
                exact WX.one ⟨rfl, by first | exact Chg.refl _ _ | assumption⟩
              apply DQT.step (E' := [(11, _), (143, _)])
              case ho => rfl
              case hs => exact ⟨rfl, rfl, trivial⟩
              case hk => rfl
              case h1 =>
                intro wq_12 kq_12
                refine WL.passU rfl rfl rfl (WL.nil (?_))
                exact WX.one ⟨rfl, by first | exact Chg.refl _ _ | assumption⟩
              apply DQT.step (E' := [(146, _), (143, _)])
              case ho => rfl
              case hs => exact ⟨rfl, rfl, trivial⟩
              case hk => rfl
              case h1 =>
                intro wq_13 kq_13
                refine WL.passU rfl rfl rfl (WL.nil (?_))
                exact WX.one ⟨rfl, by first | exact Chg.refl _ _ | assumption⟩
              apply DQT.step (E' := [(12, _), (143, _)])
              case ho => rfl
              case hs => exact ⟨rfl, rfl, trivial⟩
              case hk => rfl
              case h1 =>
                intro wq_14 kq_14
                refine WL.passU rfl rfl rfl (WL.nil (?_))
                exact WX.one ⟨rfl, by first | exact Chg.refl _ _ | assumption⟩
              apply DQT.step (E' := [(147, _), (148, _), (143, _)])
              case ho => rfl
              case hs => exact ⟨rfl, rfl, rfl, trivial⟩
              case hk => rfl
              case h1 =>
                intro wq_15 kq_15
                refine WL.passU rfl rfl rfl (WL.nil (?_))
                exact WX.one ⟨rfl, by first | exact Chg.refl _ _ | assumption⟩
              refine DQT.done (fun hd_2 => ?_)
              refine ⟨?_, trivial, trivial, trivial, trivial, trivial, trivial, trivial, trivial, trivial, trivial⟩
              refine DT.step [(149, _), (143, _)] rfl ⟨rfl, rfl, trivial⟩ rfl (fun wq_16 kq_16 => ?_)
              have zs_kq_16 := kq_16.size
              replace hw := hw.pure kq_16
              replace hR := hR.pure kq_16
              replace hq := hq.pure kq_16
              replace hd_2 := hd_2.pure kq_16
              refine WL.passU rfl rfl rfl (WL.nil (?_))
              refine WX.one ⟨hd_2, ?_⟩
              refine ⟨?_, trivial, trivial, trivial, trivial, trivial, trivial, trivial, trivial, trivial⟩
              refine DT.step [(150, _), (143, _)] rfl ⟨rfl, rfl, trivial⟩ rfl (fun wq_17 kq_17 => ?_)
              have zs_kq_17 := kq_17.size
              replace hw := hw.pure kq_17
              replace hR := hR.pure kq_17
              replace hq := hq.pure kq_17
              replace hd_2 := hd_2.pure kq_17
              refine WL.passU rfl rfl rfl (WL.nil (?_))
              refine WX.one ⟨hd_2, ?_⟩
              refine ⟨?_, trivial, trivial, trivial, trivial, trivial, trivial, trivial, trivial⟩
              refine DT.step [(145, _), (151, _), (143, _)] rfl ⟨rfl, rfl, rfl, trivial⟩ rfl (fun wq_18 kq_18 => ?_)
              have zs_kq_18 := kq_18.size
              replace hw := hw.pure kq_18
              replace hR := hR.pure kq_18
              replace hq := hq.pure kq_18
              replace hd_2 := hd_2.pure kq_18
              refine WL.passU rfl rfl rfl (WL.nil (?_))
              refine WX.one ⟨hd_2, ?_⟩
              refine ⟨?_, trivial, trivial, trivial, trivial, trivial, trivial, trivial⟩
              refine DT.step [(143, _), (152, _), (140, _)] rfl ⟨rfl, rfl, rfl, trivial⟩ rfl (fun wq_19 kq_19 => ?_)
              have zs_kq_19 := kq_19.size
              replace hw := hw.pure kq_19
              replace hR := hR.pure kq_19
              replace hq := hq.pure kq_19
              replace hd_2 := hd_2.pure kq_19
              refine WL.pass rfl rfl rfl rfl (WL.nil (?_))
              refine WX.one ⟨hd_2, ?_⟩
              refine ⟨?_, trivial, trivial, trivial, trivial, trivial, trivial⟩
              refine DT.step [(153, _), (140, _)] rfl ⟨rfl, rfl, trivial⟩ rfl (fun wq_20 kq_20 => ?_)
              have zs_kq_20 := kq_20.size
              replace hw := hw.pure kq_20
              replace hR := hR.pure kq_20
              replace hq := hq.pure kq_20
              replace hd_2 := hd_2.pure kq_20
              refine WL.pass rfl rfl rfl rfl (WL.nil (?_))
              refine WX.one ⟨hd_2, ?_⟩
              refine ⟨?_, ?_, trivial, trivial, trivial, trivial⟩
              refine DT.step [(5, _), (154, _)] rfl ⟨rfl, rfl, trivial⟩ rfl (fun wq_21 kq_21 => ?_)
              have zs_kq_21 := kq_21.size
              replace hw := hw.pure kq_21
              replace hR := hR.pure kq_21
              replace hq := hq.pure kq_21
              replace hd_2 := hd_2.pure kq_21
              refine WL.passU rfl rfl rfl (WL.nil (?_))
              refine WX.one ⟨hd_2, ?_⟩
              refine ⟨?_, trivial, trivial, trivial, trivial⟩
              refine DT.step [(11, _), (154, _)] rfl ⟨rfl, rfl, trivial⟩ rfl (fun wq_22 kq_22 => ?_)
              have zs_kq_22 := kq_22.size
              replace hw := hw.pure kq_22
              replace hR := hR.pure kq_22
              replace hq := hq.pure kq_22
              replace hd_2 := hd_2.pure kq_22
              refine WL.passU rfl rfl rfl (WL.nil (?_))
              refine WX.one ⟨hd_2, ?_⟩
              refine ⟨?_, trivial, trivial, trivial⟩
              refine DT.step [(155, _), (156, _), (154, _)] rfl ⟨rfl, rfl, rfl, trivial⟩ rfl (fun wq_23 kq_23 => ?_)
              have zs_kq_23 := kq_23.size
              replace hw := hw.pure kq_23
              replace hR := hR.pure kq_23
              replace hq := hq.pure kq_23
              replace hd_2 := hd_2.pure kq_23
              refine WL.passU rfl rfl rfl (WL.nil (?_))
              refine WX.one ⟨hd_2, ?_⟩
              refine ⟨?_, trivial, trivial⟩
              refine DT.step [(154, _), (157, _), (140, _)] rfl ⟨rfl, rfl, rfl, trivial⟩ rfl (fun wq_24 kq_24 => ?_)
              have zs_kq_24 := kq_24.size
              replace hw := hw.pure kq_24
              replace hR := hR.pure kq_24
              replace hq := hq.pure kq_24
              replace hd_2 := hd_2.pure kq_24
              refine WL.pass rfl rfl rfl rfl (WL.nil (?_))
              refine WX.one ⟨hd_2, ?_⟩
              refine ⟨?_, trivial⟩
              refine DT.step [(140, _), (158, _)] rfl ⟨rfl, rfl, trivial⟩ rfl (fun wq_25 kq_25 => ?_)
              have zs_kq_25 := kq_25.size
              replace hw := hw.pure kq_25
              replace hR := hR.pure kq_25
              replace hq := hq.pure kq_25
              replace hd_2 := hd_2.pure kq_25
              refine WL.pickF rfl rfl rfl (?_)
              refine WL.nil ?_
              refine WX.one ⟨hd_2, ?_⟩
              refine DT.done (fun we_26 ke_26 => ?_) _
              have zs_ke_26 := ke_26.size
              replace hw := hw.pure ke_26
              replace hR := hR.pure ke_26
              replace hq := hq.pure ke_26
              replace hd_2 := hd_2.pure ke_26
              rotate_left
              refine DT.step [(11, _), (154, _)] rfl ⟨rfl, rfl, trivial⟩ rfl (fun wq_21 kq_21 => ?_)
              have zs_kq_21 := kq_21.size
              replace hw := hw.pure kq_21
              replace hR := hR.pure kq_21
              replace hq := hq.pure kq_21
              replace hd_2 := hd_2.pure kq_21
              refine WL.passU rfl rfl rfl (WL.nil (?_))
              refine WX.one ⟨hd_2, ?_⟩
              refine ⟨?_, trivial, trivial, trivial, trivial⟩
              refine DT.step [(5, _), (154, _)] rfl ⟨rfl, rfl, trivial⟩ rfl (fun wq_22 kq_22 => ?_)
              have zs_kq_22 := kq_22.size
              replace hw := hw.pure kq_22
              replace hR := hR.pure kq_22
              replace hq := hq.pure kq_22
              replace hd_2 := hd_2.pure kq_22
              refine WL.passU rfl rfl rfl (WL.nil (?_))
              refine WX.one ⟨hd_2, ?_⟩
              refine ⟨?_, trivial, trivial, trivial⟩
              refine DT.step [(155, _), (156, _), (154, _)] rfl ⟨rfl, rfl, rfl, trivial⟩ rfl (fun wq_23 kq_23 => ?_)
              have zs_kq_23 := kq_23.size
              replace hw := hw.pure kq_23
              replace hR := hR.pure kq_23
              replace hq := hq.pure kq_23
              replace hd_2 := hd_2.pure kq_23
              refine WL.passU rfl rfl rfl (WL.nil (?_))
              refine WX.one ⟨hd_2, ?_⟩
              refine ⟨?_, trivial, trivial⟩
              refine DT.step [(154, _), (157, _), (140, _)] rfl ⟨rfl, rfl, rfl, trivial⟩ rfl (fun wq_24 kq_24 => ?_)
              have zs_kq_24 := kq_24.size
              replace hw := hw.pure kq_24
              replace hR := hR.pure kq_24
              replace hq := hq.pure kq_24
              replace hd_2 := hd_2.pure kq_24
              refine WL.pass rfl rfl rfl rfl (WL.nil (?_))
              refine WX.one ⟨hd_2, ?_⟩
              refine ⟨?_, trivial⟩
              refine DT.step [(140, _), (158, _)] rfl ⟨rfl, rfl, trivial⟩ rfl (fun wq_25 kq_25 => ?_)
              have zs_kq_25 := kq_25.size
              replace hw := hw.pure kq_25
              replace hR := hR.pure kq_25
              replace hq := hq.pure kq_25
              replace hd_2 := hd_2.pure kq_25
              refine WL.pickF rfl rfl rfl (?_)
              refine WL.nil ?_
              refine WX.one ⟨hd_2, ?_⟩
              refine DT.done (fun we_26 ke_26 => ?_) _
              have zs_ke_26 := ke_26.size
              replace hw := hw.pure ke_26
              replace hR := hR.pure ke_26
              replace hq := hq.pure ke_26
              replace hd_2 := hd_2.pure ke_26
              rotate_left
              all_goals
                refine WX.then_normal (WC.cond_false rfl (WC.skip (WX.block_normal (WX.then_normal (WC.region (WL.move rfl rfl (WL.add64 rfl rfl (by first | omega | (constructor <;> omega)) rfl (?_))))))))
                refine WL.assign rfl rfl (WL.nil (?_))
                first
                  | exact WX.loop_next (i + 1) ⟨rfl, rfl, rfl, rfl, trivial⟩ ⟨by omega, hO, hw, _, hA2, hR2⟩ (by omega)
                  | exact WX.loop_next (i + 1) ⟨rfl, rfl, rfl, rfl, trivial⟩ ⟨by omega, hO, hw, _, hA.more, hR⟩ (by omega)
                  | exact WX.loop_next (d + 1) ⟨rfl, rfl, rfl, rfl, trivial⟩ ⟨by omega, hO, hw, s, sd, sn, us, sg, by omega, fun d2 a2 h h2 => sh d2 a2 (by omega) h2, hR⟩ (by omega)
                  | (refine WX.loop_next (a + 1) ⟨rfl, rfl, rfl, rfl, rfl, trivial⟩ ⟨by omega, hO, hw, addS s ((d : Int), (a : Int)) (B ((d : Int) * 10 + a)), sd, sn, addS_up us _ _, sg, ?_, fun d2 a2 h h2 => ?_, hR3⟩ (by omega)
                     ·
                       show (s.waits ++ [_]).length ≤ _
                       rw [List.length_append]
                       show s.waits.length + 1 ≤ _
                       omega
                     ·
                       rw [addS_held]
                       split
                       ·
                         rename_i e
                         injection e with e1 e2
                         rw [e1, e2]
                       ·
                         rename_i e
                         refine sh d2 a2 ?_ h2
                         rcases h with h | ⟨h, h3⟩
                         ·
                           exact .inl h
                         ·
                           right
                           refine ⟨h, ?_⟩
                           rcases Nat.lt_or_ge a2 a with h4 | h4
                           ·
                             exact h4
                           ·
                             exfalso
                             have h5 : a2 = a := by omega
                             exact e (by rw [h, h5]))
                  | exact WX.loop_next (e + 1) ⟨rfl, rfl, rfl, rfl, trivial⟩ ⟨by omega, hw, hR⟩ (by omega)
                  | exact WX.loop_next (f + 1) ⟨rfl, rfl, rfl, trivial⟩ ⟨by omega, hw, hR⟩ (by omega)
          ·
            refine WL.nil (WX.then_normal (WC.cond_false rfl (WC.exit (WX.then_exit (WX.then_exit (WX.block_here (WX.block_normal (?_))))))))
            refine WX.then_normal (WC.region (WL.move rfl rfl (WL.add64 rfl rfl (by first | omega | (constructor <;> omega)) rfl (WL.assign rfl rfl (WL.nil (?_))))))
            first
              | exact WX.loop_next (i + 1) ⟨rfl, rfl, rfl, rfl, trivial⟩ ⟨by omega, hO, hw, _, hA2, hR2⟩ (by omega)
              | exact WX.loop_next (i + 1) ⟨rfl, rfl, rfl, rfl, trivial⟩ ⟨by omega, hO, hw, _, hA.more, hR⟩ (by omega)
              | exact WX.loop_next (d + 1) ⟨rfl, rfl, rfl, rfl, trivial⟩ ⟨by omega, hO, hw, s, sd, sn, us, sg, by omega, fun d2 a2 h h2 => sh d2 a2 (by omega) h2, hR⟩ (by omega)
              | (refine WX.loop_next (a + 1) ⟨rfl, rfl, rfl, rfl, rfl, trivial⟩ ⟨by omega, hO, hw, addS s ((d : Int), (a : Int)) (B ((d : Int) * 10 + a)), sd, sn, addS_up us _ _, sg, ?_, fun d2 a2 h h2 => ?_, hR3⟩ (by omega)
                 ·
                   show (s.waits ++ [_]).length ≤ _
                   rw [List.length_append]
                   show s.waits.length + 1 ≤ _
                   omega
                 ·
                   rw [addS_held]
                   split
                   ·
                     rename_i e
                     injection e with e1 e2
                     rw [e1, e2]
                   ·
                     rename_i e
                     refine sh d2 a2 ?_ h2
                     rcases h with h | ⟨h, h3⟩
                     ·
                       exact .inl h
                     ·
                       right
                       refine ⟨h, ?_⟩
                       rcases Nat.lt_or_ge a2 a with h4 | h4
                       ·
                         exact h4
                       ·
                         exfalso
                         have h5 : a2 = a := by omega
                         exact e (by rw [h, h5]))
              | exact WX.loop_next (e + 1) ⟨rfl, rfl, rfl, rfl, trivial⟩ ⟨by omega, hw, hR⟩ (by omega)
              | exact WX.loop_next (f + 1) ⟨rfl, rfl, rfl, trivial⟩ ⟨by omega, hw, hR⟩ (by omega)
        ·
          refine WL.nil (WX.then_normal (WC.cond_false rfl (WC.exit (WX.then_exit (WX.then_exit (WX.block_here (WX.then_normal (?_))))))))
          refine WC.seq (WC.region (WL.assign rfl rfl (WL.nil (WX.then_normal (WC.ret (?_))))))
          refine WX.ret1 (.inl rfl) Try.results9 rfl ?_
          exact ⟨_, rfl, rfl, hw⟩
    ·
      refine WL.move rfl rfl (WL.pass rfl rfl rfl rfl (WL.pass rfl rfl rfl rfl (WL.pickF rfl rfl rfl (WL.nil (WX.then_normal (WC.cond_false rfl (WC.exit (?_))))))))
      refine WX.then_exit (WX.then_exit (WX.block_here (WX.then_normal (WC.seq (WC.seq (WC.region (WL.assign rfl rfl (?_))))))))
      refine WL.nil (WX.then_normal (WC.block (?_)))
      refine WC.loop (σ := Nat) (fun f => [(1, vi (k : Int)), (5, ptr R), (11, vi (f : Int))]) (fun f w' => f ≤ 4 ∧ Chg Nob w w' ∧ RK (w.heap.size ≤ ·) w' R s) (fun f => 4 - f) 0 ⟨rfl, rfl, rfl, trivial⟩ ⟨by omega, hw, hR⟩ ?_
      clear hw hR hO
      rintro f w1 ⟨hf, hw, hR⟩
      refine WC.seq (WC.seq (WC.region (WL.move rfl rfl (?_))))
      refine WL.lss? rfl rfl rfl (fun h123 => ?_) (fun h123 => ?_)
      ·
        refine WL.nil (WX.then_normal (WC.cond_true rfl (WC.skip (WX.then_normal (WC.seq (WC.block (WC.seq (?_))))))))
        refine WC.region (WL.assign rfl rfl (WL.nil (WX.then_normal (WC.block (?_)))))
        refine WC.loop (σ := Nat) (fun e => [(1, vi (k : Int)), (5, ptr R), (11, vi (f : Int)), (12, vi (e : Int))]) (fun e w' => e ≤ 4 ∧ Chg Nob w w' ∧ RK (w.heap.size ≤ ·) w' R s) (fun e => 4 - e) 0 ⟨rfl, rfl, rfl, rfl, trivial⟩ ⟨by omega, hw, hR⟩ ?_
        clear hw hR
        rintro e w1 ⟨he, hw, hR⟩
        refine WC.seq (WC.seq (WC.region (WL.move rfl rfl (?_))))
        refine WL.lss? rfl rfl rfl (fun h127 => ?_) (fun h127 => ?_)
        ·
          refine WL.nil (WX.then_normal (WC.cond_true rfl (WC.skip (WX.then_normal (WC.seq (WC.block (WC.seq (?_))))))))
          refine WC.region (WL.move rfl rfl (WL.move rfl rfl (WL.move rfl rfl (?_))))
          refine WL.call eg_16 rfl rfl (Read_calls hR (f : Int) (e : Int)) ?_
          rintro v w2 ⟨⟨r, er, rfl, her, hx, -, hq⟩, k2⟩
          have zs_k2 := k2.size
          replace hw := hw.pure k2
          replace hR := hR.pure k2
          replace hq := hq.rsl.old
          refine WL.move rfl rfl (WL.extract rfl rfl rfl (?_))
          refine WL.extract rfl rfl rfl ?_
          refine WL.assign rfl rfl (WL.assign rfl rfl (WL.nil (WX.then_normal (WC.seq (?_)))))
          refine WC.drawM (Nob) [0, 1, 2, 3, 4, 5, 6, 7, 8, 9, 10, 11, 12] [13, 14, 15, 16, 17, 18, 19, 20, 21, 22] mixed rfl rfl (fun wd_1 kd_1 zd_1 => ?_)
          have zs_kd_1 := kd_1.size
          replace hw := hw.pure kd_1
          replace hR := hR.pure kd_1
          replace hq := hq.pure kd_1
          apply DQT.step (E' := [(11, _)])
          case ho => rfl
          case hs => exact ⟨rfl, trivial⟩
          case hk => rfl
          case h1 =>
            intro wq_3 kq_3
            refine WL.move rfl rfl (?_)
            refine WL.nil ?_
            exact WX.one ⟨rfl, by first | exact Chg.refl _ _ | assumption⟩
          apply DQT.step (E' := [(1, _)])
          case ho => rfl
          case hs => exact ⟨rfl, trivial⟩
          case hk => rfl
          case h1 =>
            intro wq_4 kq_4
            refine WL.move rfl rfl (?_)
            refine WL.nil ?_
            exact WX.one ⟨rfl, by first | exact Chg.refl _ _ | assumption⟩
          apply DQT.split (E' := [(137, _), (138, _)])
          case ho => rfl
          case hs => exact ⟨rfl, rfl, trivial⟩
          case hk => rfl
          case h1 =>
            intro wq_5 kq_5
            refine WL.neq rfl rfl rfl ?_
            refine WL.nil ?_
            exact WX.one ⟨rfl, by first | exact Chg.refl _ _ | assumption⟩
          case ht =>
            intro h139
            replace h139 := of_decide_eq_true h139
            apply DQT.step (E' := [(139, _)])
            case ho => rfl
            case hs => exact ⟨rfl, trivial⟩
            case hk => rfl
            case h1 =>
              intro wq_6 kq_6
              refine WL.move rfl rfl (?_)
              refine WL.nil ?_
              exact WX.one ⟨rfl, by first | exact Chg.refl _ _ | assumption⟩
            apply DQT.step (E' := [(14, _), (140, _)])
            case ho => rfl
            case hs => exact ⟨rfl, rfl, trivial⟩
            case hk => rfl
            case h1 =>
              intro wq_7 kq_7
              refine WL.want rfl rfl rfl (WL.move rfl rfl (?_))
              refine WL.nil ?_
              exact WX.one ⟨rfl, by first | exact Chg.refl _ _ | assumption⟩
            apply DQT.step (E' := [(141, _), (140, _)])
            case ho => rfl
            case hs => exact ⟨rfl, rfl, trivial⟩
            case hk => rfl
            case h1 =>
              intro wq_8 kq_8
              refine WL.want rfl rfl rfl (?_)
              have her0 : er = 0 := her.trans (errS_up hA.up (by unfold inS; rw [hA.dn, hA.sn]; omega) (hA.gone f (by omega)))
              refine WL.neqF rfl rfl rfl (her0) ?_
              refine WL.nil ?_
              exact WX.one ⟨rfl, by first | exact Chg.refl _ _ | assumption⟩
            apply DQT.step (E' := [(142, _), (140, _)])
            case ho => rfl
            case hs => exact ⟨rfl, rfl, trivial⟩
            case hk => rfl
            case h1 =>
              intro wq_9 kq_9
              refine WL.want rfl rfl rfl (WL.move rfl rfl (?_))
              refine WL.nil ?_
              exact WX.one ⟨rfl, by first | exact Chg.refl _ _ | assumption⟩
            apply DQT.step (E' := [(13, _), (143, _)])
            case ho => rfl
            case hs => exact ⟨rfl, rfl, trivial⟩
            case hk => rfl
            case h1 =>
              intro wq_10 kq_10
              refine WL.want rfl rfl rfl (WL.move rfl rfl (?_))
              refine WL.nil ?_
              exact WX.one ⟨rfl, by first | exact Chg.refl _ _ | assumption⟩
            apply DQT.step (E' := [(144, _), (143, _)])
            case ho => rfl
            case hs => exact ⟨rfl, rfl, trivial⟩
            case hk => rfl
            case h1 =>
              intro wq_11 kq_11
              have zs_kq_11 := kq_11.size
              replace hw := hw.pure kq_11
              replace hR := hR.pure kq_11
              replace hq := hq.pure kq_11
              refine WL.want rfl rfl rfl (WL.toStr Try.underlying30 Try.underlying5 Try.underlying9 hq rfl rfl (?_))
              refine WL.nil ?_
              exact WX.one ⟨rfl, by first | exact Chg.refl _ _ | assumption⟩
            apply DQT.step (E' := [(11, _), (143, _)])
            case ho => rfl
            case hs => exact ⟨rfl, rfl, trivial⟩
            case hk => rfl
            case h1 =>
              intro wq_12 kq_12
              refine WL.want rfl rfl rfl (WL.move rfl rfl (?_))
              refine WL.nil ?_
              exact WX.one ⟨rfl, by first | exact Chg.refl _ _ | assumption⟩
            apply DQT.step (E' := [(146, _), (143, _)])
            case ho => rfl
            case hs => exact ⟨rfl, rfl, trivial⟩
            case hk => rfl
            case h1 =>
              intro wq_13 kq_13
              refine WL.want rfl rfl rfl (WL.mul64 rfl rfl (by first | omega | (constructor <;> omega)) rfl (?_))
              refine WL.nil ?_
              exact WX.one ⟨rfl, by first | exact Chg.refl _ _ | assumption⟩
            apply DQT.step (E' := [(12, _), (143, _)])
            case ho => rfl
            case hs => exact ⟨rfl, rfl, trivial⟩
            case hk => rfl
            case h1 =>
              intro wq_14 kq_14
              refine WL.want rfl rfl rfl (WL.move rfl rfl (?_))
              refine WL.nil ?_
              exact WX.one ⟨rfl, by first | exact Chg.refl _ _ | assumption⟩
            apply DQT.step (E' := [(147, _), (148, _), (143, _)])
            case ho => rfl
            case hs => exact ⟨rfl, rfl, rfl, trivial⟩
            case hk => rfl
            case h1 =>
              intro wq_15 kq_15
              refine WL.want rfl rfl rfl (WL.add64 rfl rfl (by first | omega | (constructor <;> omega)) rfl (?_))
              refine WL.nil ?_
              exact WX.one ⟨rfl, by first | exact Chg.refl _ _ | assumption⟩
            refine DQT.done (fun hd_2 => ?_)
            refine ⟨?_, trivial, trivial, trivial, trivial, trivial, trivial, trivial, trivial, trivial, trivial⟩
            refine DT.step [(149, _), (143, _)] rfl ⟨rfl, rfl, trivial⟩ rfl (fun wq_16 kq_16 => ?_)
            have zs_kq_16 := kq_16.size
            replace hw := hw.pure kq_16
            replace hR := hR.pure kq_16
            replace hq := hq.pure kq_16
            replace hd_2 := hd_2.pure kq_16
            refine WL.want rfl rfl rfl (?_)
            refine WL.call eg_14 rfl rfl (hBc ((f : Int) * 10 + e) _) ?_
            rintro v w3 ⟨⟨g3, rfl, hq3, hg31, hg32⟩, k3⟩
            have zs_k3 := k3.size
            replace hw := hw.pure k3
            replace hR := hR.pure k3
            replace hq := hq.pure k3
            replace hd_2 := hd_2.pure k3
            refine WL.nil ?_
            refine WX.one ⟨hd_2, ?_⟩
            refine ⟨?_, trivial, trivial, trivial, trivial, trivial, trivial, trivial, trivial, trivial⟩
            refine DT.step [(150, _), (143, _)] rfl ⟨rfl, rfl, trivial⟩ rfl (fun wq_17 kq_17 => ?_)
            have zs_kq_17 := kq_17.size
            replace hw := hw.pure kq_17
            replace hR := hR.pure kq_17
            replace hq := hq.pure kq_17
            replace hd_2 := hd_2.pure kq_17
            replace hq3 := hq3.pure kq_17
            refine WL.want rfl rfl rfl (WL.toStr Try.underlying30 Try.underlying5 Try.underlying9 hq3.rsl rfl rfl (?_))
            refine WL.nil ?_
            refine WX.one ⟨hd_2, ?_⟩
            refine ⟨?_, trivial, trivial, trivial, trivial, trivial, trivial, trivial, trivial⟩
            refine DT.step [(145, _), (151, _), (143, _)] rfl ⟨rfl, rfl, rfl, trivial⟩ rfl (fun wq_18 kq_18 => ?_)
            have zs_kq_18 := kq_18.size
            replace hw := hw.pure kq_18
            replace hR := hR.pure kq_18
            replace hq := hq.pure kq_18
            replace hd_2 := hd_2.pure kq_18
            replace hq3 := hq3.pure kq_18
            refine WL.want rfl rfl rfl (?_)
            refine WL.sneqF rfl rfl rfl ((by rw [hx (her.trans (errS_up hA.up (by unfold inS; rw [hA.dn, hA.sn]; omega) (hA.gone f (by omega)))), hA.held (by omega) (by omega) (by omega)])) ?_
            refine WL.nil ?_
            refine WX.one ⟨hd_2, ?_⟩
            refine ⟨?_, trivial, trivial, trivial, trivial, trivial, trivial, trivial⟩
            refine DT.step [(143, _), (152, _), (140, _)] rfl ⟨rfl, rfl, rfl, trivial⟩ rfl (fun wq_19 kq_19 => ?_)
            have zs_kq_19 := kq_19.size
            replace hw := hw.pure kq_19
            replace hR := hR.pure kq_19
            replace hq := hq.pure kq_19
            replace hd_2 := hd_2.pure kq_19
            replace hq3 := hq3.pure kq_19
            refine WL.want rfl rfl rfl (WL.pickF rfl rfl rfl (?_))
            refine WL.nil ?_
            refine WX.one ⟨hd_2, ?_⟩
            refine ⟨?_, trivial, trivial, trivial, trivial, trivial, trivial⟩
            refine DT.step [(153, _), (140, _)] rfl ⟨rfl, rfl, trivial⟩ rfl (fun wq_20 kq_20 => ?_)
            have zs_kq_20 := kq_20.size
            replace hw := hw.pure kq_20
            replace hR := hR.pure kq_20
            replace hq := hq.pure kq_20
            replace hd_2 := hd_2.pure kq_20
            replace hq3 := hq3.pure kq_20
            refine WL.want rfl rfl rfl (WL.move rfl rfl (?_))
            refine WL.nil ?_
            refine WX.one ⟨hd_2, ?_⟩
            refine ⟨?_, ?_, trivial, trivial, trivial, trivial⟩
            refine DT.step [(5, _), (154, _)] rfl ⟨rfl, rfl, trivial⟩ rfl (fun wq_21 kq_21 => ?_)
            have zs_kq_21 := kq_21.size
            replace hw := hw.pure kq_21
            replace hR := hR.pure kq_21
            replace hq := hq.pure kq_21
            replace hd_2 := hd_2.pure kq_21
            replace hq3 := hq3.pure kq_21
            refine WL.want rfl rfl rfl (WL.move rfl rfl (?_))
            refine WL.nil ?_
            refine WX.one ⟨hd_2, ?_⟩
            refine ⟨?_, trivial, trivial, trivial, trivial⟩
            refine DT.step [(11, _), (154, _)] rfl ⟨rfl, rfl, trivial⟩ rfl (fun wq_22 kq_22 => ?_)
            have zs_kq_22 := kq_22.size
            replace hw := hw.pure kq_22
            replace hR := hR.pure kq_22
            replace hq := hq.pure kq_22
            replace hd_2 := hd_2.pure kq_22
            replace hq3 := hq3.pure kq_22
            refine WL.want rfl rfl rfl (WL.move rfl rfl (?_))
            refine WL.nil ?_
            refine WX.one ⟨hd_2, ?_⟩
            refine ⟨?_, trivial, trivial, trivial⟩
            refine DT.step [(155, _), (156, _), (154, _)] rfl ⟨rfl, rfl, rfl, trivial⟩ rfl (fun wq_23 kq_23 => ?_)
            have zs_kq_23 := kq_23.size
            replace hw := hw.pure kq_23
            replace hR := hR.pure kq_23
            replace hq := hq.pure kq_23
            replace hd_2 := hd_2.pure kq_23
            replace hq3 := hq3.pure kq_23
            refine WL.want rfl rfl rfl (?_)
            refine WL.call eg_22 rfl rfl (Gone_calls hR (f : Int)) ?_
            rintro v w4 ⟨rfl, k4⟩
            rw [hA.gone f (by omega), Bool.and_false]
            have zs_k4 := k4.size
            replace hw := hw.pure k4
            replace hR := hR.pure k4
            replace hq := hq.pure k4
            replace hd_2 := hd_2.pure k4
            replace hq3 := hq3.pure k4
            refine WL.nil ?_
            refine WX.one ⟨hd_2, ?_⟩
            refine ⟨?_, trivial, trivial⟩
            refine DT.step [(154, _), (157, _), (140, _)] rfl ⟨rfl, rfl, rfl, trivial⟩ rfl (fun wq_24 kq_24 => ?_)
            have zs_kq_24 := kq_24.size
            replace hw := hw.pure kq_24
            replace hR := hR.pure kq_24
            replace hq := hq.pure kq_24
            replace hd_2 := hd_2.pure kq_24
            replace hq3 := hq3.pure kq_24
            refine WL.want rfl rfl rfl (WL.pickF rfl rfl rfl (?_))
            refine WL.nil ?_
            refine WX.one ⟨hd_2, ?_⟩
            refine ⟨?_, trivial⟩
            refine DT.step [(140, _), (158, _)] rfl ⟨rfl, rfl, trivial⟩ rfl (fun wq_25 kq_25 => ?_)
            have zs_kq_25 := kq_25.size
            replace hw := hw.pure kq_25
            replace hR := hR.pure kq_25
            replace hq := hq.pure kq_25
            replace hd_2 := hd_2.pure kq_25
            replace hq3 := hq3.pure kq_25
            refine WL.pickT rfl rfl rfl (?_)
            refine WL.nil ?_
            refine WX.one ⟨hd_2, ?_⟩
            refine DT.done (fun we_26 ke_26 => ?_) _
            have zs_ke_26 := ke_26.size
            replace hw := hw.pure ke_26
            replace hR := hR.pure ke_26
            replace hq := hq.pure ke_26
            replace hd_2 := hd_2.pure ke_26
            replace hq3 := hq3.pure ke_26
            rotate_left
            refine DT.step [(11, _), (154, _)] rfl ⟨rfl, rfl, trivial⟩ rfl (fun wq_21 kq_21 => ?_)
            have zs_kq_21 := kq_21.size
            replace hw := hw.pure kq_21
            replace hR := hR.pure kq_21
            replace hq := hq.pure kq_21
            replace hd_2 := hd_2.pure kq_21
            replace hq3 := hq3.pure kq_21
            refine WL.want rfl rfl rfl (WL.move rfl rfl (?_))
            refine WL.nil ?_
            refine WX.one ⟨hd_2, ?_⟩
            refine ⟨?_, trivial, trivial, trivial, trivial⟩
            refine DT.step [(5, _), (154, _)] rfl ⟨rfl, rfl, trivial⟩ rfl (fun wq_22 kq_22 => ?_)
            have zs_kq_22 := kq_22.size
            replace hw := hw.pure kq_22
            replace hR := hR.pure kq_22
            replace hq := hq.pure kq_22
            replace hd_2 := hd_2.pure kq_22
            replace hq3 := hq3.pure kq_22
            refine WL.want rfl rfl rfl (WL.move rfl rfl (?_))
            refine WL.nil ?_
            refine WX.one ⟨hd_2, ?_⟩
            refine ⟨?_, trivial, trivial, trivial⟩
            refine DT.step [(155, _), (156, _), (154, _)] rfl ⟨rfl, rfl, rfl, trivial⟩ rfl (fun wq_23 kq_23 => ?_)
            have zs_kq_23 := kq_23.size
            replace hw := hw.pure kq_23
            replace hR := hR.pure kq_23
            replace hq := hq.pure kq_23
            replace hd_2 := hd_2.pure kq_23
            replace hq3 := hq3.pure kq_23
            refine WL.want rfl rfl rfl (?_)
            refine WL.call eg_22 rfl rfl (Gone_calls hR (f : Int)) ?_
            rintro v w4 ⟨rfl, k4⟩
            rw [hA.gone f (by omega), Bool.and_false]
            have zs_k4 := k4.size
            replace hw := hw.pure k4
            replace hR := hR.pure k4
            replace hq := hq.pure k4
            replace hd_2 := hd_2.pure k4
            replace hq3 := hq3.pure k4
            refine WL.nil ?_
            refine WX.one ⟨hd_2, ?_⟩
            refine ⟨?_, trivial, trivial⟩
            refine DT.step [(154, _), (157, _), (140, _)] rfl ⟨rfl, rfl, rfl, trivial⟩ rfl (fun wq_24 kq_24 => ?_)
            have zs_kq_24 := kq_24.size
            replace hw := hw.pure kq_24
            replace hR := hR.pure kq_24
            replace hq := hq.pure kq_24
            replace hd_2 := hd_2.pure kq_24
            replace hq3 := hq3.pure kq_24
            refine WL.want rfl rfl rfl (WL.pickF rfl rfl rfl (?_))
            refine WL.nil ?_
            refine WX.one ⟨hd_2, ?_⟩
            refine ⟨?_, trivial⟩
            refine DT.step [(140, _), (158, _)] rfl ⟨rfl, rfl, trivial⟩ rfl (fun wq_25 kq_25 => ?_)
            have zs_kq_25 := kq_25.size
            replace hw := hw.pure kq_25
            replace hR := hR.pure kq_25
            replace hq := hq.pure kq_25
            replace hd_2 := hd_2.pure kq_25
            replace hq3 := hq3.pure kq_25
            refine WL.pickT rfl rfl rfl (?_)
            refine WL.nil ?_
            refine WX.one ⟨hd_2, ?_⟩
            refine DT.done (fun we_26 ke_26 => ?_) _
            have zs_ke_26 := ke_26.size
            replace hw := hw.pure ke_26
            replace hR := hR.pure ke_26
            replace hq := hq.pure ke_26
            replace hd_2 := hd_2.pure ke_26
            replace hq3 := hq3.pure ke_26
            rotate_left
            all_goals
              refine WX.then_normal (WC.cond_false rfl (WC.skip (WX.block_normal (WX.then_normal (WC.region (WL.move rfl rfl (WL.add64 rfl rfl (by first | omega | (constructor <;> omega)) rfl (?_))))))))
              refine WL.assign rfl rfl (WL.nil (?_))
              first
                | exact WX.loop_next (i + 1) ⟨rfl, rfl, rfl, rfl, trivial⟩ ⟨by omega, hO, hw, _, hA2, hR2⟩ (by omega)
                | exact WX.loop_next (i + 1) ⟨rfl, rfl, rfl, rfl, trivial⟩ ⟨by omega, hO, hw, _, hA.more, hR⟩ (by omega)
                | exact WX.loop_next (d + 1) ⟨rfl, rfl, rfl, rfl, trivial⟩ ⟨by omega, hO, hw, s, sd, sn, us, sg, by omega, fun d2 a2 h h2 => sh d2 a2 (by omega) h2, hR⟩ (by omega)
                | (refine WX.loop_next (a + 1) ⟨rfl, rfl, rfl, rfl, rfl, trivial⟩ ⟨by omega, hO, hw, addS s ((d : Int), (a : Int)) (B ((d : Int) * 10 + a)), sd, sn, addS_up us _ _, sg, ?_, fun d2 a2 h h2 => ?_, hR3⟩ (by omega)
                   ·
                     show (s.waits ++ [_]).length ≤ _
                     rw [List.length_append]
                     show s.waits.length + 1 ≤ _
                     omega
                   ·
                     rw [addS_held]
                     split
                     ·
                       rename_i e
                       injection e with e1 e2
                       rw [e1, e2]
                     ·
                       rename_i e
                       refine sh d2 a2 ?_ h2
                       rcases h with h | ⟨h, h3⟩
                       ·
                         exact .inl h
                       ·
                         right
                         refine ⟨h, ?_⟩
                         rcases Nat.lt_or_ge a2 a with h4 | h4
                         ·
                           exact h4
                         ·
                           exfalso
                           have h5 : a2 = a := by omega
                           exact e (by rw [h, h5]))
                | exact WX.loop_next (e + 1) ⟨rfl, rfl, rfl, rfl, trivial⟩ ⟨by omega, hw, hR⟩ (by omega)
                | exact WX.loop_next (f + 1) ⟨rfl, rfl, rfl, trivial⟩ ⟨by omega, hw, hR⟩ (by omega)
          case hf =>
            intro h139
            replace h139 := of_decide_eq_false h139
            apply DQT.step (E' := [(139, _)])
            case ho => rfl
            case hs => exact ⟨rfl, trivial⟩
            case hk => rfl
            case h1 =>
              intro wq_6 kq_6
              refine WL.move rfl rfl (?_)
              refine WL.nil ?_
              exact WX.one ⟨rfl, by first | exact Chg.refl _ _ | assumption⟩
            apply DQT.step (E' := [(14, _), (140, _)])
            case ho => rfl
            case hs => exact ⟨rfl, rfl, trivial⟩
            case hk => rfl
            case h1 =>
              intro wq_7 kq_7
              refine WL.pass rfl rfl rfl rfl (WL.nil (?_))
              exact WX.one ⟨rfl, by first | exact Chg.refl _ _ | assumption⟩
            apply DQT.step (E' := [(141, _), (140, _)])
            case ho => rfl
            case hs => exact ⟨rfl, rfl, trivial⟩
            case hk => rfl
            case h1 =>
              intro wq_8 kq_8
              refine WL.pass rfl rfl rfl rfl (WL.nil (?_))
              exact WX.one ⟨rfl, by first | exact Chg.refl _ _ | assumption⟩
            apply DQT.step (E' := [(142, _), (140, _)])
            case ho => rfl
            case hs => exact ⟨rfl, rfl, trivial⟩
            case hk => rfl
            case h1 =>
              intro wq_9 kq_9
              refine WL.pass rfl rfl rfl rfl (WL.nil (?_))
              exact WX.one ⟨rfl, by first | exact Chg.refl _ _ | assumption⟩
            apply DQT.step (E' := [(13, _), (143, _)])
            case ho => rfl
            case hs => exact ⟨rfl, rfl, trivial⟩
            case hk => rfl
            case h1 =>
              intro wq_10 kq_10
              refine WL.passU rfl rfl rfl (WL.nil (?_))
              exact WX.one ⟨rfl, by first | exact Chg.refl _ _ | assumption⟩
            apply DQT.step (E' := [(144, _), (143, _)])
            case ho => rfl
            case hs => exact ⟨rfl, rfl, trivial⟩
            case hk => rfl
            case h1 =>
              intro wq_11 kq_11
              have zs_kq_11 := kq_11.size
              replace hw := hw.pure kq_11
              replace hR := hR.pure kq_11
              replace hq := hq.pure kq_11
              refine WL.passU rfl rfl rfl (WL.nil (?_))
              exact WX.one ⟨rfl, by first | exact Chg.refl _ _ | assumption⟩
            apply DQT.step (E' := [(11, _), (143, _)])
            case ho => rfl
            case hs => exact ⟨rfl, rfl, trivial⟩
            case hk => rfl
            case h1 =>
              intro wq_12 kq_12
              refine WL.passU rfl rfl rfl (WL.nil (?_))
              exact WX.one ⟨rfl, by first | exact Chg.refl _ _ | assumption⟩
            apply DQT.step (E' := [(146, _), (143, _)])
            case ho => rfl
            case hs => exact ⟨rfl, rfl, trivial⟩
            case hk => rfl
            case h1 =>
              intro wq_13 kq_13
              refine WL.passU rfl rfl rfl (WL.nil (?_))
              exact WX.one ⟨rfl, by first | exact Chg.refl _ _ | assumption⟩
            apply DQT.step (E' := [(12, _), (143, _)])
            case ho => rfl
            case hs => exact ⟨rfl, rfl, trivial⟩
            case hk => rfl
            case h1 =>
              intro wq_14 kq_14
              refine WL.passU rfl rfl rfl (WL.nil (?_))
              exact WX.one ⟨rfl, by first | exact Chg.refl _ _ | assumption⟩
            apply DQT.step (E' := [(147, _), (148, _), (143, _)])
            case ho => rfl
            case hs => exact ⟨rfl, rfl, rfl, trivial⟩
            case hk => rfl
            case h1 =>
              intro wq_15 kq_15
              refine WL.passU rfl rfl rfl (WL.nil (?_))
              exact WX.one ⟨rfl, by first | exact Chg.refl _ _ | assumption⟩
            refine DQT.done (fun hd_2 => ?_)
            refine ⟨?_, trivial, trivial, trivial, trivial, trivial, trivial, trivial, trivial, trivial, trivial⟩
            refine DT.step [(149, _), (143, _)] rfl ⟨rfl, rfl, trivial⟩ rfl (fun wq_16 kq_16 => ?_)
            have zs_kq_16 := kq_16.size
            replace hw := hw.pure kq_16
            replace hR := hR.pure kq_16
            replace hq := hq.pure kq_16
            replace hd_2 := hd_2.pure kq_16
            refine WL.passU rfl rfl rfl (WL.nil (?_))
            refine WX.one ⟨hd_2, ?_⟩
            refine ⟨?_, trivial, trivial, trivial, trivial, trivial, trivial, trivial, trivial, trivial⟩
            refine DT.step [(150, _), (143, _)] rfl ⟨rfl, rfl, trivial⟩ rfl (fun wq_17 kq_17 => ?_)
            have zs_kq_17 := kq_17.size
            replace hw := hw.pure kq_17
            replace hR := hR.pure kq_17
            replace hq := hq.pure kq_17
            replace hd_2 := hd_2.pure kq_17
            refine WL.passU rfl rfl rfl (WL.nil (?_))
            refine WX.one ⟨hd_2, ?_⟩
            refine ⟨?_, trivial, trivial, trivial, trivial, trivial, trivial, trivial, trivial⟩
            refine DT.step [(145, _), (151, _), (143, _)] rfl ⟨rfl, rfl, rfl, trivial⟩ rfl (fun wq_18 kq_18 => ?_)
            have zs_kq_18 := kq_18.size
            replace hw := hw.pure kq_18
            replace hR := hR.pure kq_18
            replace hq := hq.pure kq_18
            replace hd_2 := hd_2.pure kq_18
            refine WL.passU rfl rfl rfl (WL.nil (?_))
            refine WX.one ⟨hd_2, ?_⟩
            refine ⟨?_, trivial, trivial, trivial, trivial, trivial, trivial, trivial⟩
            refine DT.step [(143, _), (152, _), (140, _)] rfl ⟨rfl, rfl, rfl, trivial⟩ rfl (fun wq_19 kq_19 => ?_)
            have zs_kq_19 := kq_19.size
            replace hw := hw.pure kq_19
            replace hR := hR.pure kq_19
            replace hq := hq.pure kq_19
            replace hd_2 := hd_2.pure kq_19
            refine WL.pass rfl rfl rfl rfl (WL.nil (?_))
            refine WX.one ⟨hd_2, ?_⟩
            refine ⟨?_, trivial, trivial, trivial, trivial, trivial, trivial⟩
            refine DT.step [(153, _), (140, _)] rfl ⟨rfl, rfl, trivial⟩ rfl (fun wq_20 kq_20 => ?_)
            have zs_kq_20 := kq_20.size
            replace hw := hw.pure kq_20
            replace hR := hR.pure kq_20
            replace hq := hq.pure kq_20
            replace hd_2 := hd_2.pure kq_20
            refine WL.pass rfl rfl rfl rfl (WL.nil (?_))
            refine WX.one ⟨hd_2, ?_⟩
            refine ⟨?_, ?_, trivial, trivial, trivial, trivial⟩
            refine DT.step [(5, _), (154, _)] rfl ⟨rfl, rfl, trivial⟩ rfl (fun wq_21 kq_21 => ?_)
            have zs_kq_21 := kq_21.size
            replace hw := hw.pure kq_21
            replace hR := hR.pure kq_21
            replace hq := hq.pure kq_21
            replace hd_2 := hd_2.pure kq_21
            refine WL.passU rfl rfl rfl (WL.nil (?_))
            refine WX.one ⟨hd_2, ?_⟩
            refine ⟨?_, trivial, trivial, trivial, trivial⟩
            refine DT.step [(11, _), (154, _)] rfl ⟨rfl, rfl, trivial⟩ rfl (fun wq_22 kq_22 => ?_)
            have zs_kq_22 := kq_22.size
            replace hw := hw.pure kq_22
            replace hR := hR.pure kq_22
            replace hq := hq.pure kq_22
            replace hd_2 := hd_2.pure kq_22
            refine WL.passU rfl rfl rfl (WL.nil (?_))
            refine WX.one ⟨hd_2, ?_⟩
            refine ⟨?_, trivial, trivial, trivial⟩
            refine DT.step [(155, _), (156, _), (154, _)] rfl ⟨rfl, rfl, rfl, trivial⟩ rfl (fun wq_23 kq_23 => ?_)
            have zs_kq_23 := kq_23.size
            replace hw := hw.pure kq_23
            replace hR := hR.pure kq_23
            replace hq := hq.pure kq_23
            replace hd_2 := hd_2.pure kq_23
            refine WL.passU rfl rfl rfl (WL.nil (?_))
            refine WX.one ⟨hd_2, ?_⟩
            refine ⟨?_, trivial, trivial⟩
            refine DT.step [(154, _), (157, _), (140, _)] rfl ⟨rfl, rfl, rfl, trivial⟩ rfl (fun wq_24 kq_24 => ?_)
            have zs_kq_24 := kq_24.size
            replace hw := hw.pure kq_24
            replace hR := hR.pure kq_24
            replace hq := hq.pure kq_24
            replace hd_2 := hd_2.pure kq_24
            refine WL.pass rfl rfl rfl rfl (WL.nil (?_))
            refine WX.one ⟨hd_2, ?_⟩
            refine ⟨?_, trivial⟩
            refine DT.step [(140, _), (158, _)] rfl ⟨rfl, rfl, trivial⟩ rfl (fun wq_25 kq_25 => ?_)
            have zs_kq_25 := kq_25.size
            replace hw := hw.pure kq_25
            replace hR := hR.pure kq_25
            replace hq := hq.pure kq_25
            replace hd_2 := hd_2.pure kq_25
            refine WL.pickF rfl rfl rfl (?_)
            refine WL.nil ?_
            refine WX.one ⟨hd_2, ?_⟩
            refine DT.done (fun we_26 ke_26 => ?_) _
            have zs_ke_26 := ke_26.size
            replace hw := hw.pure ke_26
            replace hR := hR.pure ke_26
            replace hq := hq.pure ke_26
            replace hd_2 := hd_2.pure ke_26
            rotate_left
            refine DT.step [(11, _), (154, _)] rfl ⟨rfl, rfl, trivial⟩ rfl (fun wq_21 kq_21 => ?_)
            have zs_kq_21 := kq_21.size
            replace hw := hw.pure kq_21
            replace hR := hR.pure kq_21
            replace hq := hq.pure kq_21
            replace hd_2 := hd_2.pure kq_21
            refine WL.passU rfl rfl rfl (WL.nil (?_))
            refine WX.one ⟨hd_2, ?_⟩
            refine ⟨?_, trivial, trivial, trivial, trivial⟩
            refine DT.step [(5, _), (154, _)] rfl ⟨rfl, rfl, trivial⟩ rfl (fun wq_22 kq_22 => ?_)
            have zs_kq_22 := kq_22.size
            replace hw := hw.pure kq_22
            replace hR := hR.pure kq_22
            replace hq := hq.pure kq_22
            replace hd_2 := hd_2.pure kq_22
            refine WL.passU rfl rfl rfl (WL.nil (?_))
            refine WX.one ⟨hd_2, ?_⟩
            refine ⟨?_, trivial, trivial, trivial⟩
            refine DT.step [(155, _), (156, _), (154, _)] rfl ⟨rfl, rfl, rfl, trivial⟩ rfl (fun wq_23 kq_23 => ?_)
            have zs_kq_23 := kq_23.size
            replace hw := hw.pure kq_23
            replace hR := hR.pure kq_23
            replace hq := hq.pure kq_23
            replace hd_2 := hd_2.pure kq_23
            refine WL.passU rfl rfl rfl (WL.nil (?_))
            refine WX.one ⟨hd_2, ?_⟩
            refine ⟨?_, trivial, trivial⟩
            refine DT.step [(154, _), (157, _), (140, _)] rfl ⟨rfl, rfl, rfl, trivial⟩ rfl (fun wq_24 kq_24 => ?_)
            have zs_kq_24 := kq_24.size
            replace hw := hw.pure kq_24
            replace hR := hR.pure kq_24
            replace hq := hq.pure kq_24
            replace hd_2 := hd_2.pure kq_24
            refine WL.pass rfl rfl rfl rfl (WL.nil (?_))
            refine WX.one ⟨hd_2, ?_⟩
            refine ⟨?_, trivial⟩
            refine DT.step [(140, _), (158, _)] rfl ⟨rfl, rfl, trivial⟩ rfl (fun wq_25 kq_25 => ?_)
            have zs_kq_25 := kq_25.size
            replace hw := hw.pure kq_25
            replace hR := hR.pure kq_25
            replace hq := hq.pure kq_25
            replace hd_2 := hd_2.pure kq_25
            refine WL.pickF rfl rfl rfl (?_)
            refine WL.nil ?_
            refine WX.one ⟨hd_2, ?_⟩
            refine DT.done (fun we_26 ke_26 => ?_) _
            have zs_ke_26 := ke_26.size
            replace hw := hw.pure ke_26
            replace hR := hR.pure ke_26
            replace hq := hq.pure ke_26
            replace hd_2 := hd_2.pure ke_26
            rotate_left
            all_goals
              refine WX.then_normal (WC.cond_false rfl (WC.skip (WX.block_normal (WX.then_normal (WC.region (WL.move rfl rfl (WL.add64 rfl rfl (by first | omega | (constructor <;> omega)) rfl (?_))))))))
              refine WL.assign rfl rfl (WL.nil (?_))
              first
                | exact WX.loop_next (i + 1) ⟨rfl, rfl, rfl, rfl, trivial⟩ ⟨by omega, hO, hw, _, hA2, hR2⟩ (by omega)
                | exact WX.loop_next (i + 1) ⟨rfl, rfl, rfl, rfl, trivial⟩ ⟨by omega, hO, hw, _, hA.more, hR⟩ (by omega)
                | exact WX.loop_next (d + 1) ⟨rfl, rfl, rfl, rfl, trivial⟩ ⟨by omega, hO, hw, s, sd, sn, us, sg, by omega, fun d2 a2 h h2 => sh d2 a2 (by omega) h2, hR⟩ (by omega)
                | (refine WX.loop_next (a + 1) ⟨rfl, rfl, rfl, rfl, rfl, trivial⟩ ⟨by omega, hO, hw, addS s ((d : Int), (a : Int)) (B ((d : Int) * 10 + a)), sd, sn, addS_up us _ _, sg, ?_, fun d2 a2 h h2 => ?_, hR3⟩ (by omega)
                   ·
                     show (s.waits ++ [_]).length ≤ _
                     rw [List.length_append]
                     show s.waits.length + 1 ≤ _
                     omega
                   ·
                     rw [addS_held]
                     split
                     ·
                       rename_i e
                       injection e with e1 e2
                       rw [e1, e2]
                     ·
                       rename_i e
                       refine sh d2 a2 ?_ h2
                       rcases h with h | ⟨h, h3⟩
                       ·
                         exact .inl h
                       ·
                         right
                         refine ⟨h, ?_⟩
                         rcases Nat.lt_or_ge a2 a with h4 | h4
                         ·
                           exact h4
                         ·
                           exfalso
                           have h5 : a2 = a := by omega
                           exact e (by rw [h, h5]))
                | exact WX.loop_next (e + 1) ⟨rfl, rfl, rfl, rfl, trivial⟩ ⟨by omega, hw, hR⟩ (by omega)
                | exact WX.loop_next (f + 1) ⟨rfl, rfl, rfl, trivial⟩ ⟨by omega, hw, hR⟩ (by omega)
        ·
          refine WL.nil (WX.then_normal (WC.cond_false rfl (WC.exit (WX.then_exit (WX.then_exit (WX.block_here (WX.block_normal (?_))))))))
          refine WX.then_normal (WC.region (WL.move rfl rfl (WL.add64 rfl rfl (by first | omega | (constructor <;> omega)) rfl (WL.assign rfl rfl (WL.nil (?_))))))
          first
            | exact WX.loop_next (i + 1) ⟨rfl, rfl, rfl, rfl, trivial⟩ ⟨by omega, hO, hw, _, hA2, hR2⟩ (by omega)
            | exact WX.loop_next (i + 1) ⟨rfl, rfl, rfl, rfl, trivial⟩ ⟨by omega, hO, hw, _, hA.more, hR⟩ (by omega)
            | exact WX.loop_next (d + 1) ⟨rfl, rfl, rfl, rfl, trivial⟩ ⟨by omega, hO, hw, s, sd, sn, us, sg, by omega, fun d2 a2 h h2 => sh d2 a2 (by omega) h2, hR⟩ (by omega)
            | (refine WX.loop_next (a + 1) ⟨rfl, rfl, rfl, rfl, rfl, trivial⟩ ⟨by omega, hO, hw, addS s ((d : Int), (a : Int)) (B ((d : Int) * 10 + a)), sd, sn, addS_up us _ _, sg, ?_, fun d2 a2 h h2 => ?_, hR3⟩ (by omega)
               ·
                 show (s.waits ++ [_]).length ≤ _
                 rw [List.length_append]
                 show s.waits.length + 1 ≤ _
                 omega
               ·
                 rw [addS_held]
                 split
                 ·
                   rename_i e
                   injection e with e1 e2
                   rw [e1, e2]
                 ·
                   rename_i e
                   refine sh d2 a2 ?_ h2
                   rcases h with h | ⟨h, h3⟩
                   ·
                     exact .inl h
                   ·
                     right
                     refine ⟨h, ?_⟩
                     rcases Nat.lt_or_ge a2 a with h4 | h4
                     ·
                       exact h4
                     ·
                       exfalso
                       have h5 : a2 = a := by omega
                       exact e (by rw [h, h5]))
            | exact WX.loop_next (e + 1) ⟨rfl, rfl, rfl, rfl, trivial⟩ ⟨by omega, hw, hR⟩ (by omega)
            | exact WX.loop_next (f + 1) ⟨rfl, rfl, rfl, trivial⟩ ⟨by omega, hw, hR⟩ (by omega)
      ·
        refine WL.nil (WX.then_normal (WC.cond_false rfl (WC.exit (WX.then_exit (WX.then_exit (WX.block_here (WX.then_normal (?_))))))))
        refine WC.seq (WC.region (WL.assign rfl rfl (WL.nil (WX.then_normal (WC.ret (?_))))))
        refine WX.ret1 (.inl rfl) Try.results9 rfl ?_
        exact ⟨_, rfl, rfl, hw⟩
end Go.Proofs.Ytdjlfbadcijjaaa
