import Derived.Test.YtjeldcjchipdgaaDoorQLabelRots8
namespace Go.Proofs.YtjeldcjchipdgaaDoor
open Go.RowKit Go.HL
set_option maxRecDepth 100000

/-! writes that come to last, those that kp tells -/
def puts {V : Type} (kp : Nat → Bool) (ws l : List (Pl × V)) : Nat → List (Pl × V)
  | 0 => l
  | i + 1 => match ws[i]? with
    | some x => if kp i = true then mput (puts kp ws l i) x.1 x.2 else puts kp ws l i
    | none => puts kp ws l i
theorem puts_yes {V : Type} {kp : Nat → Bool} {ws l : List (Pl × V)} {i : Nat} {x : Pl × V} (hx : ws[i]? = some x) (hk : kp i = true) : puts kp ws l (i + 1) = mput (puts kp ws l i) x.1 x.2 := by simp [puts, hx, hk]
theorem puts_not {V : Type} {kp : Nat → Bool} {ws l : List (Pl × V)} {i : Nat} {x : Pl × V} (hx : ws[i]? = some x) (hk : kp i = false) : puts kp ws l (i + 1) = puts kp ws l i := by simp [puts, hx, hk]
theorem xsm_at (l : List (Pl × Rw)) (i : Nat) : (xsm l)[i]? = (l[i]?).map fun p => (p.1, p.2.xs) := by simp [xsm]
theorem xsm_puts (kp : Nat → Bool) (ws l : List (Pl × Rw)) (i : Nat) : xsm (puts kp ws l i) = puts kp (xsm ws) (xsm l) i := by
  induction i with
  | zero => rfl
  | succ i ih =>
    simp only [puts, xsm_at]
    cases h : ws[i]? with
    | none => simpa using ih
    | some x =>
      simp only [Option.map_some]
      split
      · rw [xsm_put, ih]
      · exact ih
theorem puts_nodup {V : Type} {kp : Nat → Bool} {ws l : List (Pl × V)} (h : (l.map (·.1)).Nodup) (i : Nat) : ((puts kp ws l i).map (·.1)).Nodup := by
  induction i with
  | zero => exact h
  | succ i ih =>
    simp only [puts]
    split
    · split
      · exact mput_nodup ih
      · exact ih
    · exact ih
theorem puts_mem {V : Type} {kp : Nat → Bool} {ws l : List (Pl × V)} {i : Nat} {x : Pl × V} (h : x ∈ puts kp ws l i) : x ∈ l ∨ x ∈ ws := by
  induction i with
  | zero => exact .inl h
  | succ i ih =>
    simp only [puts] at h
    split at h
    · rename_i y hy
      split at h
      · rcases mput_mem h with h1 | h1
        · exact ih h1
        · subst h1
          exact .inr (List.mem_of_getElem? hy)
      · exact ih h
    · exact ih h
theorem RI.noWaits {S : Nat → Prop} {w : World} {m : Nat} {ga : Option Addr} {gc : Nat} {wa : Option Addr} {wc : Nat} {gl : List Bool} {ws ls : List (Pl × Rw)} (h : RI S w m ga gc wa wc gl ws ls) : RI S w m ga gc none 0 gl [] ls :=
  ⟨h.sm, h.map, h.gone, Row.nil _ _ _ _, h.byl, fun p hp => by simp at hp⟩
/-- all that waits comes to last -/
def flushS (s : RA) : RA := if offS s = true then spendS s else { spendS s with last := puts (fun _ => true) s.waits s.last s.waits.length, waits := [] }
theorem flushS_ok {s : RA} (h : s.ok) : (flushS s).ok := by
  have h1 := spendS_ok h
  unfold flushS
  split
  · exact h1
  · refine ⟨h1.dn, h1.sn, h1.gl, fun p hp => ?_, fun p hp => by simp at hp, h1.lf, puts_nodup h.nd _⟩
    rcases puts_mem hp with h2 | h2
    · exact h.ll p h2
    · exact h.lw p h2
theorem Flush_calls {A : Nat → Prop} {w : World} {R : Nat} {s : RA} (h : RK A w R s) :
    Calls Tryd.prog 18 [ptr R].toArray w (Ret fun v w' => v = vi (if offS s = true then 16 else 0) ∧ RK A w' R (flushS s) ∧ Chg A w w') := by
  have aR := h.aR
  have hok := h.ok
  have hfok := flushS_ok h.ok
  have hw := Chg.refl A w
  refine Calls.of_WC Tryd.func18 rfl Tryd.ntmps18 (by simp) ?_
  refine WC.seq (WC.region (WL.assign rfl rfl (WL.nil (WX.then_normal (WC.seq (WC.block (WC.seq (?_))))))))
  refine WC.region (WL.move rfl rfl (?_))
  refine WL.ptrNil Tryd.underlying41 rfl rfl rfl ?_
  refine WL.assign rfl rfl (WL.nil (WX.then_normal (WC.cond_false rfl (WC.seq (WC.region (WL.move rfl rfl (?_)))))))
  refine WL.call eg_45 rfl rfl (spend_calls h) ?_
  rintro v w2 ⟨rfl, h2, k2, z2⟩
  have zs_k2 := k2.size
  replace hw := hw.chg k2 (by first | (intro x h1 h2; exact h2) | (intro x h0 h1 h2; exact hS x h1 h2) | (intro x h0 h1 h2; have h3 : _ = _ := h2; subst h3; exact hSR h1.1) | (intro x h1 h2; have h3 : _ = _ := h2; subst h3; assumption) | (intro x h1 h2; have h3 : _ = _ := h2; exfalso; omega) | (intro b h1 h2 h3; have h4 : _ = _ := h3; (try dsimp only at h2); exfalso; omega) | (intro h1; have h2 : _ = _ := h1; exfalso; omega) | (intro h1; have h2 : _ ≤ _ := h1; exfalso; omega) | (intros; exfalso; (try dsimp only at *); omega) | (intro b h1 h2 h3; exfalso; have h4 := h3.2; (try dsimp only at *); omega) | (intro h1; exfalso; have h4 := h1.2; (try dsimp only at *); omega) | (intro x h1 h2; exfalso; have h4 := h2.2; (try dsimp only at *); omega) | (intro x h1 h2; exact ⟨_, rfl, h2⟩) | (intro x h1 h2; have h4 := h2.1; have h5 := h2.2; exfalso; omega) | (intro x h1 h2; exact h2.1) | (intro x h1 h2; rcases h2.1 with h3 | h3; exact h3; exfalso; omega) | (intro x h1 h2; rcases h2 with h3 | h3; exact h3; exfalso; omega))
  rcases ho : offS s with _ | _
  ·
    obtain ⟨m, ga, gc, wa, wc, ws, ls, hB, hI, hls, hws⟩ := h2.old.ex
    have am : A m := hI.sm.1
    replace hI := hI.open hB
    have hmR : m ≠ R := hI.sm.2
    have lR := hB.lt
    have lm := hI.map.lt
    have hcap := hI.waits.own.cap
    have hwl : ws.length ≤ 9223372036854775807 := by
      rcases hI.waits.own.2.2 with ⟨_, h⟩ | ⟨_, _, _, _, _, _, h, _⟩
      ·
        omega
      ·
        simp only [maxLen] at h; omega
    refine WL.not rfl rfl (WL.assign rfl rfl (WL.nil (WX.then_normal (WC.cond_false rfl (WC.skip (WX.block_normal (WX.then_normal (?_))))))))
    refine WC.seq (WC.seq (WC.region (WL.move rfl rfl (WL.nilCheck rfl rfl (WL.fieldAddr (fld_86_4) rfl rfl (WL.loadB Tryd.isAgg84 hB rfl rfl rfl (WL.len Tryd.underlying84 rfl rfl (?_))))))))
    refine WL.move rfl rfl (WL.nil (WX.then_normal (WC.block (?_))))
    have zw := hw.size
    refine WC.loop (σ := Nat) (fun i => [(0, ptr R), (15, .slice wa ws.length wc), (16, vi ws.length), (17, vi (i : Int))]) (fun i w' => i ≤ ws.length ∧ Blk w' R 86 (rcells (spendS s) m ga gc wa wc ws.length) ∧ RI (fun b => (A b ∧ b < w2.heap.size) ∧ b ≠ R) w' m ga gc wa wc (spendS s).gone ws (puts (fun _ => true) ws ls i) ∧ Chg A w w' ∧ w2.heap.size ≤ w'.heap.size) (fun i => ws.length - i) 0 ⟨rfl, rfl, rfl, rfl, trivial⟩ ⟨Nat.zero_le _, hB, hI, hw, Nat.le_refl _⟩ ?_
    clear hB hI hw
    rintro i w1 ⟨hi, hB, hI, hw, z1⟩
    refine WC.seq (WC.region (?_))
    refine WL.lss? rfl rfl rfl (fun h18 => ?_) (fun h18 => ?_)
    ·
      refine WL.nil (WX.then_normal (WC.seq (WC.cond_true rfl (WC.skip (WX.then_normal (WC.seq (WC.block (?_))))))))
      refine WC.seq (WC.region (?_))
      have hi2 : i < ws.length := by omega
      have hx : ws[i]? = some ws[i] := List.getElem?_eq_getElem hi2
      obtain ⟨x, ex⟩ : ∃ x, x = ws[i] := ⟨_, rfl⟩
      rw [← ex] at hx
      refine WL.indexT (e := ewr) Tryd.underlying84 Tryd.sizeOf92 hI.waits.rsl rfl rfl ⟨hx, rfl⟩ rfl ?_
      intro bb oo hcc
      refine WL.loads _ Tryd.isAgg92 Tryd.sizeOf92 rfl hcc rfl rfl (?_)
      refine WL.alloc Tryd.zeroValue92 rfl ?_
      intro g_1 w_1 hge_1 hlt_1 hb_1 k_1
      have zs_k_1 := k_1.size
      replace hw := hw.pure k_1
      replace hB := hB.pure k_1
      replace hI := hI.pure k_1
      refine WL.stores Tryd.sizeOf92 hb_1 rfl rfl (by first | (simp; done) | (simp; omega) | rfl) (by first | exact Enc.one _ _ | (intro u hu; obtain ⟨x, _, rfl⟩ := List.mem_map.1 hu; rfl) | (simp [Value.oneCell']; done) | (simp [Value.oneCell', Value.cells]; done)) (by first | (simp; done) | (simp; omega) | (simp [Value.cells]; done) | (simp [Value.cells]; omega) | exact Nat.le_of_ble_eq_true rfl) rfl ?_
      intro w_2 hs_2 hn_2 k_2
      have zs_k_2 := k_2.size
      replace hw := hw.chg k_2 (by first | (intro x h1 h2; exact h2) | (intro x h0 h1 h2; exact hS x h1 h2) | (intro x h0 h1 h2; have h3 : _ = _ := h2; subst h3; exact hSR h1.1) | (intro x h1 h2; have h3 : _ = _ := h2; subst h3; assumption) | (intro x h1 h2; have h3 : _ = _ := h2; exfalso; omega) | (intro b h1 h2 h3; have h4 : _ = _ := h3; (try dsimp only at h2); exfalso; omega) | (intro h1; have h2 : _ = _ := h1; exfalso; omega) | (intro h1; have h2 : _ ≤ _ := h1; exfalso; omega) | (intros; exfalso; (try dsimp only at *); omega) | (intro b h1 h2 h3; exfalso; have h4 := h3.2; (try dsimp only at *); omega) | (intro h1; exfalso; have h4 := h1.2; (try dsimp only at *); omega) | (intro x h1 h2; exfalso; have h4 := h2.2; (try dsimp only at *); omega) | (intro x h1 h2; exact ⟨_, rfl, h2⟩) | (intro x h1 h2; have h4 := h2.1; have h5 := h2.2; exfalso; omega) | (intro x h1 h2; exact h2.1) | (intro x h1 h2; rcases h2.1 with h3 | h3; exact h3; exfalso; omega) | (intro x h1 h2; rcases h2 with h3 | h3; exact h3; exfalso; omega))
      replace hB := hB.chg k_2 (by first | (intro x h1 h2; exact h2) | (intro x h0 h1 h2; exact hS x h1 h2) | (intro x h0 h1 h2; have h3 : _ = _ := h2; subst h3; exact hSR h1.1) | (intro x h1 h2; have h3 : _ = _ := h2; subst h3; assumption) | (intro x h1 h2; have h3 : _ = _ := h2; exfalso; omega) | (intro b h1 h2 h3; have h4 : _ = _ := h3; (try dsimp only at h2); exfalso; omega) | (intro h1; have h2 : _ = _ := h1; exfalso; omega) | (intro h1; have h2 : _ ≤ _ := h1; exfalso; omega) | (intros; exfalso; (try dsimp only at *); omega) | (intro b h1 h2 h3; exfalso; have h4 := h3.2; (try dsimp only at *); omega) | (intro h1; exfalso; have h4 := h1.2; (try dsimp only at *); omega) | (intro x h1 h2; exfalso; have h4 := h2.2; (try dsimp only at *); omega) | (intro x h1 h2; exact ⟨_, rfl, h2⟩) | (intro x h1 h2; have h4 := h2.1; have h5 := h2.2; exfalso; omega) | (intro x h1 h2; exact h2.1) | (intro x h1 h2; rcases h2.1 with h3 | h3; exact h3; exfalso; omega) | (intro x h1 h2; rcases h2 with h3 | h3; exact h3; exfalso; omega))
      replace hI := hI.chg k_2 (by first | (intro x h1 h2; exact h2) | (intro x h0 h1 h2; exact hS x h1 h2) | (intro x h0 h1 h2; have h3 : _ = _ := h2; subst h3; exact hSR h1.1) | (intro x h1 h2; have h3 : _ = _ := h2; subst h3; assumption) | (intro x h1 h2; have h3 : _ = _ := h2; exfalso; omega) | (intro b h1 h2 h3; have h4 : _ = _ := h3; (try dsimp only at h2); exfalso; omega) | (intro h1; have h2 : _ = _ := h1; exfalso; omega) | (intro h1; have h2 : _ ≤ _ := h1; exfalso; omega) | (intros; exfalso; (try dsimp only at *); omega) | (intro b h1 h2 h3; exfalso; have h4 := h3.2; (try dsimp only at *); omega) | (intro h1; exfalso; have h4 := h1.2; (try dsimp only at *); omega) | (intro x h1 h2; exfalso; have h4 := h2.2; (try dsimp only at *); omega) | (intro x h1 h2; exact ⟨_, rfl, h2⟩) | (intro x h1 h2; have h4 := h2.1; have h5 := h2.2; exfalso; omega) | (intro x h1 h2; exact h2.1) | (intro x h1 h2; rcases h2.1 with h3 | h3; exact h3; exfalso; omega) | (intro x h1 h2; rcases h2 with h3 | h3; exact h3; exfalso; omega))
      replace hb_1 := hn_2
      refine WL.nil (WX.then_normal (?_))
      have hb8 : Blk _ g_1 92 [vi x.1.1, vi x.1.2, vsl x.2] := hb_1
      refine WC.draw ((fun x => x = m)) [0, 1, 2, 3, 4, 5, 6, 7] [8] mixed rfl rfl (fun wd_3 kd_3 zd_3 => ?_)
      have zs_kd_3 := kd_3.size
      replace hw := hw.pure kd_3
      replace hB := hB.pure kd_3
      replace hI := hI.pure kd_3
      replace hb8 := hb8.pure kd_3
      apply DQ.step (E' := [(0, _)])
      case ho => rfl
      case hs => exact ⟨rfl, trivial⟩
      case hk => rfl
      case h1 =>
        intro wq_5 kq_5
        refine WL.move rfl rfl (?_)
        refine WL.nil ?_
        exact WX.one ⟨rfl, by first | exact Chg.refl _ _ | assumption⟩
      apply DQ.step (E' := [(21, _)])
      case ho => rfl
      case hs => exact ⟨rfl, trivial⟩
      case hk => rfl
      case h1 =>
        intro wq_6 kq_6
        refine WL.nilCheck rfl rfl (?_)
        refine WL.nil ?_
        exact WX.one ⟨rfl, by first | exact Chg.refl _ _ | assumption⟩
      apply DQ.step (E' := [(22, _)])
      case ho => rfl
      case hs => exact ⟨rfl, trivial⟩
      case hk => rfl
      case h1 =>
        intro wq_7 kq_7
        refine WL.fieldAddr (fld_86_2) rfl rfl (?_)
        refine WL.nil ?_
        exact WX.one ⟨rfl, by first | exact Chg.refl _ _ | assumption⟩
      apply DQ.step (E' := [(23, _)])
      case ho => rfl
      case hs => exact ⟨rfl, trivial⟩
      case hk => rfl
      case h1 =>
        intro wq_8 kq_8
        have zs_kq_8 := kq_8.size
        replace hw := hw.chg kq_8 (by first | (intro x h1 h2; exact h2) | (intro x h0 h1 h2; exact hS x h1 h2) | (intro x h0 h1 h2; have h3 : _ = _ := h2; subst h3; exact hSR h1.1) | (intro x h1 h2; have h3 : _ = _ := h2; subst h3; assumption) | (intro x h1 h2; have h3 : _ = _ := h2; exfalso; omega) | (intro b h1 h2 h3; have h4 : _ = _ := h3; (try dsimp only at h2); exfalso; omega) | (intro h1; have h2 : _ = _ := h1; exfalso; omega) | (intro h1; have h2 : _ ≤ _ := h1; exfalso; omega) | (intros; exfalso; (try dsimp only at *); omega) | (intro b h1 h2 h3; exfalso; have h4 := h3.2; (try dsimp only at *); omega) | (intro h1; exfalso; have h4 := h1.2; (try dsimp only at *); omega) | (intro x h1 h2; exfalso; have h4 := h2.2; (try dsimp only at *); omega) | (intro x h1 h2; exact ⟨_, rfl, h2⟩) | (intro x h1 h2; have h4 := h2.1; have h5 := h2.2; exfalso; omega) | (intro x h1 h2; exact h2.1) | (intro x h1 h2; rcases h2.1 with h3 | h3; exact h3; exfalso; omega) | (intro x h1 h2; rcases h2 with h3 | h3; exact h3; exfalso; omega))
        replace hB := hB.chg kq_8 (by first | (intro x h1 h2; exact h2) | (intro x h0 h1 h2; exact hS x h1 h2) | (intro x h0 h1 h2; have h3 : _ = _ := h2; subst h3; exact hSR h1.1) | (intro x h1 h2; have h3 : _ = _ := h2; subst h3; assumption) | (intro x h1 h2; have h3 : _ = _ := h2; exfalso; omega) | (intro b h1 h2 h3; have h4 : _ = _ := h3; (try dsimp only at h2); exfalso; omega) | (intro h1; have h2 : _ = _ := h1; exfalso; omega) | (intro h1; have h2 : _ ≤ _ := h1; exfalso; omega) | (intros; exfalso; (try dsimp only at *); omega) | (intro b h1 h2 h3; exfalso; have h4 := h3.2; (try dsimp only at *); omega) | (intro h1; exfalso; have h4 := h1.2; (try dsimp only at *); omega) | (intro x h1 h2; exfalso; have h4 := h2.2; (try dsimp only at *); omega) | (intro x h1 h2; exact ⟨_, rfl, h2⟩) | (intro x h1 h2; have h4 := h2.1; have h5 := h2.2; exfalso; omega) | (intro x h1 h2; exact h2.1) | (intro x h1 h2; rcases h2.1 with h3 | h3; exact h3; exfalso; omega) | (intro x h1 h2; rcases h2 with h3 | h3; exact h3; exfalso; omega))
        replace hb8 := hb8.chg kq_8 (by first | (intro x h1 h2; exact h2) | (intro x h0 h1 h2; exact hS x h1 h2) | (intro x h0 h1 h2; have h3 : _ = _ := h2; subst h3; exact hSR h1.1) | (intro x h1 h2; have h3 : _ = _ := h2; subst h3; assumption) | (intro x h1 h2; have h3 : _ = _ := h2; exfalso; omega) | (intro b h1 h2 h3; have h4 : _ = _ := h3; (try dsimp only at h2); exfalso; omega) | (intro h1; have h2 : _ = _ := h1; exfalso; omega) | (intro h1; have h2 : _ ≤ _ := h1; exfalso; omega) | (intros; exfalso; (try dsimp only at *); omega) | (intro b h1 h2 h3; exfalso; have h4 := h3.2; (try dsimp only at *); omega) | (intro h1; exfalso; have h4 := h1.2; (try dsimp only at *); omega) | (intro x h1 h2; exfalso; have h4 := h2.2; (try dsimp only at *); omega) | (intro x h1 h2; exact ⟨_, rfl, h2⟩) | (intro x h1 h2; have h4 := h2.1; have h5 := h2.2; exfalso; omega) | (intro x h1 h2; exact h2.1) | (intro x h1 h2; rcases h2.1 with h3 | h3; exact h3; exfalso; omega) | (intro x h1 h2; rcases h2 with h3 | h3; exact h3; exfalso; omega))
        refine WL.loadB Tryd.isAgg83 hB rfl rfl rfl (?_)
        refine WL.nil ?_
        exact WX.one ⟨rfl, by first | exact Chg.refl _ _ | assumption⟩
      apply DQ.step (E' := [(4, _)])
      case ho => rfl
      case hs => exact ⟨rfl, trivial⟩
      case hk => rfl
      case h1 =>
        intro wq_9 kq_9
        refine WL.fieldAddr (fld_92_0) rfl rfl (?_)
        refine WL.nil ?_
        exact WX.one ⟨rfl, by first | exact Chg.refl _ _ | assumption⟩
      apply DQ.step (E' := [(25, _)])
      case ho => rfl
      case hs => exact ⟨rfl, trivial⟩
      case hk => rfl
      case h1 =>
        intro wq_10 kq_10
        have zs_kq_10 := kq_10.size
        replace hw := hw.chg kq_10 (by first | (intro x h1 h2; exact h2) | (intro x h0 h1 h2; exact hS x h1 h2) | (intro x h0 h1 h2; have h3 : _ = _ := h2; subst h3; exact hSR h1.1) | (intro x h1 h2; have h3 : _ = _ := h2; subst h3; assumption) | (intro x h1 h2; have h3 : _ = _ := h2; exfalso; omega) | (intro b h1 h2 h3; have h4 : _ = _ := h3; (try dsimp only at h2); exfalso; omega) | (intro h1; have h2 : _ = _ := h1; exfalso; omega) | (intro h1; have h2 : _ ≤ _ := h1; exfalso; omega) | (intros; exfalso; (try dsimp only at *); omega) | (intro b h1 h2 h3; exfalso; have h4 := h3.2; (try dsimp only at *); omega) | (intro h1; exfalso; have h4 := h1.2; (try dsimp only at *); omega) | (intro x h1 h2; exfalso; have h4 := h2.2; (try dsimp only at *); omega) | (intro x h1 h2; exact ⟨_, rfl, h2⟩) | (intro x h1 h2; have h4 := h2.1; have h5 := h2.2; exfalso; omega) | (intro x h1 h2; exact h2.1) | (intro x h1 h2; rcases h2.1 with h3 | h3; exact h3; exfalso; omega) | (intro x h1 h2; rcases h2 with h3 | h3; exact h3; exfalso; omega))
        replace hB := hB.chg kq_10 (by first | (intro x h1 h2; exact h2) | (intro x h0 h1 h2; exact hS x h1 h2) | (intro x h0 h1 h2; have h3 : _ = _ := h2; subst h3; exact hSR h1.1) | (intro x h1 h2; have h3 : _ = _ := h2; subst h3; assumption) | (intro x h1 h2; have h3 : _ = _ := h2; exfalso; omega) | (intro b h1 h2 h3; have h4 : _ = _ := h3; (try dsimp only at h2); exfalso; omega) | (intro h1; have h2 : _ = _ := h1; exfalso; omega) | (intro h1; have h2 : _ ≤ _ := h1; exfalso; omega) | (intros; exfalso; (try dsimp only at *); omega) | (intro b h1 h2 h3; exfalso; have h4 := h3.2; (try dsimp only at *); omega) | (intro h1; exfalso; have h4 := h1.2; (try dsimp only at *); omega) | (intro x h1 h2; exfalso; have h4 := h2.2; (try dsimp only at *); omega) | (intro x h1 h2; exact ⟨_, rfl, h2⟩) | (intro x h1 h2; have h4 := h2.1; have h5 := h2.2; exfalso; omega) | (intro x h1 h2; exact h2.1) | (intro x h1 h2; rcases h2.1 with h3 | h3; exact h3; exfalso; omega) | (intro x h1 h2; rcases h2 with h3 | h3; exact h3; exfalso; omega))
        replace hb8 := hb8.chg kq_10 (by first | (intro x h1 h2; exact h2) | (intro x h0 h1 h2; exact hS x h1 h2) | (intro x h0 h1 h2; have h3 : _ = _ := h2; subst h3; exact hSR h1.1) | (intro x h1 h2; have h3 : _ = _ := h2; subst h3; assumption) | (intro x h1 h2; have h3 : _ = _ := h2; exfalso; omega) | (intro b h1 h2 h3; have h4 : _ = _ := h3; (try dsimp only at h2); exfalso; omega) | (intro h1; have h2 : _ = _ := h1; exfalso; omega) | (intro h1; have h2 : _ ≤ _ := h1; exfalso; omega) | (intros; exfalso; (try dsimp only at *); omega) | (intro b h1 h2 h3; exfalso; have h4 := h3.2; (try dsimp only at *); omega) | (intro h1; exfalso; have h4 := h1.2; (try dsimp only at *); omega) | (intro x h1 h2; exfalso; have h4 := h2.2; (try dsimp only at *); omega) | (intro x h1 h2; exact ⟨_, rfl, h2⟩) | (intro x h1 h2; have h4 := h2.1; have h5 := h2.2; exfalso; omega) | (intro x h1 h2; exact h2.1) | (intro x h1 h2; rcases h2.1 with h3 | h3; exact h3; exfalso; omega) | (intro x h1 h2; rcases h2 with h3 | h3; exact h3; exfalso; omega))
        refine WL.loads [vi x.1.1, vi x.1.2] Tryd.isAgg90 Tryd.sizeOf90 rfl (fun q v hv => ?_) rfl rfl ?_
        ·
          refine hb8.cell (j := 0 + 0 + q) ?_
          match q, hv with
          | 0, hv => exact hv
          | 1, hv => exact hv
        refine WL.nil ?_
        exact WX.one ⟨rfl, by first | exact Chg.refl _ _ | assumption⟩
      apply DQ.step (E' := [(4, _)])
      case ho => rfl
      case hs => exact ⟨rfl, trivial⟩
      case hk => rfl
      case h1 =>
        intro wq_11 kq_11
        refine WL.fieldAddr (fld_92_1) rfl rfl (?_)
        refine WL.nil ?_
        exact WX.one ⟨rfl, by first | exact Chg.refl _ _ | assumption⟩
      apply DQ.step (E' := [(27, _)])
      case ho => rfl
      case hs => exact ⟨rfl, trivial⟩
      case hk => rfl
      case h1 =>
        intro wq_12 kq_12
        have zs_kq_12 := kq_12.size
        replace hw := hw.chg kq_12 (by first | (intro x h1 h2; exact h2) | (intro x h0 h1 h2; exact hS x h1 h2) | (intro x h0 h1 h2; have h3 : _ = _ := h2; subst h3; exact hSR h1.1) | (intro x h1 h2; have h3 : _ = _ := h2; subst h3; assumption) | (intro x h1 h2; have h3 : _ = _ := h2; exfalso; omega) | (intro b h1 h2 h3; have h4 : _ = _ := h3; (try dsimp only at h2); exfalso; omega) | (intro h1; have h2 : _ = _ := h1; exfalso; omega) | (intro h1; have h2 : _ ≤ _ := h1; exfalso; omega) | (intros; exfalso; (try dsimp only at *); omega) | (intro b h1 h2 h3; exfalso; have h4 := h3.2; (try dsimp only at *); omega) | (intro h1; exfalso; have h4 := h1.2; (try dsimp only at *); omega) | (intro x h1 h2; exfalso; have h4 := h2.2; (try dsimp only at *); omega) | (intro x h1 h2; exact ⟨_, rfl, h2⟩) | (intro x h1 h2; have h4 := h2.1; have h5 := h2.2; exfalso; omega) | (intro x h1 h2; exact h2.1) | (intro x h1 h2; rcases h2.1 with h3 | h3; exact h3; exfalso; omega) | (intro x h1 h2; rcases h2 with h3 | h3; exact h3; exfalso; omega))
        replace hB := hB.chg kq_12 (by first | (intro x h1 h2; exact h2) | (intro x h0 h1 h2; exact hS x h1 h2) | (intro x h0 h1 h2; have h3 : _ = _ := h2; subst h3; exact hSR h1.1) | (intro x h1 h2; have h3 : _ = _ := h2; subst h3; assumption) | (intro x h1 h2; have h3 : _ = _ := h2; exfalso; omega) | (intro b h1 h2 h3; have h4 : _ = _ := h3; (try dsimp only at h2); exfalso; omega) | (intro h1; have h2 : _ = _ := h1; exfalso; omega) | (intro h1; have h2 : _ ≤ _ := h1; exfalso; omega) | (intros; exfalso; (try dsimp only at *); omega) | (intro b h1 h2 h3; exfalso; have h4 := h3.2; (try dsimp only at *); omega) | (intro h1; exfalso; have h4 := h1.2; (try dsimp only at *); omega) | (intro x h1 h2; exfalso; have h4 := h2.2; (try dsimp only at *); omega) | (intro x h1 h2; exact ⟨_, rfl, h2⟩) | (intro x h1 h2; have h4 := h2.1; have h5 := h2.2; exfalso; omega) | (intro x h1 h2; exact h2.1) | (intro x h1 h2; rcases h2.1 with h3 | h3; exact h3; exfalso; omega) | (intro x h1 h2; rcases h2 with h3 | h3; exact h3; exfalso; omega))
        replace hb8 := hb8.chg kq_12 (by first | (intro x h1 h2; exact h2) | (intro x h0 h1 h2; exact hS x h1 h2) | (intro x h0 h1 h2; have h3 : _ = _ := h2; subst h3; exact hSR h1.1) | (intro x h1 h2; have h3 : _ = _ := h2; subst h3; assumption) | (intro x h1 h2; have h3 : _ = _ := h2; exfalso; omega) | (intro b h1 h2 h3; have h4 : _ = _ := h3; (try dsimp only at h2); exfalso; omega) | (intro h1; have h2 : _ = _ := h1; exfalso; omega) | (intro h1; have h2 : _ ≤ _ := h1; exfalso; omega) | (intros; exfalso; (try dsimp only at *); omega) | (intro b h1 h2 h3; exfalso; have h4 := h3.2; (try dsimp only at *); omega) | (intro h1; exfalso; have h4 := h1.2; (try dsimp only at *); omega) | (intro x h1 h2; exfalso; have h4 := h2.2; (try dsimp only at *); omega) | (intro x h1 h2; exact ⟨_, rfl, h2⟩) | (intro x h1 h2; have h4 := h2.1; have h5 := h2.2; exfalso; omega) | (intro x h1 h2; exact h2.1) | (intro x h1 h2; rcases h2.1 with h3 | h3; exact h3; exfalso; omega) | (intro x h1 h2; rcases h2 with h3 | h3; exact h3; exfalso; omega))
        refine WL.loadB Tryd.isAgg26 hb8 rfl rfl rfl (?_)
        refine WL.nil ?_
        exact WX.one ⟨rfl, by first | exact Chg.refl _ _ | assumption⟩
      refine DQ.done (fun hd_4 => ?_)
      refine DL.step [(24, _), (26, _), (28, _)] rfl ⟨rfl, rfl, rfl, trivial⟩ rfl (fun wq_13 kq_13 => ?_)
      have zs_kq_13 := kq_13.size
      replace hw := hw.pure kq_13
      replace hB := hB.pure kq_13
      replace hI := hI.pure kq_13
      replace hb8 := hb8.pure kq_13
      replace hd_4 := hd_4.pure kq_13
      refine WL.mput (v := x.2) plOk Tryd.underlying83 hI.map rfl (show _ = some (kpl x.1) from rfl) (show _ = some (vsl x.2) from rfl) ?_
      intro w9 z9 hM9 k9
      have hI9 := hI.putMap hM9 k9 (fun p hp => by
        rcases mput_mem hp with h3 | h3
        ·
          exact .inl ⟨p, h3, rfl⟩
        ·
          subst h3
          exact .inr ⟨x, List.mem_of_getElem? hx, rfl⟩)
      rw [← puts_yes (kp := fun _ => true) hx rfl] at hI9
      have zs_k9 := k9.size
      replace hw := hw.chg k9 (by first | (intro x h1 h2; exact h2) | (intro x h0 h1 h2; exact hS x h1 h2) | (intro x h0 h1 h2; have h3 : _ = _ := h2; subst h3; exact hSR h1.1) | (intro x h1 h2; have h3 : _ = _ := h2; subst h3; assumption) | (intro x h1 h2; have h3 : _ = _ := h2; exfalso; omega) | (intro b h1 h2 h3; have h4 : _ = _ := h3; (try dsimp only at h2); exfalso; omega) | (intro h1; have h2 : _ = _ := h1; exfalso; omega) | (intro h1; have h2 : _ ≤ _ := h1; exfalso; omega) | (intros; exfalso; (try dsimp only at *); omega) | (intro b h1 h2 h3; exfalso; have h4 := h3.2; (try dsimp only at *); omega) | (intro h1; exfalso; have h4 := h1.2; (try dsimp only at *); omega) | (intro x h1 h2; exfalso; have h4 := h2.2; (try dsimp only at *); omega) | (intro x h1 h2; exact ⟨_, rfl, h2⟩) | (intro x h1 h2; have h4 := h2.1; have h5 := h2.2; exfalso; omega) | (intro x h1 h2; exact h2.1) | (intro x h1 h2; rcases h2.1 with h3 | h3; exact h3; exfalso; omega) | (intro x h1 h2; rcases h2 with h3 | h3; exact h3; exfalso; omega))
      replace hB := hB.chg k9 (by first | (intro x h1 h2; exact h2) | (intro x h0 h1 h2; exact hS x h1 h2) | (intro x h0 h1 h2; have h3 : _ = _ := h2; subst h3; exact hSR h1.1) | (intro x h1 h2; have h3 : _ = _ := h2; subst h3; assumption) | (intro x h1 h2; have h3 : _ = _ := h2; exfalso; omega) | (intro b h1 h2 h3; have h4 : _ = _ := h3; (try dsimp only at h2); exfalso; omega) | (intro h1; have h2 : _ = _ := h1; exfalso; omega) | (intro h1; have h2 : _ ≤ _ := h1; exfalso; omega) | (intros; exfalso; (try dsimp only at *); omega) | (intro b h1 h2 h3; exfalso; have h4 := h3.2; (try dsimp only at *); omega) | (intro h1; exfalso; have h4 := h1.2; (try dsimp only at *); omega) | (intro x h1 h2; exfalso; have h4 := h2.2; (try dsimp only at *); omega) | (intro x h1 h2; exact ⟨_, rfl, h2⟩) | (intro x h1 h2; have h4 := h2.1; have h5 := h2.2; exfalso; omega) | (intro x h1 h2; exact h2.1) | (intro x h1 h2; rcases h2.1 with h3 | h3; exact h3; exfalso; omega) | (intro x h1 h2; rcases h2 with h3 | h3; exact h3; exfalso; omega))
      replace hb8 := hb8.chg k9 (by first | (intro x h1 h2; exact h2) | (intro x h0 h1 h2; exact hS x h1 h2) | (intro x h0 h1 h2; have h3 : _ = _ := h2; subst h3; exact hSR h1.1) | (intro x h1 h2; have h3 : _ = _ := h2; subst h3; assumption) | (intro x h1 h2; have h3 : _ = _ := h2; exfalso; omega) | (intro b h1 h2 h3; have h4 : _ = _ := h3; (try dsimp only at h2); exfalso; omega) | (intro h1; have h2 : _ = _ := h1; exfalso; omega) | (intro h1; have h2 : _ ≤ _ := h1; exfalso; omega) | (intros; exfalso; (try dsimp only at *); omega) | (intro b h1 h2 h3; exfalso; have h4 := h3.2; (try dsimp only at *); omega) | (intro h1; exfalso; have h4 := h1.2; (try dsimp only at *); omega) | (intro x h1 h2; exfalso; have h4 := h2.2; (try dsimp only at *); omega) | (intro x h1 h2; exact ⟨_, rfl, h2⟩) | (intro x h1 h2; have h4 := h2.1; have h5 := h2.2; exfalso; omega) | (intro x h1 h2; exact h2.1) | (intro x h1 h2; rcases h2.1 with h3 | h3; exact h3; exfalso; omega) | (intro x h1 h2; rcases h2 with h3 | h3; exact h3; exfalso; omega))
      replace hd_4 := hd_4.chg k9 (by first | (intro x h1 h2; exact h2) | (intro x h0 h1 h2; exact hS x h1 h2) | (intro x h0 h1 h2; have h3 : _ = _ := h2; subst h3; exact hSR h1.1) | (intro x h1 h2; have h3 : _ = _ := h2; subst h3; assumption) | (intro x h1 h2; have h3 : _ = _ := h2; exfalso; omega) | (intro b h1 h2 h3; have h4 : _ = _ := h3; (try dsimp only at h2); exfalso; omega) | (intro h1; have h2 : _ = _ := h1; exfalso; omega) | (intro h1; have h2 : _ ≤ _ := h1; exfalso; omega) | (intros; exfalso; (try dsimp only at *); omega) | (intro b h1 h2 h3; exfalso; have h4 := h3.2; (try dsimp only at *); omega) | (intro h1; exfalso; have h4 := h1.2; (try dsimp only at *); omega) | (intro x h1 h2; exfalso; have h4 := h2.2; (try dsimp only at *); omega) | (intro x h1 h2; exact ⟨_, rfl, h2⟩) | (intro x h1 h2; have h4 := h2.1; have h5 := h2.2; exfalso; omega) | (intro x h1 h2; exact h2.1) | (intro x h1 h2; rcases h2.1 with h3 | h3; exact h3; exfalso; omega) | (intro x h1 h2; rcases h2 with h3 | h3; exact h3; exfalso; omega))
      refine WL.nil ?_
      refine WX.one0 (v := undef) ⟨hd_4, ?_⟩
      refine DL.done (fun we_14 ke_14 => ?_)
      have zs_ke_14 := ke_14.size
      replace hw := hw.pure ke_14
      replace hB := hB.pure ke_14
      replace hb8 := hb8.pure ke_14
      replace hd_4 := hd_4.pure ke_14
      replace hI9 := hI9.pure ke_14
      refine WX.block_normal (WX.then_normal (WC.region (WL.add64 rfl rfl (by first | omega | (constructor <;> omega)) rfl (WL.move rfl rfl (WL.nil (?_))))))
      exact WX.loop_next (i + 1) ⟨rfl, rfl, rfl, rfl, trivial⟩ ⟨by omega, hB, hI9, hw, by omega⟩ (by omega)
    ·
      refine WL.nil (WX.then_normal (WC.seq (WC.cond_false rfl (WC.exit (WX.then_exit (WX.then_exit (WX.block_here (?_))))))))
      refine WX.then_normal (WC.seq (WC.region (WL.move rfl rfl (WL.nilCheck rfl rfl (WL.fieldAddr (fld_86_4) rfl rfl (?_))))))
      refine WL.store Tryd.sizeOf84 hB rfl rfl rfl rfl ?_
      intro w_1 hs_1 hn_1 k_1
      have zs_k_1 := k_1.size
      replace hw := hw.chg k_1 (by first | (intro x h1 h2; exact h2) | (intro x h0 h1 h2; exact hS x h1 h2) | (intro x h0 h1 h2; have h3 : _ = _ := h2; subst h3; exact hSR h1.1) | (intro x h1 h2; have h3 : _ = _ := h2; subst h3; assumption) | (intro x h1 h2; have h3 : _ = _ := h2; exfalso; omega) | (intro b h1 h2 h3; have h4 : _ = _ := h3; (try dsimp only at h2); exfalso; omega) | (intro h1; have h2 : _ = _ := h1; exfalso; omega) | (intro h1; have h2 : _ ≤ _ := h1; exfalso; omega) | (intros; exfalso; (try dsimp only at *); omega) | (intro b h1 h2 h3; exfalso; have h4 := h3.2; (try dsimp only at *); omega) | (intro h1; exfalso; have h4 := h1.2; (try dsimp only at *); omega) | (intro x h1 h2; exfalso; have h4 := h2.2; (try dsimp only at *); omega) | (intro x h1 h2; exact ⟨_, rfl, h2⟩) | (intro x h1 h2; have h4 := h2.1; have h5 := h2.2; exfalso; omega) | (intro x h1 h2; exact h2.1) | (intro x h1 h2; rcases h2.1 with h3 | h3; exact h3; exfalso; omega) | (intro x h1 h2; rcases h2 with h3 | h3; exact h3; exfalso; omega))
      replace hI := hI.chg k_1 (by first | (intro x h1 h2; exact h2) | (intro x h0 h1 h2; exact hS x h1 h2) | (intro x h0 h1 h2; have h3 : _ = _ := h2; subst h3; exact hSR h1.1) | (intro x h1 h2; have h3 : _ = _ := h2; subst h3; assumption) | (intro x h1 h2; have h3 : _ = _ := h2; exfalso; omega) | (intro b h1 h2 h3; have h4 : _ = _ := h3; (try dsimp only at h2); exfalso; omega) | (intro h1; have h2 : _ = _ := h1; exfalso; omega) | (intro h1; have h2 : _ ≤ _ := h1; exfalso; omega) | (intros; exfalso; (try dsimp only at *); omega) | (intro b h1 h2 h3; exfalso; have h4 := h3.2; (try dsimp only at *); omega) | (intro h1; exfalso; have h4 := h1.2; (try dsimp only at *); omega) | (intro x h1 h2; exfalso; have h4 := h2.2; (try dsimp only at *); omega) | (intro x h1 h2; exact ⟨_, rfl, h2⟩) | (intro x h1 h2; have h4 := h2.1; have h5 := h2.2; exfalso; omega) | (intro x h1 h2; exact h2.1) | (intro x h1 h2; rcases h2.1 with h3 | h3; exact h3; exfalso; omega) | (intro x h1 h2; rcases h2 with h3 | h3; exact h3; exfalso; omega))
      replace hB := hn_1
      refine WL.nil (WX.then_normal (WC.seq (WC.region (WL.assign rfl rfl (WL.nil (WX.then_normal (WC.ret (?_))))))))
      refine WX.ret1 (.inl rfl) Tryd.results18 rfl ?_
      first
        | (have hh : offS s = true := ho
           refine ⟨_, rfl, rfl, ?_, hw⟩
           rw [show flushS s = spendS s from by simp [flushS, ho]]
           exact h2)
        | (have hil : i = ws.length := by omega
           subst hil
           rw [spendS_waits] at hws
           rw [spendS_last] at hls
           refine ⟨_, rfl, rfl, ⟨aR, hfok, m, ga, gc, none, 0, [], puts (fun _ => true) ws ls ws.length, Eq.mp (congrArg (Blk _ R 86) ?_) hB, ?_, ?_, ?_⟩, hw⟩
           ·
             simp [flushS, ho]
           ·
             simp only [flushS, ho]
             exact (hI.mono (fun x hx => hx.1.1)).noWaits
           ·
             simp only [flushS, ho]
             rw [xsm_puts, hls, hws, xsm_len]
             rfl
           ·
             simp [flushS, ho, xsm])
  ·
    refine WL.not rfl rfl (WL.assign rfl rfl (WL.nil (WX.then_normal (WC.cond_true rfl (WC.seq (WC.region (WL.assign rfl rfl (?_))))))))
    refine WL.nil (WX.then_normal (WC.ret (WX.block_ret (WX.then_ret (?_)))))
    refine WX.ret1 (.inl rfl) Tryd.results18 rfl ?_
    first
      | (have hh : offS s = true := ho
         refine ⟨_, rfl, rfl, ?_, hw⟩
         rw [show flushS s = spendS s from by simp [flushS, ho]]
         exact h2)
      | (have hil : i = ws.length := by omega
         subst hil
         rw [spendS_waits] at hws
         rw [spendS_last] at hls
         refine ⟨_, rfl, rfl, ⟨aR, hfok, m, ga, gc, none, 0, [], puts (fun _ => true) ws ls ws.length, Eq.mp (congrArg (Blk _ R 86) ?_) hB, ?_, ?_, ?_⟩, hw⟩
         ·
           simp [flushS, ho]
         ·
           simp only [flushS, ho]
           exact (hI.mono (fun x hx => hx.1.1)).noWaits
         ·
           simp only [flushS, ho]
           rw [xsm_puts, hls, hws, xsm_len]
           rfl
         ·
           simp [flushS, ho, xsm])
end Go.Proofs.YtjeldcjchipdgaaDoor
namespace Go.Proofs.YtjeldcjchipdgaaDoor
open Go.RowKit Go.HL
set_option maxRecDepth 100000

/-! the power goes off later -/
/-! the power goes off and comes back -/
/-! a new rack -/
def newS (dn sn : Nat) : RA := ⟨dn, sn, [], List.replicate dn false, [], false, false, 0⟩
theorem newS_ok {dn sn : Nat} (hd : 1 ≤ dn ∧ dn ≤ 16) (hs : 1 ≤ sn ∧ sn ≤ 2000) : (newS dn sn).ok :=
  ⟨hd, hs, by simp [newS], fun p hp => by simp [newS] at hp, fun p hp => by simp [newS] at hp, ⟨fun h => by simp [newS] at h, by simp [newS], by simp [newS]⟩, by simp [newS]⟩
theorem New_calls (w : World) {dn sn : Nat} (hd : 1 ≤ dn ∧ dn ≤ 16) (hs : 1 ≤ sn ∧ sn ≤ 2000) :
    Calls Tryd.prog 15 [vi dn, vi sn].toArray w (Ret fun v w' => (∃ R, v = .tuple #[ptr R, vi 0] ∧ RK (w.heap.size ≤ ·) w' R (newS dn sn)) ∧ Chg Nob w w') := by
  have hw := Chg.refl Nob w
  refine Calls.of_WC Tryd.func15 rfl Tryd.ntmps15 (by simp) ?_
  refine WC.seq (WC.region (WL.assign rfl rfl (WL.assign rfl rfl (WL.nil (WX.then_normal (WC.seq (WC.seq (?_))))))))
  refine WC.region (WL.move rfl rfl (?_))
  refine WL.lss? rfl rfl rfl (fun h7 => ?_) (fun h7 => ?_)
  ·
    refine WL.move rfl rfl (WL.pass rfl rfl rfl rfl (WL.pass rfl rfl rfl rfl (WL.pickT rfl rfl rfl (WL.move rfl rfl (WL.pass rfl rfl rfl rfl (WL.pass rfl rfl rfl rfl (WL.pickT rfl rfl rfl (?_))))))))
    refine WL.move rfl rfl (WL.pass rfl rfl rfl rfl (WL.pass rfl rfl rfl rfl (WL.pickT rfl rfl rfl (WL.nil (WX.then_normal (WC.cond_true rfl (WC.seq (?_))))))))
    refine WC.region (WL.assign rfl rfl (WL.assign rfl rfl (WL.nil (WX.then_normal (WC.ret (WX.then_ret (?_)))))))
    refine WX.ret2 (.inl rfl) Tryd.results15 rfl rfl ?_
    first
      | (exfalso; omega)
      | (refine ⟨_, rfl, ⟨_, rfl, ⟨by omega, newS_ok hd hs, m, _, _, none, 0, [], [], hb_1, ⟨by omega, hM, hm.mono (fun x hx => by omega), Row.nil _ _ _ _, fun p hp => by simp at hp, fun p hp => by simp at hp⟩, rfl, rfl⟩⟩, hw⟩)
  ·
    refine WL.move rfl rfl (WL.want rfl rfl rfl (WL.move rfl rfl (WL.want rfl rfl rfl (?_))))
    refine WL.gtr? rfl rfl rfl (fun h10 => ?_) (fun h10 => ?_)
    ·
      refine WL.pickF rfl rfl rfl (WL.move rfl rfl (WL.pass rfl rfl rfl rfl (WL.pass rfl rfl rfl rfl (WL.pickT rfl rfl rfl (WL.move rfl rfl (WL.pass rfl rfl rfl rfl (WL.pass rfl rfl rfl rfl (?_))))))))
      refine WL.pickT rfl rfl rfl (WL.nil (WX.then_normal (WC.cond_true rfl (WC.seq (WC.region (WL.assign rfl rfl (WL.assign rfl rfl (?_))))))))
      refine WL.nil (WX.then_normal (WC.ret (WX.then_ret (?_))))
      refine WX.ret2 (.inl rfl) Tryd.results15 rfl rfl ?_
      first
        | (exfalso; omega)
        | (refine ⟨_, rfl, ⟨_, rfl, ⟨by omega, newS_ok hd hs, m, _, _, none, 0, [], [], hb_1, ⟨by omega, hM, hm.mono (fun x hx => by omega), Row.nil _ _ _ _, fun p hp => by simp at hp, fun p hp => by simp at hp⟩, rfl, rfl⟩⟩, hw⟩)
    ·
      refine WL.pickF rfl rfl rfl (WL.move rfl rfl (WL.want rfl rfl rfl (WL.move rfl rfl (WL.want rfl rfl rfl (?_)))))
      refine WL.lss? rfl rfl rfl (fun h14 => ?_) (fun h14 => ?_)
      ·
        refine WL.pickF rfl rfl rfl (WL.move rfl rfl (WL.pass rfl rfl rfl rfl (WL.pass rfl rfl rfl rfl (WL.pickT rfl rfl rfl (WL.nil (WX.then_normal (WC.cond_true rfl (?_))))))))
        refine WC.seq (WC.region (WL.assign rfl rfl (WL.assign rfl rfl (WL.nil (WX.then_normal (WC.ret (WX.then_ret (?_))))))))
        refine WX.ret2 (.inl rfl) Tryd.results15 rfl rfl ?_
        first
          | (exfalso; omega)
          | (refine ⟨_, rfl, ⟨_, rfl, ⟨by omega, newS_ok hd hs, m, _, _, none, 0, [], [], hb_1, ⟨by omega, hM, hm.mono (fun x hx => by omega), Row.nil _ _ _ _, fun p hp => by simp at hp, fun p hp => by simp at hp⟩, rfl, rfl⟩⟩, hw⟩)
      ·
        refine WL.pickF rfl rfl rfl (WL.move rfl rfl (WL.want rfl rfl rfl (WL.move rfl rfl (WL.want rfl rfl rfl (?_)))))
        refine WL.gtr? rfl rfl rfl (fun h18 => ?_) (fun h18 => ?_)
        ·
          refine WL.pickF rfl rfl rfl (WL.nil (WX.then_normal (WC.cond_true rfl (WC.seq (WC.region (WL.assign rfl rfl (WL.assign rfl rfl (?_))))))))
          refine WL.nil (WX.then_normal (WC.ret (WX.then_ret (?_))))
          refine WX.ret2 (.inl rfl) Tryd.results15 rfl rfl ?_
          first
            | (exfalso; omega)
            | (refine ⟨_, rfl, ⟨_, rfl, ⟨by omega, newS_ok hd hs, m, _, _, none, 0, [], [], hb_1, ⟨by omega, hM, hm.mono (fun x hx => by omega), Row.nil _ _ _ _, fun p hp => by simp at hp, fun p hp => by simp at hp⟩, rfl, rfl⟩⟩, hw⟩)
        ·
          refine WL.pickF rfl rfl rfl (WL.nil (WX.then_normal (WC.cond_false rfl (WC.skip (WX.then_normal (WC.seq (WC.region (?_))))))))
          refine WL.move rfl rfl (WL.move rfl rfl (?_))
          refine WL.makeMap (kv := kpl) (vv := vsl) rfl ?_
          intro m w1 em lm hM k1
          have zs_k1 := k1.size
          replace hw := hw.pure k1
          refine WL.move rfl rfl (?_)
          refine WL.make (e := ebool) false dn dn Tryd.underlying67 info_4 rfl rfl rfl ⟨rfl, rfl, Nat.le_refl _⟩ (by constructor <;> omega) rfl ?_
          intro g3 w3 hm k3 z3 eg3
          have zs_k3 := k3.size
          replace hw := hw.pure k3
          replace hM := hM.pure k3
          refine WL.bld rfl (bld_86_0_1_2_3 _ _ _ _ _ _) rfl (?_)
          refine WL.box rfl rfl ?_
          intro g_1 w_1 hge_1 hlt_1 hb_1 k_1
          have zs_k_1 := k_1.size
          replace hw := hw.pure k_1
          replace hM := hM.pure k_1
          replace hm := hm.pure k_1
          refine WL.assign rfl rfl (WL.assign rfl rfl (WL.nil (WX.then_normal (WC.ret (?_)))))
          refine WX.ret2 (.inl rfl) Tryd.results15 rfl rfl ?_
          first
            | (exfalso; omega)
            | (refine ⟨_, rfl, ⟨_, rfl, ⟨by omega, newS_ok hd hs, m, _, _, none, 0, [], [], hb_1, ⟨by omega, hM, hm.mono (fun x hx => by omega), Row.nil _ _ _ _, fun p hp => by simp at hp, fun p hp => by simp at hp⟩, rfl, rfl⟩⟩, hw⟩)
end Go.Proofs.YtjeldcjchipdgaaDoor
namespace Go.Proofs.YtjeldcjchipdgaaDoor
open Go.RowKit Go.HL
set_option maxRecDepth 100000

/-! what the calls do to what is read -/
def zeros : List UInt8 := List.replicate 128 0
def lastS (s : RA) (p : Pl) : List UInt8 := (mget s.last p).getD zeros
theorem heldS_eq (s : RA) (p : Pl) : heldS s p = match newV s.waits p with | some b => b | none => lastS s p := rfl
theorem newV_snoc {V : Type} (ws : List (Pl × V)) (p q : Pl) (b : V) : newV (ws ++ [(p, b)]) q = if q = p then some b else newV ws q := by
  unfold newV
  rw [List.reverse_append]
  rfl
theorem mget_puts {V : Type} {kp : Nat → Bool} {ws l : List (Pl × V)} {i : Nat} {x : Pl × V} (hx : ws[i]? = some x) (q : Pl) : mget (puts kp ws l (i + 1)) q = if kp i = true ∧ q = x.1 then some x.2 else mget (puts kp ws l i) q := by
  cases hk : kp i
  · rw [puts_not hx hk]
    simp
  · rw [puts_yes hx hk, mget_put]
    simp
theorem mget_puts_all {V : Type} (ws l : List (Pl × V)) (q : Pl) : ∀ i, i ≤ ws.length → mget (puts (fun _ => true) ws l i) q = match newV (ws.take i) q with | some v => some v | none => mget l q := by
  intro i
  induction i with
  | zero => intro _; rfl
  | succ i ih =>
    intro hi
    have hx : ws[i]? = some ws[i] := List.getElem?_eq_getElem (by omega)
    rw [mget_puts hx, ih (by omega), List.take_add_one, hx]
    show _ = match newV (ws.take i ++ [(ws[i].1, ws[i].2)]) q with | some v => some v | none => mget l q
    rw [newV_snoc]
    by_cases h : q = ws[i].1 <;> simp [h]
structure Up (s : RA) : Prop where
  off : s.off = false
  armed : s.armed = false
theorem Up.offS {s : RA} (h : Up s) : offS s = false := by simp [Go.Proofs.YtjeldcjchipdgaaDoor.offS, h.off, h.armed]
theorem Up.spend {s : RA} (h : Up s) : spendS s = s := by
  have h1 := h.offS
  have h2 := h.armed
  unfold spendS
  rw [h1]
  obtain ⟨dn, sn, last, gone, waits, off, armed, left⟩ := s
  simp only at h2
  subst h2
  rfl
/-- one more that waits -/
def addS (s : RA) (p : Pl) (b : List UInt8) : RA := { s with waits := s.waits ++ [(p, b)] }
theorem Up.write {s : RA} (h : Up s) {d a : Int} {b : List UInt8} (hi : inS s d a) (hg : goneS s d = false) (hb : b.length = 128) : writeE s d a b.length = 0 ∧ writeS s d a b = addS s (d, a) b := by
  have h0 : writeE s d a b.length = 0 := writeE_0.2 ⟨hi, hb, hg, h.offS⟩
  refine ⟨h0, ?_⟩
  rw [writeS, if_pos h0, h.spend]
  rfl
theorem addS_held (s : RA) (p q : Pl) (b : List UInt8) : heldS (addS s p b) q = if q = p then b else heldS s q := by
  rw [heldS_eq, heldS_eq, show (addS s p b).waits = s.waits ++ [(p, b)] from rfl, newV_snoc]
  by_cases h : q = p <;> simp [h]
  rfl
theorem addS_up {s : RA} (h : Up s) (p : Pl) (b : List UInt8) : Up (addS s p b) := ⟨h.off, h.armed⟩
/-- all lasts -/
def allS (s : RA) : RA := { s with last := puts (fun _ => true) s.waits s.last s.waits.length, waits := [] }
theorem Up.flush {s : RA} (h : Up s) : flushS s = allS s := by
  unfold flushS
  rw [h.offS, h.spend]
  rfl
theorem allS_up {s : RA} (h : Up s) : Up (allS s) := ⟨h.off, h.armed⟩
theorem allS_last (s : RA) (q : Pl) : lastS (allS s) q = heldS s q := by
  rw [heldS_eq, lastS, show (allS s).last = puts (fun _ => true) s.waits s.last s.waits.length from rfl, mget_puts_all s.waits s.last q _ (Nat.le_refl _), List.take_length]
  cases newV s.waits q <;> rfl
theorem allS_held (s : RA) (q : Pl) : heldS (allS s) q = heldS s q := by
  rw [← allS_last s q]
  rfl
theorem newS_up (d n : Nat) : Up (newS d n) := ⟨rfl, rfl⟩
theorem newS_gone (d n : Nat) (x : Int) : goneS (newS d n) x = false := by
  rw [goneS, show (newS d n).gone = List.replicate d false from rfl, List.getD_eq_getElem?_getD, List.getElem?_replicate]
  split <;> rfl
theorem newS_held (d n : Nat) (q : Pl) : heldS (newS d n) q = zeros := rfl
theorem RK.ne {A S : Nat → Prop} {w : World} {R : Nat} {s : RA} {ao : Option Addr} {c : Nat} {xs : List UInt8} (h : RK A w R s) (hq : Row S w 5 eb ao c xs) : Row (fun x => S x ∧ x ≠ R) w 5 eb ao c xs := by
  obtain ⟨m, ga, gc, wa, wc, ws, ls, hB, -⟩ := h.ex
  have hk := hB.kb
  refine hq.kb.mono ?_
  rintro x ⟨h1, h2⟩
  refine ⟨h1, fun e => ?_⟩
  rw [e, hk] at h2
  exact absurd h2 (by decide)
theorem new_all (dn sn : Nat) (hd : 1 ≤ dn ∧ dn ≤ 16) (hs : 1 ≤ sn ∧ sn ≤ 2000) : ∃ s : RA, s.dn = dn ∧ s.sn = sn ∧ Up s ∧ (∀ d, goneS s d = false) ∧ (∀ q, heldS s q = zeros) ∧ (∀ q, lastS s q = zeros) ∧ s.waits = [] ∧ ∀ w, Calls Tryd.prog 15 [vi dn, vi sn].toArray w (Ret fun v w' => (∃ R, v = .tuple #[ptr R, vi 0] ∧ RK (w.heap.size ≤ ·) w' R s) ∧ Chg Nob w w') :=
  ⟨newS dn sn, rfl, rfl, newS_up dn sn, newS_gone dn sn, newS_held dn sn, fun _ => rfl, rfl, fun w => New_calls w hd hs⟩
end Go.Proofs.YtjeldcjchipdgaaDoor
namespace Go.Proofs.YtjeldcjchipdgaaDoor
open Go.RowKit Go.HL
set_option maxRecDepth 100000

/-! calls of a rack that has power -/
theorem RK.grow {A : Nat → Prop} {w w' : World} {R : Nat} {s : RA} (h : RK (fun x => A x ∨ w.heap.size ≤ x) w' R s) (hA : ∀ x, w.heap.size ≤ x → A x) : RK A w' R s := h.mono (fun x hx => hx.elim (fun h => h) (hA x))
theorem FlushU {A : Nat → Prop} {w : World} {R : Nat} {s : RA} (h : RK A w R s) (hu : Up s) :
    Calls Tryd.prog 18 [ptr R].toArray w (Ret fun v w' => v = vi 0 ∧ RK A w' R (allS s) ∧ Chg A w w') := by
  refine (Flush_calls h).mono ?_
  rintro e w' ⟨v, rfl, rfl, hR, k⟩
  rw [hu.flush] at hR
  exact ⟨_, rfl, by rw [hu.offS]; rfl, hR, k⟩
end Go.Proofs.YtjeldcjchipdgaaDoor
namespace Go.Proofs.YtjeldcjchipdgaaDoor
open Go.RowKit Go.HL
set_option maxRecDepth 100000

/-! a byte is another one -/
theorem RI.putMapN {S : Nat → Prop} {w w' : World} {m : Nat} {ga : Option Addr} {gc : Nat} {wa : Option Addr} {wc : Nat} {gl : List Bool} {ws ls ls2 : List (Pl × Rw)} (h : RI S w m ga gc wa wc gl ws ls) (hM : Mp kpl vsl w' m ls2) (k : Chg (· = m) w w') (hn : ∀ p ∈ ls2, (∃ q ∈ ls, q.2 = p.2) ∨ Row S w 5 eb p.2.ao p.2.cap p.2.xs) : RI S w' m ga gc wa wc gl ws ls2 := by
  have hk := h.map.kb
  have hd : ∀ T b, b < w.heap.size → b = m → kb w b ≠ some (some T) := by
    rintro T b _ rfl
    rw [hk]
    simp
  have hb : ∀ p ∈ ls2, Row S w 5 eb p.2.ao p.2.cap p.2.xs := fun p hp => by
    rcases hn p hp with ⟨q, hq, e⟩ | h1
    · rw [← e]; exact h.byl q hq
    · exact h1
  exact ⟨h.sm, hM, h.gone.chgK k (hd _), h.waits.chgK k (hd _), fun p hp => (hb p hp).chgK k (hd _), fun p hp => (h.byw p hp).chgK k (hd _)⟩
def rotX (n : Int) : UInt8 := B8 (1 + n / 128 % 255)
def rotB (b : List UInt8) (n : Int) : List UInt8 := b.set (n % 128).toNat (b.getD (n % 128).toNat 0 ^^^ rotX n)
theorem rotB_len (b : List UInt8) (n : Int) : (rotB b n).length = b.length := List.length_set ..
def rotS (s : RA) (p : Pl) (n : Int) : RA := match newV s.waits p with
  | some _ => { s with waits := putW s.waits p (rotB (heldS s p) n) }
  | none => { s with last := mput s.last p (rotB (heldS s p) n) }
def rotE (s : RA) (d a n : Int) : Int := if ¬ inS s d a ∨ n < 0 then 1 else if goneS s d = true then 3 else 0
theorem putW_mem {V : Type} {ws : List (Pl × V)} {p : Pl} {v : V} {x : Pl × V} (h : x ∈ putW ws p v) : x ∈ ws ∨ x = (p, v) := by
  rcases mput_mem (List.mem_reverse.1 h) with h1 | h1
  · exact .inl (List.mem_reverse.1 h1)
  · exact .inr h1
theorem rotS_ok {s : RA} (h : s.ok) (p : Pl) (n : Int) : (rotS s p n).ok := by
  have hl : (rotB (heldS s p) n).length = 128 := by rw [rotB_len]; exact heldS_len h p
  unfold rotS
  split
  · refine ⟨h.dn, h.sn, h.gl, h.ll, fun q hq => ?_, h.lf, h.nd⟩
    rcases putW_mem hq with h1 | h1
    · exact h.lw q h1
    · rw [h1]; exact hl
  · refine ⟨h.dn, h.sn, h.gl, fun q hq => ?_, h.lw, h.lf, mput_nodup h.nd⟩
    rcases mput_mem hq with h1 | h1
    · exact h.ll q h1
    · rw [h1]; exact hl
theorem splice3 (A D : List Value) (a b c v : Value) : (A ++ ([a, b, c] ++ D)).take (A.length + 2) ++ [v] ++ (A ++ ([a, b, c] ++ D)).drop (A.length + 2 + 1) = A ++ ([a, b, v] ++ D) := by
  rw [List.take_append, List.drop_append, List.take_of_length_le (l := A) (Nat.le_add_right _ _), List.drop_eq_nil_of_le (show A.length ≤ A.length + 2 + 1 from by omega)]
  rw [show A.length + 2 - A.length = 2 from by omega, show A.length + 2 + 1 - A.length = 3 from by omega]
  simp
theorem wr_set {ws : List (Pl × Rw)} {j : Nat} {x : Pl × Rw} (hx : ws[j]? = some x) (r : Rw) : (ewr.all ws).take (0 + j * 3 + 2) ++ [vsl r] ++ (ewr.all ws).drop (0 + j * 3 + 2 + 1) = ewr.all (ws.set j (x.1, r)) := by
  have hj := (List.getElem?_eq_some_iff.1 hx).1
  have hl : (ewr.all (ws.take j)).length = j * 3 := by
    rw [Enc.all_len, List.length_take, Nat.min_eq_left (Nat.le_of_lt hj)]
    rfl
  have e1 : ewr.all ws = ewr.all (ws.take j) ++ ([vi x.1.1, vi x.1.2, vsl x.2] ++ ewr.all (ws.drop (j + 1))) := by
    conv => lhs; rw [split_at hx]
    rw [Enc.all_append, Enc.all_append, List.append_assoc]
    rfl
  have e2 : ewr.all (ws.set j (x.1, r)) = ewr.all (ws.take j) ++ ([vi x.1.1, vi x.1.2, vsl r] ++ ewr.all (ws.drop (j + 1))) := by
    rw [List.set_eq_take_append_cons_drop, if_pos hj, Enc.all_append]
    rfl
  rw [e1, e2, Nat.zero_add, ← hl]
  exact splice3 _ _ _ _ _ _
set_option maxHeartbeats 1000000 in
theorem Rot_calls {A : Nat → Prop} {w : World} {R : Nat} {s : RA} (h : RK A w R s) (d a n : Int) (hn : n ≤ 9223372036854775807) :
    Calls Tryd.prog 19 [ptr R, vi d, vi a, vi n].toArray w (Ret fun v w' => v = vi (rotE s d a n) ∧ RK (fun x => A x ∨ w.heap.size ≤ x) w' R (if rotE s d a n = 0 then rotS s (d, a) n else s) ∧ Chg A w w') := by
  have aR := h.aR
  have hok := h.ok
  have hrok := rotS_ok h.ok (d, a) n
  replace h := h.old
  have hw := Chg.refl A w
  refine Calls.of_WC Tryd.func19 rfl Tryd.ntmps19 (by simp) ?_
  refine WC.seq (WC.region (WL.assign rfl rfl (WL.nil (WX.then_normal (WC.seq (WC.block (WC.seq (?_))))))))
  refine WC.region (WL.move rfl rfl (WL.move rfl rfl (WL.move rfl rfl (?_))))
  refine WL.call eg_46 rfl rfl (in_calls h d a) ?_
  rintro v w1 ⟨rfl, k1⟩
  have zs_k1 := k1.size
  replace h := h.pure k1
  replace hw := hw.pure k1
  by_cases h12 : inS s d a
  ·
    rw [show decide (0 ≤ d ∧ d < (s.dn : Int) ∧ 0 ≤ a ∧ a < (s.sn : Int)) = true from decide_eq_true h12]
    refine WL.not rfl rfl (WL.move rfl rfl (WL.want rfl rfl rfl (WL.move rfl rfl (WL.want rfl rfl rfl (?_)))))
    refine WL.lss? rfl rfl rfl (fun h20 => ?_) (fun h20 => ?_)
    ·
      refine WL.pickF rfl rfl rfl (WL.assign rfl rfl (WL.nil (WX.then_normal (WC.cond_true rfl (WC.seq (WC.region (WL.assign rfl rfl (?_))))))))
      refine WL.nil (WX.then_normal (WC.ret (WX.block_ret (WX.then_ret (?_)))))
      refine WX.ret1 (.inl rfl) Tryd.results19 rfl ?_
      first
        | (have hh : ¬ inS s d a := h12
           have e0 : rotE s d a n = 1 := by simp [rotE, hh]
           rw [e0]
           exact ⟨_, rfl, rfl, h.mono (fun x hx => .inl hx.1), hw⟩)
        | (have hh : n < 0 := h20
           have e0 : rotE s d a n = 1 := by simp [rotE, hh]
           rw [e0]
           exact ⟨_, rfl, rfl, h.mono (fun x hx => .inl hx.1), hw⟩)
        | (have hh : goneS s d = true := hg
           have hh2 : ¬ n < 0 := by omega
           have e0 : rotE s d a n = 3 := by simp [rotE, hh, hh2, h12]
           rw [e0]
           exact ⟨_, rfl, rfl, h.mono (fun x hx => .inl hx.1), hw⟩)
        | (have hh : ws[j]? = some x := hxj
           have hh2 : ¬ n < 0 := by omega
           have e0 : rotE s d a n = 0 := by simp [rotE, hg, hh2, h12]
           rw [e0, if_pos rfl]
           have e1 : rotS s (d, a) n = { s with waits := putW s.waits (d, a) (rotB (heldS s (d, a)) n) } := by
             unfold rotS
             rw [hws, xsm_newV, newV_some hxj hxp hno]
             rfl
           rw [e1] at hrok ⊢
           refine ⟨_, rfl, rfl, ⟨.inl aR, hrok, m, ga, gc, _, wc, _, ls, Eq.mp (congrArg (Blk _ R 86) ?_) hB, hI8.mono (fun x hx => hx.1), hls, ?_⟩, hw⟩
           ·
             simp
           ·
             show putW s.waits (d, a) (rotB (heldS s (d, a)) n) = _
             rw [hws, ← hrb, hxp, ← putW_some hxj hxp hno, xsm_putW])
        | (have hh2 : ¬ n < 0 := by omega
           have e0 : rotE s d a n = 0 := by simp [rotE, hg, hh2, h12]
           rw [e0, if_pos rfl]
           have e1 : rotS s (d, a) n = { s with last := mput s.last (d, a) (rotB (heldS s (d, a)) n) } := by
             unfold rotS
             rw [hws, xsm_newV, newV_none hno]
             rfl
           rw [e1] at hrok ⊢
           refine ⟨_, rfl, rfl, ⟨.inl aR, hrok, m, ga, gc, _, wc, _, _, hB, hI9.mono (fun x hx => hx.1), ?_, hws⟩, hw⟩
           show mput s.last (d, a) (rotB (heldS s (d, a)) n) = _
           rw [hls, ← hrb, xsm_put])
    ·
      refine WL.pickF rfl rfl rfl (WL.assign rfl rfl (WL.nil (WX.then_normal (WC.cond_false rfl (WC.seq (WC.region (WL.move rfl rfl (?_))))))))
      refine WL.nilCheck rfl rfl (WL.fieldAddr (fld_86_3) rfl rfl (?_))
      obtain ⟨m, ga, gc, wa, wc, ws, ls, hB, hI, hls, hws⟩ := h.ex
      refine WL.loadB Tryd.isAgg67 hB rfl rfl rfl ?_
      refine WL.move rfl rfl (?_)
      have hgd := goneS_at h.ok (d := d) ⟨h12.1, h12.2.1⟩
      refine WL.indexT (e := ebool) Tryd.underlying67 Tryd.sizeOf4 hI.gone.rsl rfl rfl ⟨hgd, by have := h12.1; omega⟩ rfl ?_
      intro bb oo hcc
      refine WL.load Tryd.isAgg4 rfl (hcc 0 _ rfl) rfl ?_
      rcases hg : goneS s d with _ | _
      ·
        clear hB hI hls hws hcc
        refine WL.assign rfl rfl (WL.nil (WX.then_normal (WC.cond_false rfl (WC.skip (WX.block_normal (WX.then_normal (WC.seq (?_))))))))
        refine WC.region (WL.move rfl rfl (WL.move rfl rfl (WL.bld rfl (bld_90_0_1 _ _) rfl (?_))))
        refine WL.alloc Tryd.zeroValue90 rfl ?_
        intro g_1 w_1 hge_1 hlt_1 hb_1 k_1
        have zs_k_1 := k_1.size
        replace h := h.pure k_1
        replace hw := hw.pure k_1
        refine WL.stores Tryd.sizeOf90 hb_1 rfl rfl (by first | (simp; done) | (simp; omega) | rfl) (by first | exact Enc.one _ _ | (intro u hu; obtain ⟨x, _, rfl⟩ := List.mem_map.1 hu; rfl) | (simp [Value.oneCell']; done) | (simp [Value.oneCell', Value.cells]; done)) (by first | (simp; done) | (simp; omega) | (simp [Value.cells]; done) | (simp [Value.cells]; omega) | exact Nat.le_of_ble_eq_true rfl) rfl ?_
        intro w_2 hs_2 hn_2 k_2
        have zs_k_2 := k_2.size
        replace h := h.chg k_2 (by first | (intro x h1 h2; exact h2) | (intro x h0 h1 h2; exact hS x h1 h2) | (intro x h0 h1 h2; have h3 : _ = _ := h2; subst h3; exact hSR h1.1) | (intro x h1 h2; have h3 : _ = _ := h2; subst h3; assumption) | (intro x h1 h2; have h3 : _ = _ := h2; exfalso; omega) | (intro b h1 h2 h3; have h4 : _ = _ := h3; (try dsimp only at h2); exfalso; omega) | (intro h1; have h2 : _ = _ := h1; exfalso; omega) | (intro h1; have h2 : _ ≤ _ := h1; exfalso; omega) | (intros; exfalso; (try dsimp only at *); omega) | (intro b h1 h2 h3; exfalso; have h4 := h3.2; (try dsimp only at *); omega) | (intro h1; exfalso; have h4 := h1.2; (try dsimp only at *); omega) | (intro x h1 h2; exfalso; have h4 := h2.2; (try dsimp only at *); omega) | (intro x h1 h2; exact ⟨_, rfl, h2⟩) | (intro x h1 h2; have h4 := h2.1; have h5 := h2.2; exfalso; omega) | (intro x h1 h2; exact h2.1) | (intro x h1 h2; rcases h2.1 with h3 | h3; exact h3; exfalso; omega) | (intro x h1 h2; rcases h2 with h3 | h3; exact h3; exfalso; omega))
        replace hw := hw.chg k_2 (by first | (intro x h1 h2; exact h2) | (intro x h0 h1 h2; exact hS x h1 h2) | (intro x h0 h1 h2; have h3 : _ = _ := h2; subst h3; exact hSR h1.1) | (intro x h1 h2; have h3 : _ = _ := h2; subst h3; assumption) | (intro x h1 h2; have h3 : _ = _ := h2; exfalso; omega) | (intro b h1 h2 h3; have h4 : _ = _ := h3; (try dsimp only at h2); exfalso; omega) | (intro h1; have h2 : _ = _ := h1; exfalso; omega) | (intro h1; have h2 : _ ≤ _ := h1; exfalso; omega) | (intros; exfalso; (try dsimp only at *); omega) | (intro b h1 h2 h3; exfalso; have h4 := h3.2; (try dsimp only at *); omega) | (intro h1; exfalso; have h4 := h1.2; (try dsimp only at *); omega) | (intro x h1 h2; exfalso; have h4 := h2.2; (try dsimp only at *); omega) | (intro x h1 h2; exact ⟨_, rfl, h2⟩) | (intro x h1 h2; have h4 := h2.1; have h5 := h2.2; exfalso; omega) | (intro x h1 h2; exact h2.1) | (intro x h1 h2; rcases h2.1 with h3 | h3; exact h3; exfalso; omega) | (intro x h1 h2; rcases h2 with h3 | h3; exact h3; exfalso; omega))
        replace hb_1 := hn_2
        refine WL.nil (WX.then_normal (WC.seq (WC.region (?_))))
        have hb8 : Blk _ g_1 90 [vi d, vi a] := hb_1
        refine WL.move rfl rfl ?_
        refine WL.loadsB Tryd.isAgg90 Tryd.sizeOf90 hb8 rfl (by first | (simp; done) | (simp; omega) | rfl) rfl (?_)
        refine WL.call eg_48 rfl rfl (held_calls h (d, a)) ?_
        rintro v w2 ⟨⟨r, rfl, hr, hx⟩, k2⟩
        have zs_k2 := k2.size
        replace h := h.pure k2
        replace hw := hw.pure k2
        replace hb8 := hb8.pure k2
        have hxl : r.xs.length = 128 := by rw [hx]; exact heldS_len hok _
        refine WL.call eg_47 rfl rfl (bclone_calls hr hxl) ?_
        rintro v w3 ⟨⟨gq, cq, rfl, hq, hq1, hq2⟩, k3⟩
        have zw3 := hw.size
        have zs_k3 := k3.size
        replace h := h.pure k3
        replace hw := hw.pure k3
        replace hb8 := hb8.pure k3
        refine WL.assign rfl rfl (WL.nil (WX.then_normal (WC.seq (WC.region (WL.move rfl rfl (WL.move rfl rfl (WL.rem64i rfl rfl (by constructor <;> omega) rfl (?_))))))))
        obtain ⟨kk, hk⟩ : ∃ kk, r.xs[(n % 128).toNat]? = some kk := ⟨_, List.getElem?_eq_getElem (by omega)⟩
        refine WL.indexC hq.rsl Tryd.underlying26 Tryd.sizeOf5 rfl rfl ⟨hk, by omega⟩ rfl ?_
        refine WL.load Tryd.isAgg5 rfl (hq.rsl.cellsAt hk 0 _ rfl) rfl ?_
        refine WL.move rfl rfl (WL.quo64i rfl rfl (by refine ⟨?_, ?_, ?_⟩ <;> omega) rfl (WL.rem64i rfl rfl (by constructor <;> omega) rfl (WL.add64 rfl rfl (by first | omega | (constructor <;> omega)) rfl (WL.c_i64_u8 Tryd.underlying3 Tryd.underlying5 rfl rfl (WL.num rfl rfl (n_xor8 _ _ _ _) rfl (?_))))))
        refine WL.index (j := (n % 128).toNat) Tryd.underlying26 Tryd.sizeOf5 rfl rfl (by omega) (by omega) rfl ?_
        refine WL.storeRow (z := kk ^^^ B8 (1 + n / 128 % 255)) ((n % 128).toNat) Tryd.sizeOf5 hq rfl rfl rfl (by first | (simp; done) | (show 0 + _ * 1 = _; omega)) (by omega) rfl ?_
        intro w_3 zs_3 nr_3 k_3
        have zs_k_3 := k_3.size
        replace h := h.chg k_3 (by first | (intro x h1 h2; exact h2) | (intro x h0 h1 h2; exact hS x h1 h2) | (intro x h0 h1 h2; have h3 : _ = _ := h2; subst h3; exact hSR h1.1) | (intro x h1 h2; have h3 : _ = _ := h2; subst h3; assumption) | (intro x h1 h2; have h3 : _ = _ := h2; exfalso; omega) | (intro b h1 h2 h3; have h4 : _ = _ := h3; (try dsimp only at h2); exfalso; omega) | (intro h1; have h2 : _ = _ := h1; exfalso; omega) | (intro h1; have h2 : _ ≤ _ := h1; exfalso; omega) | (intros; exfalso; (try dsimp only at *); omega) | (intro b h1 h2 h3; exfalso; have h4 := h3.2; (try dsimp only at *); omega) | (intro h1; exfalso; have h4 := h1.2; (try dsimp only at *); omega) | (intro x h1 h2; exfalso; have h4 := h2.2; (try dsimp only at *); omega) | (intro x h1 h2; exact ⟨_, rfl, h2⟩) | (intro x h1 h2; have h4 := h2.1; have h5 := h2.2; exfalso; omega) | (intro x h1 h2; exact h2.1) | (intro x h1 h2; rcases h2.1 with h3 | h3; exact h3; exfalso; omega) | (intro x h1 h2; rcases h2 with h3 | h3; exact h3; exfalso; omega))
        replace hw := hw.chg k_3 (by first | (intro x h1 h2; exact h2) | (intro x h0 h1 h2; exact hS x h1 h2) | (intro x h0 h1 h2; have h3 : _ = _ := h2; subst h3; exact hSR h1.1) | (intro x h1 h2; have h3 : _ = _ := h2; subst h3; assumption) | (intro x h1 h2; have h3 : _ = _ := h2; exfalso; omega) | (intro b h1 h2 h3; have h4 : _ = _ := h3; (try dsimp only at h2); exfalso; omega) | (intro h1; have h2 : _ = _ := h1; exfalso; omega) | (intro h1; have h2 : _ ≤ _ := h1; exfalso; omega) | (intros; exfalso; (try dsimp only at *); omega) | (intro b h1 h2 h3; exfalso; have h4 := h3.2; (try dsimp only at *); omega) | (intro h1; exfalso; have h4 := h1.2; (try dsimp only at *); omega) | (intro x h1 h2; exfalso; have h4 := h2.2; (try dsimp only at *); omega) | (intro x h1 h2; exact ⟨_, rfl, h2⟩) | (intro x h1 h2; have h4 := h2.1; have h5 := h2.2; exfalso; omega) | (intro x h1 h2; exact h2.1) | (intro x h1 h2; rcases h2.1 with h3 | h3; exact h3; exfalso; omega) | (intro x h1 h2; rcases h2 with h3 | h3; exact h3; exfalso; omega))
        replace hb8 := hb8.chg k_3 (by first | (intro x h1 h2; exact h2) | (intro x h0 h1 h2; exact hS x h1 h2) | (intro x h0 h1 h2; have h3 : _ = _ := h2; subst h3; exact hSR h1.1) | (intro x h1 h2; have h3 : _ = _ := h2; subst h3; assumption) | (intro x h1 h2; have h3 : _ = _ := h2; exfalso; omega) | (intro b h1 h2 h3; have h4 : _ = _ := h3; (try dsimp only at h2); exfalso; omega) | (intro h1; have h2 : _ = _ := h1; exfalso; omega) | (intro h1; have h2 : _ ≤ _ := h1; exfalso; omega) | (intros; exfalso; (try dsimp only at *); omega) | (intro b h1 h2 h3; exfalso; have h4 := h3.2; (try dsimp only at *); omega) | (intro h1; exfalso; have h4 := h1.2; (try dsimp only at *); omega) | (intro x h1 h2; exfalso; have h4 := h2.2; (try dsimp only at *); omega) | (intro x h1 h2; exact ⟨_, rfl, h2⟩) | (intro x h1 h2; have h4 := h2.1; have h5 := h2.2; exfalso; omega) | (intro x h1 h2; exact h2.1) | (intro x h1 h2; rcases h2.1 with h3 | h3; exact h3; exfalso; omega) | (intro x h1 h2; rcases h2 with h3 | h3; exact h3; exfalso; omega))
        replace hq := nr_3
        have hrb : r.xs.set (n % 128).toNat (kk ^^^ B8 (1 + n / 128 % 255)) = rotB (heldS s (d, a)) n := by
          rw [rotB, ← hx, List.getD_eq_getElem?_getD, hk]
          rfl
        have hqS : Row (fun x => (A x ∨ w.heap.size ≤ x) ∧ x ≠ R) _ 5 eb (some ⟨gq, 0, none⟩) cq (r.xs.set (n % 128).toNat (kk ^^^ B8 (1 + n / 128 % 255))) := ((h.ne hq).mono (fun x hx => ⟨.inr (by have := hx.1; omega), hx.2⟩))
        refine WL.nil (WX.then_normal (WC.seq (WC.seq (WC.region (WL.move rfl rfl (WL.loadsB Tryd.isAgg90 Tryd.sizeOf90 hb8 rfl (by first | (simp; done) | (simp; omega) | rfl) rfl (?_)))))))
        obtain ⟨m, ga, gc, wa, wc, ws, ls, hB, hI, hls, hws⟩ := h.ex
        have am : A m := hI.sm.1
        have lm : m < w.heap.size := hI.sm.2
        have lR : R < w.heap.size := h.aR.2
        replace hI := hI.open hB
        have hmR : m ≠ R := hI.sm.2
        refine WL.call eg_49 rfl rfl (newest_calls hB hI.waits (d, a)) ?_
        rintro v w5 ⟨⟨ao, rfl, hnew⟩, k5⟩
        have zs_k5 := k5.size
        replace hw := hw.pure k5
        replace hb8 := hb8.pure k5
        replace hqS := hqS.pure k5
        replace hB := hB.pure k5
        replace hI := hI.pure k5
        refine WL.assign rfl rfl (WL.nil (WX.then_normal (WC.seq (WC.region (WL.move rfl rfl (?_))))))
        refine WL.ptrSome Tryd.underlying96 rfl rfl rfl ?_
        rcases hnew with ⟨rfl, hno⟩ | ⟨j, x, gW, hxj, hxp, hno, rfl, rfl⟩
        ·
          refine WL.nil (WX.then_normal (WC.cond_false rfl (WC.skip (WX.then_normal (WC.seq (?_))))))
          replace hI := hI.mono (S' := fun x => (A x ∨ w.heap.size ≤ x) ∧ x ≠ R) (fun x hx => ⟨.inl hx.1.1, hx.2⟩)
          refine WC.draw ((fun x => x = m)) [0, 1, 2, 3, 4, 5] [6] mixed rfl rfl (fun wd_4 kd_4 zd_4 => ?_)
          have zs_kd_4 := kd_4.size
          replace hw := hw.pure kd_4
          replace hb8 := hb8.pure kd_4
          replace hqS := hqS.pure kd_4
          replace hB := hB.pure kd_4
          replace hI := hI.pure kd_4
          apply DQ.step (E' := [(0, _)])
          case ho => rfl
          case hs => exact ⟨rfl, trivial⟩
          case hk => rfl
          case h1 =>
            intro wq_6 kq_6
            refine WL.move rfl rfl (?_)
            refine WL.nil ?_
            exact WX.one ⟨rfl, by first | exact Chg.refl _ _ | assumption⟩
          apply DQ.step (E' := [(58, _)])
          case ho => rfl
          case hs => exact ⟨rfl, trivial⟩
          case hk => rfl
          case h1 =>
            intro wq_7 kq_7
            refine WL.nilCheck rfl rfl (?_)
            refine WL.nil ?_
            exact WX.one ⟨rfl, by first | exact Chg.refl _ _ | assumption⟩
          apply DQ.step (E' := [(59, _)])
          case ho => rfl
          case hs => exact ⟨rfl, trivial⟩
          case hk => rfl
          case h1 =>
            intro wq_8 kq_8
            refine WL.fieldAddr (fld_86_2) rfl rfl (?_)
            refine WL.nil ?_
            exact WX.one ⟨rfl, by first | exact Chg.refl _ _ | assumption⟩
          apply DQ.step (E' := [(60, _)])
          case ho => rfl
          case hs => exact ⟨rfl, trivial⟩
          case hk => rfl
          case h1 =>
            intro wq_9 kq_9
            have zs_kq_9 := kq_9.size
            replace hw := hw.chg kq_9 (by first | (intro x h1 h2; exact h2) | (intro x h0 h1 h2; exact hS x h1 h2) | (intro x h0 h1 h2; have h3 : _ = _ := h2; subst h3; exact hSR h1.1) | (intro x h1 h2; have h3 : _ = _ := h2; subst h3; assumption) | (intro x h1 h2; have h3 : _ = _ := h2; exfalso; omega) | (intro b h1 h2 h3; have h4 : _ = _ := h3; (try dsimp only at h2); exfalso; omega) | (intro h1; have h2 : _ = _ := h1; exfalso; omega) | (intro h1; have h2 : _ ≤ _ := h1; exfalso; omega) | (intros; exfalso; (try dsimp only at *); omega) | (intro b h1 h2 h3; exfalso; have h4 := h3.2; (try dsimp only at *); omega) | (intro h1; exfalso; have h4 := h1.2; (try dsimp only at *); omega) | (intro x h1 h2; exfalso; have h4 := h2.2; (try dsimp only at *); omega) | (intro x h1 h2; exact ⟨_, rfl, h2⟩) | (intro x h1 h2; have h4 := h2.1; have h5 := h2.2; exfalso; omega) | (intro x h1 h2; exact h2.1) | (intro x h1 h2; rcases h2.1 with h3 | h3; exact h3; exfalso; omega) | (intro x h1 h2; rcases h2 with h3 | h3; exact h3; exfalso; omega))
            replace hb8 := hb8.chg kq_9 (by first | (intro x h1 h2; exact h2) | (intro x h0 h1 h2; exact hS x h1 h2) | (intro x h0 h1 h2; have h3 : _ = _ := h2; subst h3; exact hSR h1.1) | (intro x h1 h2; have h3 : _ = _ := h2; subst h3; assumption) | (intro x h1 h2; have h3 : _ = _ := h2; exfalso; omega) | (intro b h1 h2 h3; have h4 : _ = _ := h3; (try dsimp only at h2); exfalso; omega) | (intro h1; have h2 : _ = _ := h1; exfalso; omega) | (intro h1; have h2 : _ ≤ _ := h1; exfalso; omega) | (intros; exfalso; (try dsimp only at *); omega) | (intro b h1 h2 h3; exfalso; have h4 := h3.2; (try dsimp only at *); omega) | (intro h1; exfalso; have h4 := h1.2; (try dsimp only at *); omega) | (intro x h1 h2; exfalso; have h4 := h2.2; (try dsimp only at *); omega) | (intro x h1 h2; exact ⟨_, rfl, h2⟩) | (intro x h1 h2; have h4 := h2.1; have h5 := h2.2; exfalso; omega) | (intro x h1 h2; exact h2.1) | (intro x h1 h2; rcases h2.1 with h3 | h3; exact h3; exfalso; omega) | (intro x h1 h2; rcases h2 with h3 | h3; exact h3; exfalso; omega))
            replace hB := hB.chg kq_9 (by first | (intro x h1 h2; exact h2) | (intro x h0 h1 h2; exact hS x h1 h2) | (intro x h0 h1 h2; have h3 : _ = _ := h2; subst h3; exact hSR h1.1) | (intro x h1 h2; have h3 : _ = _ := h2; subst h3; assumption) | (intro x h1 h2; have h3 : _ = _ := h2; exfalso; omega) | (intro b h1 h2 h3; have h4 : _ = _ := h3; (try dsimp only at h2); exfalso; omega) | (intro h1; have h2 : _ = _ := h1; exfalso; omega) | (intro h1; have h2 : _ ≤ _ := h1; exfalso; omega) | (intros; exfalso; (try dsimp only at *); omega) | (intro b h1 h2 h3; exfalso; have h4 := h3.2; (try dsimp only at *); omega) | (intro h1; exfalso; have h4 := h1.2; (try dsimp only at *); omega) | (intro x h1 h2; exfalso; have h4 := h2.2; (try dsimp only at *); omega) | (intro x h1 h2; exact ⟨_, rfl, h2⟩) | (intro x h1 h2; have h4 := h2.1; have h5 := h2.2; exfalso; omega) | (intro x h1 h2; exact h2.1) | (intro x h1 h2; rcases h2.1 with h3 | h3; exact h3; exfalso; omega) | (intro x h1 h2; rcases h2 with h3 | h3; exact h3; exfalso; omega))
            refine WL.loadB Tryd.isAgg83 hB rfl rfl rfl (?_)
            refine WL.nil ?_
            exact WX.one ⟨rfl, by first | exact Chg.refl _ _ | assumption⟩
          apply DQ.step (E' := [(9, _)])
          case ho => rfl
          case hs => exact ⟨rfl, trivial⟩
          case hk => rfl
          case h1 =>
            intro wq_10 kq_10
            have zs_kq_10 := kq_10.size
            replace hw := hw.chg kq_10 (by first | (intro x h1 h2; exact h2) | (intro x h0 h1 h2; exact hS x h1 h2) | (intro x h0 h1 h2; have h3 : _ = _ := h2; subst h3; exact hSR h1.1) | (intro x h1 h2; have h3 : _ = _ := h2; subst h3; assumption) | (intro x h1 h2; have h3 : _ = _ := h2; exfalso; omega) | (intro b h1 h2 h3; have h4 : _ = _ := h3; (try dsimp only at h2); exfalso; omega) | (intro h1; have h2 : _ = _ := h1; exfalso; omega) | (intro h1; have h2 : _ ≤ _ := h1; exfalso; omega) | (intros; exfalso; (try dsimp only at *); omega) | (intro b h1 h2 h3; exfalso; have h4 := h3.2; (try dsimp only at *); omega) | (intro h1; exfalso; have h4 := h1.2; (try dsimp only at *); omega) | (intro x h1 h2; exfalso; have h4 := h2.2; (try dsimp only at *); omega) | (intro x h1 h2; exact ⟨_, rfl, h2⟩) | (intro x h1 h2; have h4 := h2.1; have h5 := h2.2; exfalso; omega) | (intro x h1 h2; exact h2.1) | (intro x h1 h2; rcases h2.1 with h3 | h3; exact h3; exfalso; omega) | (intro x h1 h2; rcases h2 with h3 | h3; exact h3; exfalso; omega))
            replace hb8 := hb8.chg kq_10 (by first | (intro x h1 h2; exact h2) | (intro x h0 h1 h2; exact hS x h1 h2) | (intro x h0 h1 h2; have h3 : _ = _ := h2; subst h3; exact hSR h1.1) | (intro x h1 h2; have h3 : _ = _ := h2; subst h3; assumption) | (intro x h1 h2; have h3 : _ = _ := h2; exfalso; omega) | (intro b h1 h2 h3; have h4 : _ = _ := h3; (try dsimp only at h2); exfalso; omega) | (intro h1; have h2 : _ = _ := h1; exfalso; omega) | (intro h1; have h2 : _ ≤ _ := h1; exfalso; omega) | (intros; exfalso; (try dsimp only at *); omega) | (intro b h1 h2 h3; exfalso; have h4 := h3.2; (try dsimp only at *); omega) | (intro h1; exfalso; have h4 := h1.2; (try dsimp only at *); omega) | (intro x h1 h2; exfalso; have h4 := h2.2; (try dsimp only at *); omega) | (intro x h1 h2; exact ⟨_, rfl, h2⟩) | (intro x h1 h2; have h4 := h2.1; have h5 := h2.2; exfalso; omega) | (intro x h1 h2; exact h2.1) | (intro x h1 h2; rcases h2.1 with h3 | h3; exact h3; exfalso; omega) | (intro x h1 h2; rcases h2 with h3 | h3; exact h3; exfalso; omega))
            replace hB := hB.chg kq_10 (by first | (intro x h1 h2; exact h2) | (intro x h0 h1 h2; exact hS x h1 h2) | (intro x h0 h1 h2; have h3 : _ = _ := h2; subst h3; exact hSR h1.1) | (intro x h1 h2; have h3 : _ = _ := h2; subst h3; assumption) | (intro x h1 h2; have h3 : _ = _ := h2; exfalso; omega) | (intro b h1 h2 h3; have h4 : _ = _ := h3; (try dsimp only at h2); exfalso; omega) | (intro h1; have h2 : _ = _ := h1; exfalso; omega) | (intro h1; have h2 : _ ≤ _ := h1; exfalso; omega) | (intros; exfalso; (try dsimp only at *); omega) | (intro b h1 h2 h3; exfalso; have h4 := h3.2; (try dsimp only at *); omega) | (intro h1; exfalso; have h4 := h1.2; (try dsimp only at *); omega) | (intro x h1 h2; exfalso; have h4 := h2.2; (try dsimp only at *); omega) | (intro x h1 h2; exact ⟨_, rfl, h2⟩) | (intro x h1 h2; have h4 := h2.1; have h5 := h2.2; exfalso; omega) | (intro x h1 h2; exact h2.1) | (intro x h1 h2; rcases h2.1 with h3 | h3; exact h3; exfalso; omega) | (intro x h1 h2; rcases h2 with h3 | h3; exact h3; exfalso; omega))
            refine WL.loadsB Tryd.isAgg90 Tryd.sizeOf90 hb8 rfl (by first | (simp; done) | (simp; omega) | rfl) rfl (?_)
            refine WL.nil ?_
            exact WX.one ⟨rfl, by first | exact Chg.refl _ _ | assumption⟩
          apply DQ.step (E' := [(10, _)])
          case ho => rfl
          case hs => exact ⟨rfl, trivial⟩
          case hk => rfl
          case h1 =>
            intro wq_11 kq_11
            refine WL.move rfl rfl (?_)
            refine WL.nil ?_
            exact WX.one ⟨rfl, by first | exact Chg.refl _ _ | assumption⟩
          refine DQ.done (fun hd_5 => ?_)
          refine DL.step [(61, _), (62, _), (63, _)] rfl ⟨rfl, rfl, rfl, trivial⟩ rfl (fun wq_12 kq_12 => ?_)
          have zs_kq_12 := kq_12.size
          replace hw := hw.pure kq_12
          replace hb8 := hb8.pure kq_12
          replace hqS := hqS.pure kq_12
          replace hB := hB.pure kq_12
          replace hI := hI.pure kq_12
          replace hd_5 := hd_5.pure kq_12
          refine WL.mput (v := (⟨some ⟨gq, 0, none⟩, cq, r.xs.set (n % 128).toNat (kk ^^^ B8 (1 + n / 128 % 255))⟩ : Rw)) plOk Tryd.underlying83 hI.map rfl (show _ = some (kpl (d, a)) from rfl) (show _ = some (Value.slice (some ⟨gq, 0, none⟩) (r.xs.set (n % 128).toNat (kk ^^^ B8 (1 + n / 128 % 255))).length cq) from by rw [List.length_set]; rfl) ?_
          intro w9 z9 hM9 k9
          have hI9 := hI.putMapN hM9 k9 (fun p hp => by
            rcases mput_mem hp with h3 | h3
            ·
              exact .inl ⟨p, h3, rfl⟩
            ·
              right
              rw [h3]
              exact hqS)
          have zs_k9 := k9.size
          replace hw := hw.chg k9 (by first | (intro x h1 h2; exact h2) | (intro x h0 h1 h2; exact hS x h1 h2) | (intro x h0 h1 h2; have h3 : _ = _ := h2; subst h3; exact hSR h1.1) | (intro x h1 h2; have h3 : _ = _ := h2; subst h3; assumption) | (intro x h1 h2; have h3 : _ = _ := h2; exfalso; omega) | (intro b h1 h2 h3; have h4 : _ = _ := h3; (try dsimp only at h2); exfalso; omega) | (intro h1; have h2 : _ = _ := h1; exfalso; omega) | (intro h1; have h2 : _ ≤ _ := h1; exfalso; omega) | (intros; exfalso; (try dsimp only at *); omega) | (intro b h1 h2 h3; exfalso; have h4 := h3.2; (try dsimp only at *); omega) | (intro h1; exfalso; have h4 := h1.2; (try dsimp only at *); omega) | (intro x h1 h2; exfalso; have h4 := h2.2; (try dsimp only at *); omega) | (intro x h1 h2; exact ⟨_, rfl, h2⟩) | (intro x h1 h2; have h4 := h2.1; have h5 := h2.2; exfalso; omega) | (intro x h1 h2; exact h2.1) | (intro x h1 h2; rcases h2.1 with h3 | h3; exact h3; exfalso; omega) | (intro x h1 h2; rcases h2 with h3 | h3; exact h3; exfalso; omega))
          replace hB := hB.chg k9 (by first | (intro x h1 h2; exact h2) | (intro x h0 h1 h2; exact hS x h1 h2) | (intro x h0 h1 h2; have h3 : _ = _ := h2; subst h3; exact hSR h1.1) | (intro x h1 h2; have h3 : _ = _ := h2; subst h3; assumption) | (intro x h1 h2; have h3 : _ = _ := h2; exfalso; omega) | (intro b h1 h2 h3; have h4 : _ = _ := h3; (try dsimp only at h2); exfalso; omega) | (intro h1; have h2 : _ = _ := h1; exfalso; omega) | (intro h1; have h2 : _ ≤ _ := h1; exfalso; omega) | (intros; exfalso; (try dsimp only at *); omega) | (intro b h1 h2 h3; exfalso; have h4 := h3.2; (try dsimp only at *); omega) | (intro h1; exfalso; have h4 := h1.2; (try dsimp only at *); omega) | (intro x h1 h2; exfalso; have h4 := h2.2; (try dsimp only at *); omega) | (intro x h1 h2; exact ⟨_, rfl, h2⟩) | (intro x h1 h2; have h4 := h2.1; have h5 := h2.2; exfalso; omega) | (intro x h1 h2; exact h2.1) | (intro x h1 h2; rcases h2.1 with h3 | h3; exact h3; exfalso; omega) | (intro x h1 h2; rcases h2 with h3 | h3; exact h3; exfalso; omega))
          replace hd_5 := hd_5.chg k9 (by first | (intro x h1 h2; exact h2) | (intro x h0 h1 h2; exact hS x h1 h2) | (intro x h0 h1 h2; have h3 : _ = _ := h2; subst h3; exact hSR h1.1) | (intro x h1 h2; have h3 : _ = _ := h2; subst h3; assumption) | (intro x h1 h2; have h3 : _ = _ := h2; exfalso; omega) | (intro b h1 h2 h3; have h4 : _ = _ := h3; (try dsimp only at h2); exfalso; omega) | (intro h1; have h2 : _ = _ := h1; exfalso; omega) | (intro h1; have h2 : _ ≤ _ := h1; exfalso; omega) | (intros; exfalso; (try dsimp only at *); omega) | (intro b h1 h2 h3; exfalso; have h4 := h3.2; (try dsimp only at *); omega) | (intro h1; exfalso; have h4 := h1.2; (try dsimp only at *); omega) | (intro x h1 h2; exfalso; have h4 := h2.2; (try dsimp only at *); omega) | (intro x h1 h2; exact ⟨_, rfl, h2⟩) | (intro x h1 h2; have h4 := h2.1; have h5 := h2.2; exfalso; omega) | (intro x h1 h2; exact h2.1) | (intro x h1 h2; rcases h2.1 with h3 | h3; exact h3; exfalso; omega) | (intro x h1 h2; rcases h2 with h3 | h3; exact h3; exfalso; omega))
          refine WL.nil ?_
          refine WX.one0 (v := undef) ⟨hd_5, ?_⟩
          refine DL.done (fun we_13 ke_13 => ?_)
          have zs_ke_13 := ke_13.size
          replace hw := hw.pure ke_13
          replace hB := hB.pure ke_13
          replace hd_5 := hd_5.pure ke_13
          replace hI9 := hI9.pure ke_13
          refine WX.then_normal (WC.seq (WC.region (WL.assign rfl rfl (WL.nil (WX.then_normal (WC.ret (?_)))))))
          refine WX.ret1 (.inl rfl) Tryd.results19 rfl ?_
          first
            | (have hh : ¬ inS s d a := h12
               have e0 : rotE s d a n = 1 := by simp [rotE, hh]
               rw [e0]
               exact ⟨_, rfl, rfl, h.mono (fun x hx => .inl hx.1), hw⟩)
            | (have hh : n < 0 := h20
               have e0 : rotE s d a n = 1 := by simp [rotE, hh]
               rw [e0]
               exact ⟨_, rfl, rfl, h.mono (fun x hx => .inl hx.1), hw⟩)
            | (have hh : goneS s d = true := hg
               have hh2 : ¬ n < 0 := by omega
               have e0 : rotE s d a n = 3 := by simp [rotE, hh, hh2, h12]
               rw [e0]
               exact ⟨_, rfl, rfl, h.mono (fun x hx => .inl hx.1), hw⟩)
            | (have hh : ws[j]? = some x := hxj
               have hh2 : ¬ n < 0 := by omega
               have e0 : rotE s d a n = 0 := by simp [rotE, hg, hh2, h12]
               rw [e0, if_pos rfl]
               have e1 : rotS s (d, a) n = { s with waits := putW s.waits (d, a) (rotB (heldS s (d, a)) n) } := by
                 unfold rotS
                 rw [hws, xsm_newV, newV_some hxj hxp hno]
                 rfl
               rw [e1] at hrok ⊢
               refine ⟨_, rfl, rfl, ⟨.inl aR, hrok, m, ga, gc, _, wc, _, ls, Eq.mp (congrArg (Blk _ R 86) ?_) hB, hI8.mono (fun x hx => hx.1), hls, ?_⟩, hw⟩
               ·
                 simp
               ·
                 show putW s.waits (d, a) (rotB (heldS s (d, a)) n) = _
                 rw [hws, ← hrb, hxp, ← putW_some hxj hxp hno, xsm_putW])
            | (have hh2 : ¬ n < 0 := by omega
               have e0 : rotE s d a n = 0 := by simp [rotE, hg, hh2, h12]
               rw [e0, if_pos rfl]
               have e1 : rotS s (d, a) n = { s with last := mput s.last (d, a) (rotB (heldS s (d, a)) n) } := by
                 unfold rotS
                 rw [hws, xsm_newV, newV_none hno]
                 rfl
               rw [e1] at hrok ⊢
               refine ⟨_, rfl, rfl, ⟨.inl aR, hrok, m, ga, gc, _, wc, _, _, hB, hI9.mono (fun x hx => hx.1), ?_, hws⟩, hw⟩
               show mput s.last (d, a) (rotB (heldS s (d, a)) n) = _
               rw [hls, ← hrb, xsm_put])
        ·
          have aW : A gW := (hI.waits.at_ _ rfl).1.1
          have hWR : gW ≠ R := (hI.waits.at_ _ rfl).2
          replace hI := hI.mono (S' := fun x => (A x ∨ w.heap.size ≤ x) ∧ x ≠ R) (fun x hx => ⟨.inl hx.1.1, hx.2⟩)
          refine WL.nil (WX.then_normal (WC.cond_true rfl (WC.seq (WC.region (WL.move rfl rfl (WL.move rfl rfl (WL.nilCheck rfl rfl (?_))))))))
          refine WL.fieldAddr (fld_92_1) rfl rfl (?_)
          have hjl := (List.getElem?_eq_some_iff.1 hxj).1
          refine WL.storeF (e := ewr) (ys := ws.set j (x.1, ⟨some ⟨gq, 0, none⟩, cq, r.xs.set (n % 128).toNat (kk ^^^ B8 (1 + n / 128 % 255))⟩)) Tryd.sizeOf26 hI.waits rfl (show _ = some (Value.slice (some ⟨gq, 0, none⟩) (r.xs.set (n % 128).toNat (kk ^^^ B8 (1 + n / 128 % 255))).length cq) from by rw [List.length_set]; rfl) rfl (by show 0 + j * 3 + 2 + 1 ≤ ws.length * 3; omega) (List.length_set ..) (wr_set hxj ⟨some ⟨gq, 0, none⟩, cq, r.xs.set (n % 128).toNat (kk ^^^ B8 (1 + n / 128 % 255))⟩) ?_
          intro w8 z8 hW8 k8
          have hI8 := hI.setWaits hW8 k8 (fun b hb => ⟨_, rfl, hb⟩) (fun p hp => by
            rcases List.mem_or_eq_of_mem_set hp with h3 | h3
            ·
              exact .inl ⟨p, h3, rfl⟩
            ·
              right
              rw [h3]
              exact hqS)
          have zs_k8 := k8.size
          replace hw := hw.chg k8 (by first | (intro x h1 h2; exact h2) | (intro x h0 h1 h2; exact hS x h1 h2) | (intro x h0 h1 h2; have h3 : _ = _ := h2; subst h3; exact hSR h1.1) | (intro x h1 h2; have h3 : _ = _ := h2; subst h3; assumption) | (intro x h1 h2; have h3 : _ = _ := h2; exfalso; omega) | (intro b h1 h2 h3; have h4 : _ = _ := h3; (try dsimp only at h2); exfalso; omega) | (intro h1; have h2 : _ = _ := h1; exfalso; omega) | (intro h1; have h2 : _ ≤ _ := h1; exfalso; omega) | (intros; exfalso; (try dsimp only at *); omega) | (intro b h1 h2 h3; exfalso; have h4 := h3.2; (try dsimp only at *); omega) | (intro h1; exfalso; have h4 := h1.2; (try dsimp only at *); omega) | (intro x h1 h2; exfalso; have h4 := h2.2; (try dsimp only at *); omega) | (intro x h1 h2; exact ⟨_, rfl, h2⟩) | (intro x h1 h2; have h4 := h2.1; have h5 := h2.2; exfalso; omega) | (intro x h1 h2; exact h2.1) | (intro x h1 h2; rcases h2.1 with h3 | h3; exact h3; exfalso; omega) | (intro x h1 h2; rcases h2 with h3 | h3; exact h3; exfalso; omega))
          replace hB := hB.chg k8 (by first | (intro x h1 h2; exact h2) | (intro x h0 h1 h2; exact hS x h1 h2) | (intro x h0 h1 h2; have h3 : _ = _ := h2; subst h3; exact hSR h1.1) | (intro x h1 h2; have h3 : _ = _ := h2; subst h3; assumption) | (intro x h1 h2; have h3 : _ = _ := h2; exfalso; omega) | (intro b h1 h2 h3; have h4 : _ = _ := h3; (try dsimp only at h2); exfalso; omega) | (intro h1; have h2 : _ = _ := h1; exfalso; omega) | (intro h1; have h2 : _ ≤ _ := h1; exfalso; omega) | (intros; exfalso; (try dsimp only at *); omega) | (intro b h1 h2 h3; exfalso; have h4 := h3.2; (try dsimp only at *); omega) | (intro h1; exfalso; have h4 := h1.2; (try dsimp only at *); omega) | (intro x h1 h2; exfalso; have h4 := h2.2; (try dsimp only at *); omega) | (intro x h1 h2; exact ⟨_, rfl, h2⟩) | (intro x h1 h2; have h4 := h2.1; have h5 := h2.2; exfalso; omega) | (intro x h1 h2; exact h2.1) | (intro x h1 h2; rcases h2.1 with h3 | h3; exact h3; exfalso; omega) | (intro x h1 h2; rcases h2 with h3 | h3; exact h3; exfalso; omega))
          refine WL.nil (WX.then_normal (WC.seq (WC.region (WL.assign rfl rfl (WL.nil (WX.then_normal (WC.ret (?_))))))))
          refine WX.then_ret (?_)
          refine WX.ret1 (.inl rfl) Tryd.results19 rfl ?_
          first
            | (have hh : ¬ inS s d a := h12
               have e0 : rotE s d a n = 1 := by simp [rotE, hh]
               rw [e0]
               exact ⟨_, rfl, rfl, h.mono (fun x hx => .inl hx.1), hw⟩)
            | (have hh : n < 0 := h20
               have e0 : rotE s d a n = 1 := by simp [rotE, hh]
               rw [e0]
               exact ⟨_, rfl, rfl, h.mono (fun x hx => .inl hx.1), hw⟩)
            | (have hh : goneS s d = true := hg
               have hh2 : ¬ n < 0 := by omega
               have e0 : rotE s d a n = 3 := by simp [rotE, hh, hh2, h12]
               rw [e0]
               exact ⟨_, rfl, rfl, h.mono (fun x hx => .inl hx.1), hw⟩)
            | (have hh : ws[j]? = some x := hxj
               have hh2 : ¬ n < 0 := by omega
               have e0 : rotE s d a n = 0 := by simp [rotE, hg, hh2, h12]
               rw [e0, if_pos rfl]
               have e1 : rotS s (d, a) n = { s with waits := putW s.waits (d, a) (rotB (heldS s (d, a)) n) } := by
                 unfold rotS
                 rw [hws, xsm_newV, newV_some hxj hxp hno]
                 rfl
               rw [e1] at hrok ⊢
               refine ⟨_, rfl, rfl, ⟨.inl aR, hrok, m, ga, gc, _, wc, _, ls, Eq.mp (congrArg (Blk _ R 86) ?_) hB, hI8.mono (fun x hx => hx.1), hls, ?_⟩, hw⟩
               ·
                 simp
               ·
                 show putW s.waits (d, a) (rotB (heldS s (d, a)) n) = _
                 rw [hws, ← hrb, hxp, ← putW_some hxj hxp hno, xsm_putW])
            | (have hh2 : ¬ n < 0 := by omega
               have e0 : rotE s d a n = 0 := by simp [rotE, hg, hh2, h12]
               rw [e0, if_pos rfl]
               have e1 : rotS s (d, a) n = { s with last := mput s.last (d, a) (rotB (heldS s (d, a)) n) } := by
                 unfold rotS
                 rw [hws, xsm_newV, newV_none hno]
                 rfl
               rw [e1] at hrok ⊢
               refine ⟨_, rfl, rfl, ⟨.inl aR, hrok, m, ga, gc, _, wc, _, _, hB, hI9.mono (fun x hx => hx.1), ?_, hws⟩, hw⟩
               show mput s.last (d, a) (rotB (heldS s (d, a)) n) = _
               rw [hls, ← hrb, xsm_put])
      ·
        refine WL.assign rfl rfl (WL.nil (WX.then_normal (WC.cond_true rfl (WC.seq (WC.region (WL.assign rfl rfl (WL.nil (?_))))))))
        refine WX.then_normal (WC.ret (WX.block_ret (WX.then_ret (?_))))
        refine WX.ret1 (.inl rfl) Tryd.results19 rfl ?_
        first
          | (have hh : ¬ inS s d a := h12
             have e0 : rotE s d a n = 1 := by simp [rotE, hh]
             rw [e0]
             exact ⟨_, rfl, rfl, h.mono (fun x hx => .inl hx.1), hw⟩)
          | (have hh : n < 0 := h20
             have e0 : rotE s d a n = 1 := by simp [rotE, hh]
             rw [e0]
             exact ⟨_, rfl, rfl, h.mono (fun x hx => .inl hx.1), hw⟩)
          | (have hh : goneS s d = true := hg
             have hh2 : ¬ n < 0 := by omega
             have e0 : rotE s d a n = 3 := by simp [rotE, hh, hh2, h12]
             rw [e0]
             exact ⟨_, rfl, rfl, h.mono (fun x hx => .inl hx.1), hw⟩)
          | (have hh : ws[j]? = some x := hxj
             have hh2 : ¬ n < 0 := by omega
             have e0 : rotE s d a n = 0 := by simp [rotE, hg, hh2, h12]
             rw [e0, if_pos rfl]
             have e1 : rotS s (d, a) n = { s with waits := putW s.waits (d, a) (rotB (heldS s (d, a)) n) } := by
               unfold rotS
               rw [hws, xsm_newV, newV_some hxj hxp hno]
               rfl
             rw [e1] at hrok ⊢
             refine ⟨_, rfl, rfl, ⟨.inl aR, hrok, m, ga, gc, _, wc, _, ls, Eq.mp (congrArg (Blk _ R 86) ?_) hB, hI8.mono (fun x hx => hx.1), hls, ?_⟩, hw⟩
             ·
               simp
             ·
               show putW s.waits (d, a) (rotB (heldS s (d, a)) n) = _
               rw [hws, ← hrb, hxp, ← putW_some hxj hxp hno, xsm_putW])
          | (have hh2 : ¬ n < 0 := by omega
             have e0 : rotE s d a n = 0 := by simp [rotE, hg, hh2, h12]
             rw [e0, if_pos rfl]
             have e1 : rotS s (d, a) n = { s with last := mput s.last (d, a) (rotB (heldS s (d, a)) n) } := by
               unfold rotS
               rw [hws, xsm_newV, newV_none hno]
               rfl
             rw [e1] at hrok ⊢
             refine ⟨_, rfl, rfl, ⟨.inl aR, hrok, m, ga, gc, _, wc, _, _, hB, hI9.mono (fun x hx => hx.1), ?_, hws⟩, hw⟩
             show mput s.last (d, a) (rotB (heldS s (d, a)) n) = _
             rw [hls, ← hrb, xsm_put])
  ·
    rw [show decide (0 ≤ d ∧ d < (s.dn : Int) ∧ 0 ≤ a ∧ a < (s.sn : Int)) = false from decide_eq_false h12]
    refine WL.not rfl rfl (WL.move rfl rfl (WL.pass rfl rfl rfl rfl (WL.pass rfl rfl rfl rfl (WL.pickT rfl rfl rfl (WL.assign rfl rfl (WL.nil (WX.then_normal (?_))))))))
    refine WC.cond_true rfl (WC.seq (WC.region (WL.assign rfl rfl (WL.nil (WX.then_normal (WC.ret (WX.block_ret (?_))))))))
    refine WX.then_ret (?_)
    refine WX.ret1 (.inl rfl) Tryd.results19 rfl ?_
    first
      | (have hh : ¬ inS s d a := h12
         have e0 : rotE s d a n = 1 := by simp [rotE, hh]
         rw [e0]
         exact ⟨_, rfl, rfl, h.mono (fun x hx => .inl hx.1), hw⟩)
      | (have hh : n < 0 := h20
         have e0 : rotE s d a n = 1 := by simp [rotE, hh]
         rw [e0]
         exact ⟨_, rfl, rfl, h.mono (fun x hx => .inl hx.1), hw⟩)
      | (have hh : goneS s d = true := hg
         have hh2 : ¬ n < 0 := by omega
         have e0 : rotE s d a n = 3 := by simp [rotE, hh, hh2, h12]
         rw [e0]
         exact ⟨_, rfl, rfl, h.mono (fun x hx => .inl hx.1), hw⟩)
      | (have hh : ws[j]? = some x := hxj
         have hh2 : ¬ n < 0 := by omega
         have e0 : rotE s d a n = 0 := by simp [rotE, hg, hh2, h12]
         rw [e0, if_pos rfl]
         have e1 : rotS s (d, a) n = { s with waits := putW s.waits (d, a) (rotB (heldS s (d, a)) n) } := by
           unfold rotS
           rw [hws, xsm_newV, newV_some hxj hxp hno]
           rfl
         rw [e1] at hrok ⊢
         refine ⟨_, rfl, rfl, ⟨.inl aR, hrok, m, ga, gc, _, wc, _, ls, Eq.mp (congrArg (Blk _ R 86) ?_) hB, hI8.mono (fun x hx => hx.1), hls, ?_⟩, hw⟩
         ·
           simp
         ·
           show putW s.waits (d, a) (rotB (heldS s (d, a)) n) = _
           rw [hws, ← hrb, hxp, ← putW_some hxj hxp hno, xsm_putW])
      | (have hh2 : ¬ n < 0 := by omega
         have e0 : rotE s d a n = 0 := by simp [rotE, hg, hh2, h12]
         rw [e0, if_pos rfl]
         have e1 : rotS s (d, a) n = { s with last := mput s.last (d, a) (rotB (heldS s (d, a)) n) } := by
           unfold rotS
           rw [hws, xsm_newV, newV_none hno]
           rfl
         rw [e1] at hrok ⊢
         refine ⟨_, rfl, rfl, ⟨.inl aR, hrok, m, ga, gc, _, wc, _, _, hB, hI9.mono (fun x hx => hx.1), ?_, hws⟩, hw⟩
         show mput s.last (d, a) (rotB (heldS s (d, a)) n) = _
         rw [hls, ← hrb, xsm_put])
end Go.Proofs.YtjeldcjchipdgaaDoor
namespace Go.Proofs.YtjeldcjchipdgaaDoor
open Go.RowKit Go.HL
set_option maxRecDepth 100000

/-! a label's Write -/
/-- behind the first k drives -/
def lwR (s0 : RA) (at_ : Int) (B : List UInt8) : Nat → RA × Nat × Int
  | 0 => (s0, 0, 0)
  | k + 1 =>
    if (lwR s0 at_ B k).2.2 ≠ 0 then lwR s0 at_ B k
    else if writeE (lwR s0 at_ B k).1 k at_ B.length = 0 then (writeS (lwR s0 at_ B k).1 k at_ B, (lwR s0 at_ B k).2.1 + 1, 0)
    else if writeE (lwR s0 at_ B k).1 k at_ B.length = 3 then (writeS (lwR s0 at_ B k).1 k at_ B, (lwR s0 at_ B k).2.1, 0)
    else (writeS (lwR s0 at_ B k).1 k at_ B, 0, writeE (lwR s0 at_ B k).1 k at_ B.length)
theorem lwR_stuck {s0 : RA} {at_ : Int} {B : List UInt8} {k : Nat} (h : (lwR s0 at_ B k).2.2 ≠ 0) (m : Nat) : lwR s0 at_ B (k + m) = lwR s0 at_ B k := by
  induction m with
  | zero => rfl
  | succ m ih => rw [← Nat.add_assoc, lwR, if_pos (by rw [ih]; exact h), ih]
theorem writeS_dn (s : RA) (d a : Int) (b : List UInt8) : (writeS s d a b).dn = s.dn ∧ (writeS s d a b).sn = s.sn ∧ (writeS s d a b).gone = s.gone ∧ (writeS s d a b).waits.length ≤ s.waits.length + 1 := by
  unfold writeS
  split
  · exact ⟨spendS_dn s, spendS_sn s, spendS_gone s, by simp⟩
  · split
    · exact ⟨spendS_dn s, spendS_sn s, spendS_gone s, by rw [spendS_waits]; omega⟩
    · exact ⟨rfl, rfl, rfl, by omega⟩
theorem lwR_dn (s0 : RA) (at_ : Int) (B : List UInt8) (k : Nat) : (lwR s0 at_ B k).1.dn = s0.dn ∧ (lwR s0 at_ B k).1.sn = s0.sn ∧ (lwR s0 at_ B k).1.gone = s0.gone ∧ (lwR s0 at_ B k).1.waits.length ≤ s0.waits.length + k ∧ (lwR s0 at_ B k).2.1 ≤ k := by
  induction k with
  | zero => exact ⟨rfl, rfl, rfl, Nat.le_refl _, Nat.le_refl _⟩
  | succ k ih =>
    obtain ⟨i1, i2, i3, i4, i5⟩ := ih
    obtain ⟨w1, w2, w3, w4⟩ := writeS_dn (lwR s0 at_ B k).1 k at_ B
    rw [lwR]
    split
    · exact ⟨i1, i2, i3, by omega, by omega⟩
    · split
      · exact ⟨by rw [w1, i1], by rw [w2, i2], by rw [w3, i3], by dsimp only; omega, by dsimp only; omega⟩
      · split
        · exact ⟨by rw [w1, i1], by rw [w2, i2], by rw [w3, i3], by dsimp only; omega, by dsimp only; omega⟩
        · exact ⟨by rw [w1, i1], by rw [w2, i2], by rw [w3, i3], by dsimp only; omega, by dsimp only; omega⟩
/-- what a label's Write makes of a rack, and what it answers -/
def lwS (s : RA) (u : UbV) : RA := if 8 < s.sn ∧ encE u = 0 then (lwR s (u.t % 8) (encB u) s.dn).1 else s
def lwN (s : RA) (u : UbV) : Int := if 8 < s.sn ∧ encE u = 0 then (if (lwR s (u.t % 8) (encB u) s.dn).2.2 = 0 then ((lwR s (u.t % 8) (encB u) s.dn).2.1 : Int) else 0) else 0
def lwE (s : RA) (u : UbV) : Int := if ¬ 8 < s.sn then 1 else if encE u ≠ 0 then encE u else if (lwR s (u.t % 8) (encB u) s.dn).2.2 ≠ 0 then (lwR s (u.t % 8) (encB u) s.dn).2.2 else if (lwR s (u.t % 8) (encB u) s.dn).2.1 = 0 then 4 else 0
theorem right_calls {A : Nat → Prop} {w : World} {R : Nat} {s : RA} (h : RK A w R s) : Calls Tryd.prog 42 [ptr R].toArray w (Ret fun v w' => v = .bool (decide (8 < s.sn)) ∧ Chg Nob w w') := by
  have hw := Chg.refl Nob w
  refine Calls.of_WC Tryd.func42 rfl Tryd.ntmps42 (by simp) ?_
  refine WC.seq (WC.region (WL.assign rfl rfl (WL.nil (WX.then_normal (WC.seq (WC.region (WL.move rfl rfl (?_))))))))
  refine WL.call eg_53 rfl rfl (Sectors_calls h) ?_
  rintro v w1 ⟨rfl, k1⟩
  have zs_k1 := k1.size
  replace h := h.pure k1
  replace hw := hw.pure k1
  refine WL.gtr rfl rfl rfl (WL.assign rfl rfl (WL.nil (WX.then_normal (WC.ret (?_)))))
  refine WX.ret1 (.inl rfl) Tryd.results42 rfl ?_
  refine ⟨_, rfl, ?_, hw⟩
  congr 1
  exact decide_eq_decide.2 (by omega)
theorem encE_t {u : UbV} (h : encE u = 0) : rightP u.p ∧ 1 ≤ u.t ∧ secE (uit u) = 0 ∧ (encB u).length = 128 := by
  unfold encE at h
  split at h
  · rename_i hc
    refine ⟨hc.1, hc.2, h, ?_⟩
    rw [encB, if_pos hc, secB_128 h]
  · cases h
theorem lw_right {s : RA} {u : UbV} (h : ¬ 8 < s.sn) : lwS s u = s ∧ lwN s u = 0 ∧ lwE s u = 1 := by
  rw [lwS, lwN, lwE, if_neg (fun x => h x.1), if_neg (fun x => h x.1), if_pos h]
  exact ⟨rfl, rfl, rfl⟩
theorem lw_enc {s : RA} {u : UbV} (h : 8 < s.sn) (hE : encE u ≠ 0) : lwS s u = s ∧ lwN s u = 0 ∧ lwE s u = encE u := by
  rw [lwS, lwN, lwE, if_neg (fun x => hE x.2), if_neg (fun x => hE x.2), if_neg (fun x => x h), if_pos hE]
  exact ⟨rfl, rfl, rfl⟩
theorem lw_stop {s : RA} {u : UbV} {at_ : Int} {B : List UInt8} {k : Nat} (h : 8 < s.sn) (hE : encE u = 0) (ea : at_ = u.t % 8) (eB : B = encB u) (hk : k < s.dn) (h0 : (lwR s at_ B k).2.2 = 0)
    (h1 : writeE (lwR s at_ B k).1 k at_ B.length ≠ 0) (h2 : writeE (lwR s at_ B k).1 k at_ B.length ≠ 3) : lwS s u = writeS (lwR s at_ B k).1 k at_ B ∧ lwN s u = 0 ∧ lwE s u = writeE (lwR s at_ B k).1 k at_ B.length := by
  have e1 : lwR s at_ B (k + 1) = (writeS (lwR s at_ B k).1 k at_ B, 0, writeE (lwR s at_ B k).1 k at_ B.length) := by
    rw [lwR, if_neg (fun h9 => h9 h0), if_neg h1, if_neg h2]
  have e2 : lwR s at_ B s.dn = lwR s at_ B (k + 1) := by
    have := lwR_stuck (s0 := s) (at_ := at_) (B := B) (k := k + 1) (by rw [e1]; exact h1) (s.dn - (k + 1))
    rw [show k + 1 + (s.dn - (k + 1)) = s.dn from by omega] at this
    exact this
  unfold lwS lwN lwE
  rw [← ea, ← eB, e2, e1]
  simp [h, hE, h1]
theorem lw_end {s : RA} {u : UbV} {at_ : Int} {B : List UInt8} (h : 8 < s.sn) (hE : encE u = 0) (ea : at_ = u.t % 8) (eB : B = encB u) (h0 : (lwR s at_ B s.dn).2.2 = 0) :
    lwS s u = (lwR s at_ B s.dn).1 ∧ lwN s u = ((lwR s at_ B s.dn).2.1 : Int) ∧ lwE s u = if (lwR s at_ B s.dn).2.1 = 0 then 4 else 0 := by
  unfold lwS lwN lwE
  rw [← ea, ← eB]
  simp [h, hE, h0]
set_option maxHeartbeats 2000000 in
theorem lWrite_in {A : Nat → Prop} {w : World} {R : Nat} {s : RA} (h : RK A w R s) (hA : ∀ x, A x → x < w.heap.size) (u : UbV) (hu : WfU u) (hn : s.waits.length ≤ 90000) :
    Calls Tryd.prog 16 [ptr R, .agg (eub.f u).toArray].toArray w (Ret fun v w' => v = .tuple #[vi (lwN s u), vi (lwE s u)] ∧ RK (fun x => A x ∨ w.heap.size ≤ x) w' R (lwS s u) ∧ Chg A w w') := by
  have hw := Chg.refl A w
  have hdn := h.ok.dn
  have lR := hA R h.aR
  obtain ⟨B, eB⟩ : ∃ B, B = encB u := ⟨_, rfl⟩
  refine Calls.of_WC Tryd.func16 rfl Tryd.ntmps16 (by simp) ?_
  refine WC.seq (WC.region (?_))
  refine WL.box rfl rfl ?_
  intro g_1 w_1 hge_1 hlt_1 hb_1 k_1
  have zs_k_1 := k_1.size
  replace h := h.pure k_1
  replace hw := hw.pure k_1
  refine WL.assign rfl rfl (WL.assign rfl rfl (WL.nil (WX.then_normal (WC.seq (WC.seq (WC.region (WL.move rfl rfl (?_))))))))
  refine WL.call eg_42 rfl rfl (right_calls h) ?_
  rintro v w1 ⟨rfl, k1⟩
  have zs_k1 := k1.size
  replace h := h.pure k1
  replace hw := hw.pure k1
  replace hb_1 := hb_1.pure k1
  by_cases h12 : 8 < s.sn
  ·
    rw [decide_eq_true h12]
    refine WL.not rfl rfl (WL.nil (WX.then_normal (WC.cond_false rfl (WC.skip (WX.then_normal (WC.seq (WC.region (?_))))))))
    have hb1 : Blk _ g_1 25 (eub.f u) := hb_1
    refine WL.loads (eub.f u) Tryd.isAgg25 Tryd.sizeOf25 rfl (fun j v hj => by rw [Nat.zero_add]; exact hb1.cell hj) rfl rfl ?_
    refine WL.call eg_12 rfl rfl (encU_calls u _ hu) ?_
    rintro v w2 ⟨⟨ao, c, rfl, hq⟩, k2⟩
    rw [← eB] at hq ⊢
    have zs_k2 := k2.size
    replace h := h.pure k2
    replace hw := hw.pure k2
    replace hb1 := hb1.pure k2
    replace hq := hq.lt
    refine WL.move rfl rfl (WL.extract rfl rfl rfl (WL.extract rfl rfl rfl (WL.assign rfl rfl (WL.assign rfl rfl (WL.nil (WX.then_normal (WC.seq (?_))))))))
    refine WC.seq (WC.region (WL.move rfl rfl (?_)))
    refine WL.neq? rfl rfl rfl (fun h20 => ?_) (fun h20 => ?_)
    ·
      refine WL.nil (WX.then_normal (WC.cond_true rfl (WC.seq (WC.region (WL.move rfl rfl (WL.assign rfl rfl (WL.assign rfl rfl (?_))))))))
      refine WL.nil (WX.then_normal (WC.ret (WX.then_ret (?_))))
      refine WX.ret2 (.inl rfl) Tryd.results16 rfl rfl ?_
      first
        | (have hz : ¬ 8 < s.sn := h12
           obtain ⟨e1, e2, e3⟩ := lw_right (u := u) hz
           rw [e1, e2, e3]
           exact ⟨_, rfl, rfl, h.mono (fun x hx => .inl hx), hw⟩)
        | (have hz : encE u ≠ 0 := h20
           obtain ⟨e1, e2, e3⟩ := lw_enc h12 hz
           rw [e1, e2, e3]
           exact ⟨_, rfl, rfl, h.mono (fun x hx => .inl hx), hw⟩)
        | (have hz : writeE (lwR s at_ B k).1 k at_ B.length ≠ 0 := h37
           have hz2 : writeE (lwR s at_ B k).1 k at_ B.length ≠ 3 := h41
           obtain ⟨e1, e2, e3⟩ := lw_stop h12 h20 eat eB (k := k) (by omega) hk0 hz hz2
           rw [e1, e2, e3]
           exact ⟨_, rfl, rfl, h5.mono (fun x hx => by rcases hx with h6 | h6; exact .inl h6; right; omega), hw5⟩)
        | (obtain rfl : k = s.dn := by omega
           obtain ⟨e1, e2, e3⟩ := lw_end h12 h20 eat eB hk0
           have hmo := h.mono (A' := fun x => A x ∨ w.heap.size ≤ x) (fun x hx => by rcases hx with h6 | h6; exact .inl h6; right; omega)
           by_cases hc : (lwR s at_ B s.dn).2.1 = 0
           ·
             rw [e1, e2, e3, if_pos hc, hc]
             first
               | exact ⟨_, rfl, rfl, hmo, hw⟩
               | (exfalso; omega)
           ·
             rw [e1, e2, e3, if_neg hc]
             first
               | exact ⟨_, rfl, rfl, hmo, hw⟩
               | (exfalso; omega))
    ·
      refine WL.nil (WX.then_normal (WC.cond_false rfl (WC.skip (WX.then_normal (WC.seq (WC.region (WL.assign rfl rfl (?_))))))))
      refine WL.nil (WX.then_normal (WC.seq (WC.seq (WC.region (WL.move rfl rfl (?_))))))
      refine WL.call eg_43 rfl rfl (Drives_calls h) ?_
      rintro v w4 ⟨rfl, k4⟩
      have zs_k4 := k4.size
      replace h := h.pure k4
      replace hw := hw.pure k4
      replace hb1 := hb1.pure k4
      replace hq := hq.pure k4
      refine WL.move rfl rfl (WL.nil (WX.then_normal (WC.block (?_))))
      obtain ⟨t1, t2, t3, t4⟩ := encE_t h20
      rw [← eB] at t4
      obtain ⟨n0, en0⟩ : ∃ n0, n0 = w2.heap.size := ⟨_, rfl⟩
      obtain ⟨at_, eat⟩ : ∃ a : Int, a = u.t % 8 := ⟨_, rfl⟩
      have hat : 0 ≤ at_ ∧ at_ < 8 := by omega
      refine WC.loop (σ := Nat) (fun k => [(0, ptr R), (3, ptr g_1), (6, .slice ao B.length c), (8, vi ((lwR s at_ B k).2.1 : Int)), (23, vi (s.dn : Int)), (24, vi (k : Int))])
        (fun k w' => k ≤ s.dn ∧ (lwR s at_ B k).2.2 = 0 ∧ n0 ≤ w'.heap.size ∧ Blk w' g_1 25 (eub.f u) ∧ Row (fun x => w.heap.size ≤ x ∧ x < n0) w' 5 eb ao c B ∧ RK (fun x => A x ∨ n0 ≤ x) w' R (lwR s at_ B k).1 ∧ Chg A w w') (fun k => s.dn - k) 0 ⟨rfl, rfl, rfl, rfl, rfl, rfl, trivial⟩
        ⟨Nat.zero_le _, rfl, by omega, hb1, hq.mono (fun x hx => by omega), h.mono (fun x hx => .inl hx), hw⟩ ?_
      clear hb1 hq h hw
      rintro k w3 ⟨hk, hk0, hn3, hb1, hq, h, hw⟩
      obtain ⟨d1, d2, d3, d4, d5⟩ := lwR_dn s at_ B k
      refine WC.seq (WC.region (?_))
      refine WL.lss? rfl rfl rfl (fun h25 => ?_) (fun h25 => ?_)
      ·
        refine WL.nil (WX.then_normal (WC.seq (WC.cond_true rfl (WC.skip (WX.then_normal (WC.seq (WC.block (?_))))))))
        refine WC.seq (WC.region (WL.move rfl rfl (WL.assign rfl rfl (WL.nil (WX.then_normal (WC.seq (WC.region (?_))))))))
        refine WL.move rfl rfl (WL.move rfl rfl (WL.fieldAddr (fld_25_0) rfl rfl (WL.loadB Tryd.isAgg3 hb1 rfl rfl rfl (WL.rem64i rfl rfl (by constructor <;> omega) rfl (WL.move rfl rfl (?_))))))
        have hn9 : (lwR s at_ B k).1.waits.length ≤ 100000 := by omega
        have hR0 := hA R
        have aR0 : R < w.heap.size := lR
        have hq2 : RSl (fun x => w.heap.size ≤ x ∧ x < n0) w3 eb ao c B := hq.rsl
        rw [← eat]
        refine WL.call eg_44 rfl rfl (Write_calls h k at_ hq2 (fun x h1 h2 => absurd (h2 ▸ h1.1) (Nat.not_le.2 aR0)) hn9) ?_
        rintro v w5 ⟨rfl, h5, k5⟩
        have z5 := k5.size
        replace h5 : RK (fun x => A x ∨ n0 ≤ x) w5 R (writeS (lwR s at_ B k).1 k at_ B) := h5.mono (fun x hx => by rcases hx with h6 | h6; exact h6; right; omega)
        have hq5 := hq.chg k5 (fun b h1 h2 h3 => by rcases h3 with h4 | h4; have := hA b h4; omega; omega)
        have hb5 := hb1.chg k5 (fun h3 => by rcases h3 with h4 | h4; have := hA _ h4; omega; omega)
        have hw5 : Chg A w w5 := hw.trans k5 (fun x h1 h2 => by rcases h2 with h4 | h4; exact h4; exfalso; omega)
        refine WL.assign rfl rfl (WL.nil (WX.then_normal (WC.seq (WC.region (WL.move rfl rfl (WL.nil (WX.then_normal (?_))))))))
        refine WC.block (WC.seq (WC.region (?_)))
        refine WL.eql? rfl rfl rfl (fun h37 => ?_) (fun h37 => ?_)
        ·
          refine WL.assign rfl rfl (WL.nil (WX.then_normal (WC.cond_true rfl (WC.region (WL.move rfl rfl (WL.add64 rfl rfl (by first | omega | (constructor <;> omega)) rfl (WL.assign rfl rfl (?_))))))))
          refine WL.nil (WX.block_normal (WX.block_normal (WX.then_normal (WC.region (WL.add64 rfl rfl (by first | omega | (constructor <;> omega)) rfl (WL.move rfl rfl (WL.nil (?_))))))))
          first
            | (have hz : writeE (lwR s at_ B k).1 k at_ B.length = 0 := h37
               have e1 : lwR s at_ B (k + 1) = (writeS (lwR s at_ B k).1 k at_ B, (lwR s at_ B k).2.1 + 1, 0) := by
                 rw [lwR, if_neg (fun h9 => h9 hk0), if_pos hz]
               have f1 : (lwR s at_ B (k + 1)).2.2 = 0 := by rw [e1]
               have f2 : RK (fun x => A x ∨ n0 ≤ x) w5 R (lwR s at_ B (k + 1)).1 := by rw [e1]; exact h5
               have f3 : ((lwR s at_ B (k + 1)).2.1 : Int) = ((lwR s at_ B k).2.1 : Int) + 1 := by rw [e1]; rfl
               refine WX.loop_next (k + 1) ⟨rfl, rfl, rfl, ?_, rfl, rfl, trivial⟩ ⟨by omega, f1, by omega, hb5, hq5, f2, hw5⟩ (by show _ - _ < _ - _; omega)
               rw [f3]
               rfl)
            | (have hz : writeE (lwR s at_ B k).1 k at_ B.length ≠ 0 := h37
               have hz2 : writeE (lwR s at_ B k).1 k at_ B.length = 3 := h41
               have e1 : lwR s at_ B (k + 1) = (writeS (lwR s at_ B k).1 k at_ B, (lwR s at_ B k).2.1, 0) := by
                 rw [lwR, if_neg (fun h9 => h9 hk0), if_neg hz, if_pos hz2]
               have f1 : (lwR s at_ B (k + 1)).2.2 = 0 := by rw [e1]
               have f2 : RK (fun x => A x ∨ n0 ≤ x) w5 R (lwR s at_ B (k + 1)).1 := by rw [e1]; exact h5
               have f3 : ((lwR s at_ B (k + 1)).2.1 : Int) = ((lwR s at_ B k).2.1 : Int) := by rw [e1]
               refine WX.loop_next (k + 1) ⟨rfl, rfl, rfl, ?_, rfl, rfl, trivial⟩ ⟨by omega, f1, by omega, hb5, hq5, f2, hw5⟩ (by show _ - _ < _ - _; omega)
               rw [f3]
               rfl)
        ·
          refine WL.assign rfl rfl (WL.nil (WX.then_normal (WC.cond_false rfl (WC.seq (WC.region (?_))))))
          refine WL.eql? rfl rfl rfl (fun h41 => ?_) (fun h41 => ?_)
          ·
            refine WL.assign rfl rfl (WL.nil (WX.then_normal (WC.cond_true rfl (WC.skip (WX.block_normal (WX.block_normal (WX.then_normal (?_))))))))
            refine WC.region (WL.add64 rfl rfl (by first | omega | (constructor <;> omega)) rfl (WL.move rfl rfl (WL.nil (?_))))
            first
              | (have hz : writeE (lwR s at_ B k).1 k at_ B.length = 0 := h37
                 have e1 : lwR s at_ B (k + 1) = (writeS (lwR s at_ B k).1 k at_ B, (lwR s at_ B k).2.1 + 1, 0) := by
                   rw [lwR, if_neg (fun h9 => h9 hk0), if_pos hz]
                 have f1 : (lwR s at_ B (k + 1)).2.2 = 0 := by rw [e1]
                 have f2 : RK (fun x => A x ∨ n0 ≤ x) w5 R (lwR s at_ B (k + 1)).1 := by rw [e1]; exact h5
                 have f3 : ((lwR s at_ B (k + 1)).2.1 : Int) = ((lwR s at_ B k).2.1 : Int) + 1 := by rw [e1]; rfl
                 refine WX.loop_next (k + 1) ⟨rfl, rfl, rfl, ?_, rfl, rfl, trivial⟩ ⟨by omega, f1, by omega, hb5, hq5, f2, hw5⟩ (by show _ - _ < _ - _; omega)
                 rw [f3]
                 rfl)
              | (have hz : writeE (lwR s at_ B k).1 k at_ B.length ≠ 0 := h37
                 have hz2 : writeE (lwR s at_ B k).1 k at_ B.length = 3 := h41
                 have e1 : lwR s at_ B (k + 1) = (writeS (lwR s at_ B k).1 k at_ B, (lwR s at_ B k).2.1, 0) := by
                   rw [lwR, if_neg (fun h9 => h9 hk0), if_neg hz, if_pos hz2]
                 have f1 : (lwR s at_ B (k + 1)).2.2 = 0 := by rw [e1]
                 have f2 : RK (fun x => A x ∨ n0 ≤ x) w5 R (lwR s at_ B (k + 1)).1 := by rw [e1]; exact h5
                 have f3 : ((lwR s at_ B (k + 1)).2.1 : Int) = ((lwR s at_ B k).2.1 : Int) := by rw [e1]
                 refine WX.loop_next (k + 1) ⟨rfl, rfl, rfl, ?_, rfl, rfl, trivial⟩ ⟨by omega, f1, by omega, hb5, hq5, f2, hw5⟩ (by show _ - _ < _ - _; omega)
                 rw [f3]
                 rfl)
          ·
            refine WL.assign rfl rfl (WL.nil (WX.then_normal (WC.cond_false rfl (WC.seq (WC.region (WL.move rfl rfl (WL.assign rfl rfl (?_))))))))
            refine WL.assign rfl rfl (WL.nil (WX.then_normal (WC.ret (WX.block_ret (WX.block_ret (WX.then_ret (WX.then_ret (?_))))))))
            refine WX.block_ret (WX.then_ret (?_))
            refine WX.ret2 (.inl rfl) Tryd.results16 rfl rfl ?_
            first
              | (have hz : ¬ 8 < s.sn := h12
                 obtain ⟨e1, e2, e3⟩ := lw_right (u := u) hz
                 rw [e1, e2, e3]
                 exact ⟨_, rfl, rfl, h.mono (fun x hx => .inl hx), hw⟩)
              | (have hz : encE u ≠ 0 := h20
                 obtain ⟨e1, e2, e3⟩ := lw_enc h12 hz
                 rw [e1, e2, e3]
                 exact ⟨_, rfl, rfl, h.mono (fun x hx => .inl hx), hw⟩)
              | (have hz : writeE (lwR s at_ B k).1 k at_ B.length ≠ 0 := h37
                 have hz2 : writeE (lwR s at_ B k).1 k at_ B.length ≠ 3 := h41
                 obtain ⟨e1, e2, e3⟩ := lw_stop h12 h20 eat eB (k := k) (by omega) hk0 hz hz2
                 rw [e1, e2, e3]
                 exact ⟨_, rfl, rfl, h5.mono (fun x hx => by rcases hx with h6 | h6; exact .inl h6; right; omega), hw5⟩)
              | (obtain rfl : k = s.dn := by omega
                 obtain ⟨e1, e2, e3⟩ := lw_end h12 h20 eat eB hk0
                 have hmo := h.mono (A' := fun x => A x ∨ w.heap.size ≤ x) (fun x hx => by rcases hx with h6 | h6; exact .inl h6; right; omega)
                 by_cases hc : (lwR s at_ B s.dn).2.1 = 0
                 ·
                   rw [e1, e2, e3, if_pos hc, hc]
                   first
                     | exact ⟨_, rfl, rfl, hmo, hw⟩
                     | (exfalso; omega)
                 ·
                   rw [e1, e2, e3, if_neg hc]
                   first
                     | exact ⟨_, rfl, rfl, hmo, hw⟩
                     | (exfalso; omega))
      ·
        refine WL.nil (WX.then_normal (WC.seq (WC.cond_false rfl (WC.exit (WX.then_exit (WX.then_exit (WX.block_here (?_))))))))
        refine WX.then_normal (WC.seq (WC.seq (WC.region (WL.move rfl rfl (?_)))))
        refine WL.eql? rfl rfl rfl (fun h44 => ?_) (fun h44 => ?_)
        ·
          refine WL.nil (WX.then_normal (WC.cond_true rfl (WC.seq (WC.region (WL.assign rfl rfl (WL.assign rfl rfl (WL.nil (?_))))))))
          refine WX.then_normal (WC.ret (WX.then_ret (?_)))
          refine WX.ret2 (.inl rfl) Tryd.results16 rfl rfl ?_
          first
            | (have hz : ¬ 8 < s.sn := h12
               obtain ⟨e1, e2, e3⟩ := lw_right (u := u) hz
               rw [e1, e2, e3]
               exact ⟨_, rfl, rfl, h.mono (fun x hx => .inl hx), hw⟩)
            | (have hz : encE u ≠ 0 := h20
               obtain ⟨e1, e2, e3⟩ := lw_enc h12 hz
               rw [e1, e2, e3]
               exact ⟨_, rfl, rfl, h.mono (fun x hx => .inl hx), hw⟩)
            | (have hz : writeE (lwR s at_ B k).1 k at_ B.length ≠ 0 := h37
               have hz2 : writeE (lwR s at_ B k).1 k at_ B.length ≠ 3 := h41
               obtain ⟨e1, e2, e3⟩ := lw_stop h12 h20 eat eB (k := k) (by omega) hk0 hz hz2
               rw [e1, e2, e3]
               exact ⟨_, rfl, rfl, h5.mono (fun x hx => by rcases hx with h6 | h6; exact .inl h6; right; omega), hw5⟩)
            | (obtain rfl : k = s.dn := by omega
               obtain ⟨e1, e2, e3⟩ := lw_end h12 h20 eat eB hk0
               have hmo := h.mono (A' := fun x => A x ∨ w.heap.size ≤ x) (fun x hx => by rcases hx with h6 | h6; exact .inl h6; right; omega)
               by_cases hc : (lwR s at_ B s.dn).2.1 = 0
               ·
                 rw [e1, e2, e3, if_pos hc, hc]
                 first
                   | exact ⟨_, rfl, rfl, hmo, hw⟩
                   | (exfalso; omega)
               ·
                 rw [e1, e2, e3, if_neg hc]
                 first
                   | exact ⟨_, rfl, rfl, hmo, hw⟩
                   | (exfalso; omega))
        ·
          refine WL.nil (WX.then_normal (WC.cond_false rfl (WC.skip (WX.then_normal (WC.seq (WC.region (WL.move rfl rfl (?_))))))))
          refine WL.assign rfl rfl (WL.assign rfl rfl (WL.nil (WX.then_normal (WC.ret (?_)))))
          refine WX.ret2 (.inl rfl) Tryd.results16 rfl rfl ?_
          first
            | (have hz : ¬ 8 < s.sn := h12
               obtain ⟨e1, e2, e3⟩ := lw_right (u := u) hz
               rw [e1, e2, e3]
               exact ⟨_, rfl, rfl, h.mono (fun x hx => .inl hx), hw⟩)
            | (have hz : encE u ≠ 0 := h20
               obtain ⟨e1, e2, e3⟩ := lw_enc h12 hz
               rw [e1, e2, e3]
               exact ⟨_, rfl, rfl, h.mono (fun x hx => .inl hx), hw⟩)
            | (have hz : writeE (lwR s at_ B k).1 k at_ B.length ≠ 0 := h37
               have hz2 : writeE (lwR s at_ B k).1 k at_ B.length ≠ 3 := h41
               obtain ⟨e1, e2, e3⟩ := lw_stop h12 h20 eat eB (k := k) (by omega) hk0 hz hz2
               rw [e1, e2, e3]
               exact ⟨_, rfl, rfl, h5.mono (fun x hx => by rcases hx with h6 | h6; exact .inl h6; right; omega), hw5⟩)
            | (obtain rfl : k = s.dn := by omega
               obtain ⟨e1, e2, e3⟩ := lw_end h12 h20 eat eB hk0
               have hmo := h.mono (A' := fun x => A x ∨ w.heap.size ≤ x) (fun x hx => by rcases hx with h6 | h6; exact .inl h6; right; omega)
               by_cases hc : (lwR s at_ B s.dn).2.1 = 0
               ·
                 rw [e1, e2, e3, if_pos hc, hc]
                 first
                   | exact ⟨_, rfl, rfl, hmo, hw⟩
                   | (exfalso; omega)
               ·
                 rw [e1, e2, e3, if_neg hc]
                 first
                   | exact ⟨_, rfl, rfl, hmo, hw⟩
                   | (exfalso; omega))
  ·
    rw [decide_eq_false h12]
    refine WL.not rfl rfl (WL.nil (WX.then_normal (WC.cond_true rfl (WC.seq (WC.region (WL.assign rfl rfl (WL.assign rfl rfl (?_))))))))
    refine WL.nil (WX.then_normal (WC.ret (WX.then_ret (?_))))
    refine WX.ret2 (.inl rfl) Tryd.results16 rfl rfl ?_
    first
      | (have hz : ¬ 8 < s.sn := h12
         obtain ⟨e1, e2, e3⟩ := lw_right (u := u) hz
         rw [e1, e2, e3]
         exact ⟨_, rfl, rfl, h.mono (fun x hx => .inl hx), hw⟩)
      | (have hz : encE u ≠ 0 := h20
         obtain ⟨e1, e2, e3⟩ := lw_enc h12 hz
         rw [e1, e2, e3]
         exact ⟨_, rfl, rfl, h.mono (fun x hx => .inl hx), hw⟩)
      | (have hz : writeE (lwR s at_ B k).1 k at_ B.length ≠ 0 := h37
         have hz2 : writeE (lwR s at_ B k).1 k at_ B.length ≠ 3 := h41
         obtain ⟨e1, e2, e3⟩ := lw_stop h12 h20 eat eB (k := k) (by omega) hk0 hz hz2
         rw [e1, e2, e3]
         exact ⟨_, rfl, rfl, h5.mono (fun x hx => by rcases hx with h6 | h6; exact .inl h6; right; omega), hw5⟩)
      | (obtain rfl : k = s.dn := by omega
         obtain ⟨e1, e2, e3⟩ := lw_end h12 h20 eat eB hk0
         have hmo := h.mono (A' := fun x => A x ∨ w.heap.size ≤ x) (fun x hx => by rcases hx with h6 | h6; exact .inl h6; right; omega)
         by_cases hc : (lwR s at_ B s.dn).2.1 = 0
         ·
           rw [e1, e2, e3, if_pos hc, hc]
           first
             | exact ⟨_, rfl, rfl, hmo, hw⟩
             | (exfalso; omega)
         ·
           rw [e1, e2, e3, if_neg hc]
           first
             | exact ⟨_, rfl, rfl, hmo, hw⟩
             | (exfalso; omega))
theorem lWrite_calls {A : Nat → Prop} {w : World} {R : Nat} {s : RA} (h : RK A w R s) (u : UbV) (hu : WfU u) (hn : s.waits.length ≤ 90000) :
    Calls Tryd.prog 16 [ptr R, .agg (eub.f u).toArray].toArray w (Ret fun v w' => v = .tuple #[vi (lwN s u), vi (lwE s u)] ∧ RK (fun x => A x ∨ w.heap.size ≤ x) w' R (lwS s u) ∧ Chg A w w') := by
  refine (lWrite_in h.old (fun x hx => hx.2) u hu hn).mono ?_
  rintro e w' ⟨v, rfl, rfl, hR, k⟩
  exact ⟨_, rfl, rfl, hR.mono (fun x hx => hx.elim (fun h => .inl h.1) .inr), k.mono (fun x _ hx => hx.1)⟩
end Go.Proofs.YtjeldcjchipdgaaDoor
