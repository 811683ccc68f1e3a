import Derived.Test.YtdjlfbadcijjaaaRl
namespace Go.Proofs.Ytdjlfbadcijjaaa
open Go.RowKit Go.HL

theorem xsm_stay (d : Int) (l : List (Pl × Rw)) : xsm (stay d l) = stay d (xsm l) := by
  unfold stay xsm
  rw [List.filter_map]
  rfl
def forgetS (s : RA) (d : Int) : RA := { s with waits := stay d s.waits }
theorem forgetS_ok {s : RA} (h : s.ok) (d : Int) : (forgetS s d).ok := ⟨h.dn, h.sn, h.gl, h.ll, fun p hp => h.lw p (List.mem_filter.1 hp).1, h.lf, h.nd⟩
theorem forget_calls {A : Nat → Prop} {w : World} {R : Nat} {s : RA} (h : RK A w R s) (d : Int) :
    Calls Try.prog 36 [ptr R, vi d].toArray w (Ret fun v w' => v = .tuple #[] ∧ RK A w' R (forgetS s d) ∧ Chg A w w') := by
  have aR := h.aR
  have hok := forgetS_ok h.ok d
  obtain ⟨m, ga, gc, wa, wc, ws, ls, hB, hI, hls, hws⟩ := h.old.ex
  replace hI := hI.open hB
  have lR := hB.lt
  have hw := Chg.refl A w
  refine Calls.of_WC Try.func36 rfl Try.ntmps36 (by simp) ?_
  refine WC.seq (WC.region (?_))
  refine WL.box rfl rfl ?_
  intro g_1 w_1 hge_1 hlt_1 hb_1 k_1
  have zs_k_1 := k_1.size
  replace hB := hB.pure k_1
  replace hI := hI.pure k_1
  replace hw := hw.pure k_1
  refine WL.nil (WX.then_normal (WC.region (WL.move rfl rfl (WL.move rfl rfl (WL.nilCheck rfl rfl (WL.fieldAddr (fld_66_4) rfl rfl (WL.loadB Try.isAgg64 hB rfl rfl rfl (?_))))))))
  refine WL.makeFun rfl rfl ?_
  refine WL.call eg_47 rfl rfl (delete_calls (d := d) hb_1 hI.waits) ?_
  rintro v w2 ⟨rfl, hW2, k2⟩
  have k3 : Chg (fun x => A x ∧ x ≠ R) _ w2 := k2.mono (fun x _ hx => ⟨(hI.waits.at_.eqb hx).1.1, (hI.waits.at_.eqb hx).2⟩)
  have hI2 := hI.setWaits hW2 k2 (fun b hb => hb) (fun p hp => .inl ⟨p, (List.mem_filter.1 hp).1, rfl⟩)
  have zs_k3 := k3.size
  replace hB := hB.chg k3 (by first | (intro x h1 h2; exact h2) | (intro x h0 h1 h2; exact hS x h1 h2) | (intro x h0 h1 h2; have h3 : _ = _ := h2; subst h3; exact hSR h1.1) | (intro x h1 h2; have h3 : _ = _ := h2; subst h3; assumption) | (intro x h1 h2; have h3 : _ = _ := h2; exfalso; omega) | (intro b h1 h2 h3; have h4 : _ = _ := h3; (try dsimp only at h2); exfalso; omega) | (intro h1; have h2 : _ = _ := h1; exfalso; omega) | (intros; exfalso; (try dsimp only at *); omega) | (intro b h1 h2 h3; exfalso; have h4 := h3.2; (try dsimp only at *); omega) | (intro h1; exfalso; have h4 := h1.2; (try dsimp only at *); omega) | (intro x h1 h2; exfalso; have h4 := h2.2; (try dsimp only at *); omega) | (intro x h1 h2; exact ⟨_, rfl, h2⟩) | (intro x h1 h2; exact h2.1) | (intro x h1 h2; rcases h2.1 with h3 | h3; exact h3; exfalso; omega) | (intro x h1 h2; rcases h2 with h3 | h3; exact h3; exfalso; omega))
  replace hw := hw.chg k3 (by first | (intro x h1 h2; exact h2) | (intro x h0 h1 h2; exact hS x h1 h2) | (intro x h0 h1 h2; have h3 : _ = _ := h2; subst h3; exact hSR h1.1) | (intro x h1 h2; have h3 : _ = _ := h2; subst h3; assumption) | (intro x h1 h2; have h3 : _ = _ := h2; exfalso; omega) | (intro b h1 h2 h3; have h4 : _ = _ := h3; (try dsimp only at h2); exfalso; omega) | (intro h1; have h2 : _ = _ := h1; exfalso; omega) | (intros; exfalso; (try dsimp only at *); omega) | (intro b h1 h2 h3; exfalso; have h4 := h3.2; (try dsimp only at *); omega) | (intro h1; exfalso; have h4 := h1.2; (try dsimp only at *); omega) | (intro x h1 h2; exfalso; have h4 := h2.2; (try dsimp only at *); omega) | (intro x h1 h2; exact ⟨_, rfl, h2⟩) | (intro x h1 h2; exact h2.1) | (intro x h1 h2; rcases h2.1 with h3 | h3; exact h3; exfalso; omega) | (intro x h1 h2; rcases h2 with h3 | h3; exact h3; exfalso; omega))
  refine WL.nilCheck rfl rfl (WL.fieldAddr (fld_66_4) rfl rfl (?_))
  refine WL.store Try.sizeOf64 hB rfl rfl rfl rfl ?_
  intro w_2 hs_2 hn_2 k_2
  have zs_k_2 := k_2.size
  replace hw := hw.chg k_2 (by first | (intro x h1 h2; exact h2) | (intro x h0 h1 h2; exact hS x h1 h2) | (intro x h0 h1 h2; have h3 : _ = _ := h2; subst h3; exact hSR h1.1) | (intro x h1 h2; have h3 : _ = _ := h2; subst h3; assumption) | (intro x h1 h2; have h3 : _ = _ := h2; exfalso; omega) | (intro b h1 h2 h3; have h4 : _ = _ := h3; (try dsimp only at h2); exfalso; omega) | (intro h1; have h2 : _ = _ := h1; exfalso; omega) | (intros; exfalso; (try dsimp only at *); omega) | (intro b h1 h2 h3; exfalso; have h4 := h3.2; (try dsimp only at *); omega) | (intro h1; exfalso; have h4 := h1.2; (try dsimp only at *); omega) | (intro x h1 h2; exfalso; have h4 := h2.2; (try dsimp only at *); omega) | (intro x h1 h2; exact ⟨_, rfl, h2⟩) | (intro x h1 h2; exact h2.1) | (intro x h1 h2; rcases h2.1 with h3 | h3; exact h3; exfalso; omega) | (intro x h1 h2; rcases h2 with h3 | h3; exact h3; exfalso; omega))
  replace hI2 := hI2.chg k_2 (by first | (intro x h1 h2; exact h2) | (intro x h0 h1 h2; exact hS x h1 h2) | (intro x h0 h1 h2; have h3 : _ = _ := h2; subst h3; exact hSR h1.1) | (intro x h1 h2; have h3 : _ = _ := h2; subst h3; assumption) | (intro x h1 h2; have h3 : _ = _ := h2; exfalso; omega) | (intro b h1 h2 h3; have h4 : _ = _ := h3; (try dsimp only at h2); exfalso; omega) | (intro h1; have h2 : _ = _ := h1; exfalso; omega) | (intros; exfalso; (try dsimp only at *); omega) | (intro b h1 h2 h3; exfalso; have h4 := h3.2; (try dsimp only at *); omega) | (intro h1; exfalso; have h4 := h1.2; (try dsimp only at *); omega) | (intro x h1 h2; exfalso; have h4 := h2.2; (try dsimp only at *); omega) | (intro x h1 h2; exact ⟨_, rfl, h2⟩) | (intro x h1 h2; exact h2.1) | (intro x h1 h2; rcases h2.1 with h3 | h3; exact h3; exfalso; omega) | (intro x h1 h2; rcases h2 with h3 | h3; exact h3; exfalso; omega))
  replace hB := hn_2
  refine WL.nil (?_)
  refine WX.ret0 (.inr rfl) Try.results36 ?_
  exact ⟨_, rfl, rfl, ⟨aR, hok, m, ga, gc, wa, wc, stay d ws, ls, hB, hI2.mono (fun x hx => hx.1.1), hls, by rw [xsm_stay, ← hws]; rfl⟩, hw⟩
/-! a drive is lost -/
def loseS (s : RA) (d : Int) (b : Bool) : RA := { s with waits := stay d s.waits, gone := s.gone.set d.toNat b }
theorem loseS_ok {s : RA} (h : s.ok) (d : Int) (b : Bool) : (loseS s d b).ok := ⟨h.dn, h.sn, by show (s.gone.set d.toNat b).length = s.dn; rw [List.length_set]; exact h.gl, h.ll, fun p hp => h.lw p (List.mem_filter.1 hp).1, h.lf, h.nd⟩
theorem Lose_calls {A : Nat → Prop} {w : World} {R : Nat} {s : RA} (h : RK A w R s) (d : Int) :
    Calls Try.prog 20 [ptr R, vi d].toArray w (Ret fun v w' => v = vi (if isS s d then 0 else 1) ∧ RK A w' R (if isS s d then loseS s d true else s) ∧ Chg A w w') := by
  have aR := h.aR
  have hok := loseS_ok h.ok d true
  have hgl := h.ok.gl
  have hw := Chg.refl A w
  refine Calls.of_WC Try.func20 rfl Try.ntmps20 (by simp) ?_
  refine WC.seq (WC.region (WL.assign rfl rfl (WL.nil (WX.then_normal (WC.seq (WC.seq (WC.region (?_))))))))
  refine WL.move rfl rfl (WL.move rfl rfl (?_))
  refine WL.call eg_35 rfl rfl (is_calls h d) ?_
  rintro v w1 ⟨rfl, k1⟩
  have zs_k1 := k1.size
  replace h := h.pure k1
  replace hw := hw.pure k1
  by_cases h9 : isS s d
  ·
    rw [show decide (0 ≤ d ∧ d < (s.dn : Int)) = true from decide_eq_true h9]
    refine WL.not rfl rfl (WL.nil (WX.then_normal (WC.cond_false rfl (WC.skip (WX.then_normal (WC.seq (WC.region (?_))))))))
    refine WL.move rfl rfl (WL.move rfl rfl (?_))
    refine WL.call eg_36 rfl rfl (forget_calls h d) ?_
    rintro v w2 ⟨rfl, h2, k2⟩
    have zs_k2 := k2.size
    replace hw := hw.chg k2 (by first | (intro x h1 h2; exact h2) | (intro x h0 h1 h2; exact hS x h1 h2) | (intro x h0 h1 h2; have h3 : _ = _ := h2; subst h3; exact hSR h1.1) | (intro x h1 h2; have h3 : _ = _ := h2; subst h3; assumption) | (intro x h1 h2; have h3 : _ = _ := h2; exfalso; omega) | (intro b h1 h2 h3; have h4 : _ = _ := h3; (try dsimp only at h2); exfalso; omega) | (intro h1; have h2 : _ = _ := h1; exfalso; omega) | (intros; exfalso; (try dsimp only at *); omega) | (intro b h1 h2 h3; exfalso; have h4 := h3.2; (try dsimp only at *); omega) | (intro h1; exfalso; have h4 := h1.2; (try dsimp only at *); omega) | (intro x h1 h2; exfalso; have h4 := h2.2; (try dsimp only at *); omega) | (intro x h1 h2; exact ⟨_, rfl, h2⟩) | (intro x h1 h2; exact h2.1) | (intro x h1 h2; rcases h2.1 with h3 | h3; exact h3; exfalso; omega) | (intro x h1 h2; rcases h2 with h3 | h3; exact h3; exfalso; omega))
    obtain ⟨m, ga, gc, wa, wc, ws, ls, hB, hI, hls, hws⟩ := h2.ex
    replace hI := hI.open hB
    have hg0 : d.toNat < s.gone.length := by have h1 := h9.1; have h2 := h9.2; omega
    obtain ⟨g, rfl⟩ := hI.gone.place0 hg0
    have hgR : g ≠ R := (hI.gone.at_ _ rfl).2
    have aG : A g := (hI.gone.at_ _ rfl).1
    refine WL.nil (WX.then_normal (WC.seq (WC.region (WL.move rfl rfl (WL.nilCheck rfl rfl (WL.fieldAddr (fld_66_3) rfl rfl (WL.loadB Try.isAgg23 hB rfl rfl rfl (?_))))))))
    refine WL.move rfl rfl (?_)
    refine WL.index (j := d.toNat) Try.underlying23 Try.sizeOf4 rfl rfl (by have := h9.1; omega) hg0 rfl ?_
    refine WL.storeRow (z := true) d.toNat Try.sizeOf4 hI.gone rfl rfl rfl (by show 0 + d.toNat * 1 = d.toNat; omega) hg0 rfl ?_
    intro w8 z8 hG8 k8
    have hI8 := hI.setGone hG8 k8
    have zs_k8 := k8.size
    replace hw := hw.chg k8 (by first | (intro x h1 h2; exact h2) | (intro x h0 h1 h2; exact hS x h1 h2) | (intro x h0 h1 h2; have h3 : _ = _ := h2; subst h3; exact hSR h1.1) | (intro x h1 h2; have h3 : _ = _ := h2; subst h3; assumption) | (intro x h1 h2; have h3 : _ = _ := h2; exfalso; omega) | (intro b h1 h2 h3; have h4 : _ = _ := h3; (try dsimp only at h2); exfalso; omega) | (intro h1; have h2 : _ = _ := h1; exfalso; omega) | (intros; exfalso; (try dsimp only at *); omega) | (intro b h1 h2 h3; exfalso; have h4 := h3.2; (try dsimp only at *); omega) | (intro h1; exfalso; have h4 := h1.2; (try dsimp only at *); omega) | (intro x h1 h2; exfalso; have h4 := h2.2; (try dsimp only at *); omega) | (intro x h1 h2; exact ⟨_, rfl, h2⟩) | (intro x h1 h2; exact h2.1) | (intro x h1 h2; rcases h2.1 with h3 | h3; exact h3; exfalso; omega) | (intro x h1 h2; rcases h2 with h3 | h3; exact h3; exfalso; omega))
    replace hB := hB.chg k8 (by first | (intro x h1 h2; exact h2) | (intro x h0 h1 h2; exact hS x h1 h2) | (intro x h0 h1 h2; have h3 : _ = _ := h2; subst h3; exact hSR h1.1) | (intro x h1 h2; have h3 : _ = _ := h2; subst h3; assumption) | (intro x h1 h2; have h3 : _ = _ := h2; exfalso; omega) | (intro b h1 h2 h3; have h4 : _ = _ := h3; (try dsimp only at h2); exfalso; omega) | (intro h1; have h2 : _ = _ := h1; exfalso; omega) | (intros; exfalso; (try dsimp only at *); omega) | (intro b h1 h2 h3; exfalso; have h4 := h3.2; (try dsimp only at *); omega) | (intro h1; exfalso; have h4 := h1.2; (try dsimp only at *); omega) | (intro x h1 h2; exfalso; have h4 := h2.2; (try dsimp only at *); omega) | (intro x h1 h2; exact ⟨_, rfl, h2⟩) | (intro x h1 h2; exact h2.1) | (intro x h1 h2; rcases h2.1 with h3 | h3; exact h3; exfalso; omega) | (intro x h1 h2; rcases h2 with h3 | h3; exact h3; exfalso; omega))
    refine WL.nil (WX.then_normal (WC.seq (WC.region (WL.assign rfl rfl (WL.nil (WX.then_normal (WC.ret (?_))))))))
    refine WX.ret1 (.inl rfl) Try.results20 rfl ?_
    first
      | (have hh : ¬ isS s d := h9
         rw [if_neg hh, if_neg hh]
         exact ⟨_, rfl, rfl, h, hw⟩)
      | (rw [if_pos h9, if_pos h9]
         refine ⟨_, rfl, rfl, ⟨aR, hok, m, _, gc, wa, wc, ws, ls, Eq.mp (congrArg (Blk _ R 66) ?_) hB, hI8.mono (fun x hx => hx.1), hls, hws⟩, hw⟩
         simp [loseS, forgetS])
  ·
    rw [show decide (0 ≤ d ∧ d < (s.dn : Int)) = false from decide_eq_false h9]
    refine WL.not rfl rfl (WL.nil (WX.then_normal (WC.cond_true rfl (WC.seq (WC.region (WL.assign rfl rfl (WL.nil (?_))))))))
    refine WX.then_normal (WC.ret (WX.then_ret (?_)))
    refine WX.ret1 (.inl rfl) Try.results20 rfl ?_
    first
      | (have hh : ¬ isS s d := h9
         rw [if_neg hh, if_neg hh]
         exact ⟨_, rfl, rfl, h, hw⟩)
      | (rw [if_pos h9, if_pos h9]
         refine ⟨_, rfl, rfl, ⟨aR, hok, m, _, gc, wa, wc, ws, ls, Eq.mp (congrArg (Blk _ R 66) ?_) hB, hI8.mono (fun x hx => hx.1), hls, hws⟩, hw⟩
         simp [loseS, forgetS])
/-! a new drive -/
def delN {V : Type} (l : List (Pl × V)) (d : Int) : Nat → List (Pl × V)
  | 0 => l
  | n + 1 => mdel (delN l d n) (d, (n : Int))
section
variable {K V : Type} [DecidableEq K]
theorem mdel_mem {l : List (K × V)} {k : K} {x : K × V} (h : x ∈ mdel l k) : x ∈ l := by
  induction l with
  | nil => exact h
  | cons p r ih =>
    obtain ⟨k', u⟩ := p
    simp only [mdel] at h
    split at h
    · exact List.mem_cons_of_mem _ h
    · rcases List.mem_cons.1 h with h1 | h1
      · rw [h1]; exact List.mem_cons_self ..
      · exact List.mem_cons_of_mem _ (ih h1)
theorem mdel_nodup {l : List (K × V)} {k : K} (h : (l.map (·.1)).Nodup) : ((mdel l k).map (·.1)).Nodup := by
  induction l with
  | nil => exact h
  | cons p r ih =>
    obtain ⟨k', u⟩ := p
    rw [List.map_cons, List.nodup_cons] at h
    simp only [mdel]
    split
    · exact h.2
    · rw [List.map_cons, List.nodup_cons]
      refine ⟨fun h1 => h.1 ?_, ih h.2⟩
      obtain ⟨x, hx, e⟩ := List.mem_map.1 h1
      exact List.mem_map.2 ⟨x, mdel_mem hx, e⟩
theorem mget_del {l : List (K × V)} (h : (l.map (·.1)).Nodup) (k j : K) : mget (mdel l k) j = if j = k then none else mget l j := by
  induction l with
  | nil => simp [mdel, mget]
  | cons p r ih =>
    obtain ⟨k', u⟩ := p
    rw [List.map_cons, List.nodup_cons] at h
    simp only [mdel]
    by_cases e : k = k'
    · subst e
      simp only [if_true, mget]
      by_cases e2 : j = k
      · subst e2
        simp only [if_true]
        exact mget_no (fun x hx he => h.1 (List.mem_map.2 ⟨x, hx, he⟩))
      · simp [e2]
    · simp only [e, if_false, mget, ih h.2]
      by_cases e2 : j = k'
      · subst e2
        have : ¬ j = k := fun c => e c.symm
        simp [this]
      · simp [e2]
end
theorem delN_mem {V : Type} {l : List (Pl × V)} {d : Int} {n : Nat} {x : Pl × V} (h : x ∈ delN l d n) : x ∈ l := by
  induction n with
  | zero => exact h
  | succ n ih => exact ih (mdel_mem h)
theorem delN_nodup {V : Type} {l : List (Pl × V)} (h : (l.map (·.1)).Nodup) (d : Int) (n : Nat) : ((delN l d n).map (·.1)).Nodup := by
  induction n with
  | zero => exact h
  | succ n ih => exact mdel_nodup ih
theorem delN_get {V : Type} {l : List (Pl × V)} (h : (l.map (·.1)).Nodup) (d : Int) (n : Nat) (p : Pl) : mget (delN l d n) p = if p.1 = d ∧ 0 ≤ p.2 ∧ p.2 < n then none else mget l p := by
  induction n with
  | zero =>
    rw [if_neg (by omega)]
    rfl
  | succ n ih =>
    rw [delN, mget_del (delN_nodup h d n), ih]
    obtain ⟨p1, p2⟩ := p
    by_cases h1 : (p1, p2) = (d, (n : Int))
    · rw [if_pos h1]
      injection h1 with h1 h2
      rw [if_pos ⟨h1, by show 0 ≤ p2; omega, by show p2 < _; omega⟩]
    · rw [if_neg h1]
      by_cases h2 : p1 = d ∧ 0 ≤ p2 ∧ p2 < (n : Int)
      · rw [if_pos h2, if_pos ⟨h2.1, h2.2.1, by show p2 < _; have := h2.2.2; omega⟩]
      · rw [if_neg h2, if_neg]
        rintro ⟨h3, h4, h5⟩
        have h5' : p2 < ((n + 1 : Nat) : Int) := h5
        have h6 : p2 = n ∨ p2 < n := by omega
        rcases h6 with h6 | h6
        · exact h1 (by rw [h6]; show (p1, _) = _; rw [show p1 = d from h3])
        · exact h2 ⟨h3, h4, h6⟩
theorem xsm_del (l : List (Pl × Rw)) (p : Pl) : xsm (mdel l p) = mdel (xsm l) p := by
  induction l with
  | nil => rfl
  | cons x r ih =>
    obtain ⟨k', u⟩ := x
    simp only [xsm, List.map_cons, mdel] at ih ⊢
    by_cases h : p = k'
    · simp [h]
    · simp [h, ih]
theorem xsm_delN (l : List (Pl × Rw)) (d : Int) (n : Nat) : xsm (delN l d n) = delN (xsm l) d n := by
  induction n with
  | zero => rfl
  | succ n ih => rw [delN, xsm_del, ih]; rfl
def replaceS (s : RA) (d : Int) : RA := { loseS s d false with last := delN s.last d s.sn }
theorem replaceS_ok {s : RA} (h : s.ok) (d : Int) : (replaceS s d).ok := by
  have h1 := loseS_ok h d false
  exact ⟨h1.dn, h1.sn, h1.gl, fun p hp => h.ll p (delN_mem hp), h1.lw, h1.lf, delN_nodup h.nd d s.sn⟩
theorem Replace_calls {A : Nat → Prop} {w : World} {R : Nat} {s : RA} (h : RK A w R s) (d : Int) :
    Calls Try.prog 23 [ptr R, vi d].toArray w (Ret fun v w' => v = vi (if isS s d then 0 else 1) ∧ RK A w' R (if isS s d then replaceS s d else s) ∧ Chg A w w') := by
  have aR := h.aR
  have hok := replaceS_ok h.ok d
  have hgl := h.ok.gl
  have hsn := h.ok.sn
  have hw := Chg.refl A w
  refine Calls.of_WC Try.func23 rfl Try.ntmps23 (by simp) ?_
  refine WC.seq (WC.region (WL.assign rfl rfl (WL.nil (WX.then_normal (WC.seq (WC.seq (WC.region (?_))))))))
  refine WL.move rfl rfl (WL.move rfl rfl (?_))
  refine WL.call eg_35 rfl rfl (is_calls h d) ?_
  rintro v w1 ⟨rfl, k1⟩
  have zs_k1 := k1.size
  replace h := h.pure k1
  replace hw := hw.pure k1
  by_cases h9 : isS s d
  ·
    rw [show decide (0 ≤ d ∧ d < (s.dn : Int)) = true from decide_eq_true h9]
    refine WL.not rfl rfl (WL.nil (WX.then_normal (WC.cond_false rfl (WC.skip (WX.then_normal (WC.seq (WC.region (?_))))))))
    refine WL.move rfl rfl (WL.move rfl rfl (?_))
    refine WL.call eg_36 rfl rfl (forget_calls h d) ?_
    rintro v w2 ⟨rfl, h2, k2⟩
    have zs_k2 := k2.size
    replace hw := hw.chg k2 (by first | (intro x h1 h2; exact h2) | (intro x h0 h1 h2; exact hS x h1 h2) | (intro x h0 h1 h2; have h3 : _ = _ := h2; subst h3; exact hSR h1.1) | (intro x h1 h2; have h3 : _ = _ := h2; subst h3; assumption) | (intro x h1 h2; have h3 : _ = _ := h2; exfalso; omega) | (intro b h1 h2 h3; have h4 : _ = _ := h3; (try dsimp only at h2); exfalso; omega) | (intro h1; have h2 : _ = _ := h1; exfalso; omega) | (intros; exfalso; (try dsimp only at *); omega) | (intro b h1 h2 h3; exfalso; have h4 := h3.2; (try dsimp only at *); omega) | (intro h1; exfalso; have h4 := h1.2; (try dsimp only at *); omega) | (intro x h1 h2; exfalso; have h4 := h2.2; (try dsimp only at *); omega) | (intro x h1 h2; exact ⟨_, rfl, h2⟩) | (intro x h1 h2; exact h2.1) | (intro x h1 h2; rcases h2.1 with h3 | h3; exact h3; exfalso; omega) | (intro x h1 h2; rcases h2 with h3 | h3; exact h3; exfalso; omega))
    obtain ⟨m, ga, gc, wa, wc, ws, ls, hB, hI, hls, hws⟩ := h2.ex
    have am : A m := hI.sm
    replace hI := hI.open hB
    have hmR : m ≠ R := hI.sm.2
    have hg0 : d.toNat < s.gone.length := by have h1 := h9.1; have h2 := h9.2; omega
    obtain ⟨g, rfl⟩ := hI.gone.place0 hg0
    have hgR : g ≠ R := (hI.gone.at_ _ rfl).2
    have aG : A g := (hI.gone.at_ _ rfl).1
    refine WL.nil (WX.then_normal (WC.seq (WC.region (WL.move rfl rfl (WL.nilCheck rfl rfl (WL.fieldAddr (fld_66_3) rfl rfl (WL.loadB Try.isAgg23 hB rfl rfl rfl (?_))))))))
    refine WL.move rfl rfl (?_)
    refine WL.index (j := d.toNat) Try.underlying23 Try.sizeOf4 rfl rfl (by have := h9.1; omega) hg0 rfl ?_
    refine WL.storeRow (z := false) d.toNat Try.sizeOf4 hI.gone rfl rfl rfl (by show 0 + d.toNat * 1 = d.toNat; omega) hg0 rfl ?_
    intro w8 z8 hG8 k8
    have hI8 := hI.setGone hG8 k8
    have zs_k8 := k8.size
    replace hw := hw.chg k8 (by first | (intro x h1 h2; exact h2) | (intro x h0 h1 h2; exact hS x h1 h2) | (intro x h0 h1 h2; have h3 : _ = _ := h2; subst h3; exact hSR h1.1) | (intro x h1 h2; have h3 : _ = _ := h2; subst h3; assumption) | (intro x h1 h2; have h3 : _ = _ := h2; exfalso; omega) | (intro b h1 h2 h3; have h4 : _ = _ := h3; (try dsimp only at h2); exfalso; omega) | (intro h1; have h2 : _ = _ := h1; exfalso; omega) | (intros; exfalso; (try dsimp only at *); omega) | (intro b h1 h2 h3; exfalso; have h4 := h3.2; (try dsimp only at *); omega) | (intro h1; exfalso; have h4 := h1.2; (try dsimp only at *); omega) | (intro x h1 h2; exfalso; have h4 := h2.2; (try dsimp only at *); omega) | (intro x h1 h2; exact ⟨_, rfl, h2⟩) | (intro x h1 h2; exact h2.1) | (intro x h1 h2; rcases h2.1 with h3 | h3; exact h3; exfalso; omega) | (intro x h1 h2; rcases h2 with h3 | h3; exact h3; exfalso; omega))
    replace hB := hB.chg k8 (by first | (intro x h1 h2; exact h2) | (intro x h0 h1 h2; exact hS x h1 h2) | (intro x h0 h1 h2; have h3 : _ = _ := h2; subst h3; exact hSR h1.1) | (intro x h1 h2; have h3 : _ = _ := h2; subst h3; assumption) | (intro x h1 h2; have h3 : _ = _ := h2; exfalso; omega) | (intro b h1 h2 h3; have h4 : _ = _ := h3; (try dsimp only at h2); exfalso; omega) | (intro h1; have h2 : _ = _ := h1; exfalso; omega) | (intros; exfalso; (try dsimp only at *); omega) | (intro b h1 h2 h3; exfalso; have h4 := h3.2; (try dsimp only at *); omega) | (intro h1; exfalso; have h4 := h1.2; (try dsimp only at *); omega) | (intro x h1 h2; exfalso; have h4 := h2.2; (try dsimp only at *); omega) | (intro x h1 h2; exact ⟨_, rfl, h2⟩) | (intro x h1 h2; exact h2.1) | (intro x h1 h2; rcases h2.1 with h3 | h3; exact h3; exfalso; omega) | (intro x h1 h2; rcases h2 with h3 | h3; exact h3; exfalso; omega))
    refine WL.nil (WX.then_normal (WC.seq (WC.seq (WC.region (WL.move rfl rfl (WL.nilCheck rfl rfl (WL.fieldAddr (fld_66_1) rfl rfl (?_))))))))
    refine WL.loadB Try.isAgg3 hB rfl rfl rfl (WL.move rfl rfl (WL.nil (WX.then_normal (WC.block (?_)))))
    refine WC.loop (σ := Nat) (fun i => [(0, ptr R), (1, vi d), (22, vi s.sn), (23, vi (i : Int))]) (fun i w' => i ≤ s.sn ∧ Blk w' R 66 (rcells (forgetS s d) m (some ⟨g, 0, none⟩) gc wa wc ws.length) ∧ RI (fun b => A b ∧ b ≠ R) w' m (some ⟨g, 0, none⟩) gc wa wc (s.gone.set d.toNat false) ws (delN ls d i) ∧ Chg A w w') (fun i => s.sn - i) 0 ⟨rfl, rfl, rfl, rfl, trivial⟩ ⟨Nat.zero_le _, hB, hI8, hw⟩ ?_
    clear hB hI8 hw
    rintro i w1 ⟨hi, hB, hI, hw⟩
    refine WC.seq (WC.region (?_))
    refine WL.lss? rfl rfl rfl (fun h24 => ?_) (fun h24 => ?_)
    ·
      refine WL.nil (WX.then_normal (WC.seq (WC.cond_true rfl (WC.skip (WX.then_normal (WC.seq (WC.block (?_))))))))
      refine WC.seq (WC.region (WL.move rfl rfl (WL.assign rfl rfl (WL.nil (WX.then_normal (WC.region (WL.move rfl rfl (?_))))))))
      refine WL.nilCheck rfl rfl (WL.fieldAddr (fld_66_2) rfl rfl (WL.loadB Try.isAgg63 hB rfl rfl rfl (WL.move rfl rfl (WL.move rfl rfl (WL.bld rfl (bld_69_0_1 _ _) rfl (?_))))))
      refine WL.mdel0 plOk Try.underlying63 hI.map rfl (show _ = some (kpl (d, (i : Int))) from rfl) rfl ?_
      intro w9 z9 hM9 k9
      have hI9 := hI.putMap hM9 k9 (fun p hp => .inl ⟨p, mdel_mem hp, rfl⟩)
      have zs_k9 := k9.size
      replace hB := hB.chg k9 (by first | (intro x h1 h2; exact h2) | (intro x h0 h1 h2; exact hS x h1 h2) | (intro x h0 h1 h2; have h3 : _ = _ := h2; subst h3; exact hSR h1.1) | (intro x h1 h2; have h3 : _ = _ := h2; subst h3; assumption) | (intro x h1 h2; have h3 : _ = _ := h2; exfalso; omega) | (intro b h1 h2 h3; have h4 : _ = _ := h3; (try dsimp only at h2); exfalso; omega) | (intro h1; have h2 : _ = _ := h1; exfalso; omega) | (intros; exfalso; (try dsimp only at *); omega) | (intro b h1 h2 h3; exfalso; have h4 := h3.2; (try dsimp only at *); omega) | (intro h1; exfalso; have h4 := h1.2; (try dsimp only at *); omega) | (intro x h1 h2; exfalso; have h4 := h2.2; (try dsimp only at *); omega) | (intro x h1 h2; exact ⟨_, rfl, h2⟩) | (intro x h1 h2; exact h2.1) | (intro x h1 h2; rcases h2.1 with h3 | h3; exact h3; exfalso; omega) | (intro x h1 h2; rcases h2 with h3 | h3; exact h3; exfalso; omega))
      replace hw := hw.chg k9 (by first | (intro x h1 h2; exact h2) | (intro x h0 h1 h2; exact hS x h1 h2) | (intro x h0 h1 h2; have h3 : _ = _ := h2; subst h3; exact hSR h1.1) | (intro x h1 h2; have h3 : _ = _ := h2; subst h3; assumption) | (intro x h1 h2; have h3 : _ = _ := h2; exfalso; omega) | (intro b h1 h2 h3; have h4 : _ = _ := h3; (try dsimp only at h2); exfalso; omega) | (intro h1; have h2 : _ = _ := h1; exfalso; omega) | (intros; exfalso; (try dsimp only at *); omega) | (intro b h1 h2 h3; exfalso; have h4 := h3.2; (try dsimp only at *); omega) | (intro h1; exfalso; have h4 := h1.2; (try dsimp only at *); omega) | (intro x h1 h2; exfalso; have h4 := h2.2; (try dsimp only at *); omega) | (intro x h1 h2; exact ⟨_, rfl, h2⟩) | (intro x h1 h2; exact h2.1) | (intro x h1 h2; rcases h2.1 with h3 | h3; exact h3; exfalso; omega) | (intro x h1 h2; rcases h2 with h3 | h3; exact h3; exfalso; omega))
      refine WL.nil (WX.block_normal (WX.then_normal (WC.region (WL.add64 rfl rfl (by first | omega | (constructor <;> omega)) rfl (WL.move rfl rfl (WL.nil (?_)))))))
      exact WX.loop_next (i + 1) ⟨rfl, rfl, rfl, rfl, trivial⟩ ⟨by omega, hB, hI9, hw⟩ (by omega)
    ·
      refine WL.nil (WX.then_normal (WC.seq (WC.cond_false rfl (WC.exit (WX.then_exit (WX.then_exit (WX.block_here (?_))))))))
      refine WX.then_normal (WC.seq (WC.region (WL.assign rfl rfl (WL.nil (WX.then_normal (WC.ret (?_)))))))
      refine WX.ret1 (.inl rfl) Try.results23 rfl ?_
      first
        | (have hh : ¬ isS s d := h9
           rw [if_neg hh, if_neg hh]
           exact ⟨_, rfl, rfl, h, hw⟩)
        | (have hil : i = s.sn := by omega
           subst hil
           rw [if_pos h9, if_pos h9]
           refine ⟨_, rfl, rfl, ⟨aR, hok, m, _, gc, wa, wc, ws, delN ls d s.sn, Eq.mp (congrArg (Blk _ R 66) ?_) hB, hI.mono (fun x hx => hx.1), ?_, hws⟩, hw⟩
           ·
             simp [replaceS, loseS, forgetS]
           ·
             rw [xsm_delN, ← hls]
             rfl)
  ·
    rw [show decide (0 ≤ d ∧ d < (s.dn : Int)) = false from decide_eq_false h9]
    refine WL.not rfl rfl (WL.nil (WX.then_normal (WC.cond_true rfl (WC.seq (WC.region (WL.assign rfl rfl (WL.nil (?_))))))))
    refine WX.then_normal (WC.ret (WX.then_ret (?_)))
    refine WX.ret1 (.inl rfl) Try.results23 rfl ?_
    first
      | (have hh : ¬ isS s d := h9
         rw [if_neg hh, if_neg hh]
         exact ⟨_, rfl, rfl, h, hw⟩)
      | (have hil : i = s.sn := by omega
         subst hil
         rw [if_pos h9, if_pos h9]
         refine ⟨_, rfl, rfl, ⟨aR, hok, m, _, gc, wa, wc, ws, delN ls d s.sn, Eq.mp (congrArg (Blk _ R 66) ?_) hB, hI.mono (fun x hx => hx.1), ?_, hws⟩, hw⟩
         ·
           simp [replaceS, loseS, forgetS]
         ·
           rw [xsm_delN, ← hls]
           rfl)
end Go.Proofs.Ytdjlfbadcijjaaa
