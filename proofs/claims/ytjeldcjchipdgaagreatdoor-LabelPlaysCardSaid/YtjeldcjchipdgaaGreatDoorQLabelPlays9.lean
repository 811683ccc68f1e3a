import Derived.Test.YtjeldcjchipdgaaGreatDoorQLabelPlays8
namespace Go.Proofs.YtjeldcjchipdgaaGreatDoor
open Go.RowKit Go.HL
set_option maxRecDepth 100000
theorem xsm_stay (d : Int) (l : List (Pl × Rw)) : xsm (stay d l) = stay d (xsm l) := by
 unfold stay xsm
 rw [List.filter_map]
 rfl
def forgetS (s : RA) (d : Int) : RA := { s with waits := stay d s.waits }
theorem forgetS_ok {s : RA} (h : s.ok) (d : Int) : (forgetS s d).ok := ⟨h.dn, h.sn, h.gl, h.ll, fun p hp => h.lw p (List.mem_filter.1 hp).1, h.lf, h.nd⟩
theorem forget_calls {A : Nat → Prop} {w : World} {R : Nat} {s : RA} (h : RK A w R s) (d : Int) :
 Calls Tryz.prog 55 [ptr R, vi d].toArray w (Ret fun v w' => v = .tuple #[] ∧ RK A w' R (forgetS s d) ∧ Chg A w w') := by
 have aR := h.aR
 have hok := forgetS_ok h.ok d
 obtain ⟨m, ga, gc, wa, wc, ws, ls, hB, hI, hls, hws⟩ := h.old.ex
 replace hI := hI.open hB
 have lR := hB.lt
 have hw := Chg.refl A w
 refine Calls.of_WC Tryz.func55 rfl Tryz.ntmps55 (by simp) ?_
 refine WC.sr (WL.box rfl rfl ?_)
 intro g_1 w_1 hge_1 hlt_1 hb_1 k_1
 replace hB := hB.pure k_1
 replace hI := hI.pure k_1
 replace hw := hw.pure k_1
 refine WL.t (WC.region (WL.move rfl rfl (WL.move rfl rfl (WL.nilCheck rfl rfl (WL.fieldAddr (fld_92_4) rfl rfl (WL.qd Tryz.isAgg90 hB rfl rfl rfl (WL.makeFun rfl rfl ?_)))))))
 refine WL.call eg_79 rfl rfl (delete_calls (d := d) hb_1 hI.waits) ?_
 rintro v w2 ⟨rfl, hW2, k2⟩
 have k3 : Chg (fun x => A x ∧ x ≠ R) _ w2 := k2.mono (fun x _ hx => ⟨(hI.waits.at_.eqb hx).1.1, (hI.waits.at_.eqb hx).2⟩)
 have hI2 := hI.setWaits hW2 k2 (fun b hb => hb) (fun p hp => .inl ⟨p, (List.mem_filter.1 hp).1, rfl⟩)
 replace hB := hB.chg k3 (by intro h1; exfalso; have h4 := h1.2; (try dsimp only at *); omega)
 replace hw := hw.chg k3 (by intro x h1 h2; exact h2.1)
 refine WL.nilCheck rfl rfl (WL.fieldAddr (fld_92_4) rfl rfl (WL.store Tryz.sizeOf90 hB rfl rfl rfl rfl ?_))
 intro w_2 hs_2 hn_2 k_2
 replace hw := hw.chg k_2 (by intro x h1 h2; have h3 : _ = _ := h2; subst h3; assumption)
 replace hI2 := hI2.chg k_2 (by intro b h1 h2 h3; have h4 : _ = _ := h3; (try dsimp only at h2); exfalso; omega)
 replace hB := hn_2
 refine WL.nil (WX.ret0 (.inr rfl) Tryz.results55 ?_)
 exact ⟨_, rfl, rfl, ⟨aR, hok, m, ga, gc, wa, wc, stay d ws, ls, hB, hI2.mono (fun x hx => hx.1.1), hls, by rw [xsm_stay, ← hws]; rfl⟩, hw⟩
def loseS (s : RA) (d : Int) (b : Bool) : RA := { s with waits := stay d s.waits, gone := s.gone.set d.toNat b }
theorem loseS_ok {s : RA} (h : s.ok) (d : Int) (b : Bool) : (loseS s d b).ok := ⟨h.dn, h.sn, by show (s.gone.set d.toNat b).length = s.dn; rw [List.length_set]; exact h.gl, h.ll, fun p hp => h.lw p (List.mem_filter.1 hp).1, h.lf, h.nd⟩
theorem Lose_calls {A : Nat → Prop} {w : World} {R : Nat} {s : RA} (h : RK A w R s) (d : Int) :
 Calls Tryz.prog 15 [ptr R, vi d].toArray w (Ret fun v w' => v = vi (if isS s d then 0 else 1) ∧ RK A w' R (if isS s d then loseS s d true else s) ∧ Chg A w w') := by
 have aR := h.aR
 have hok := loseS_ok h.ok d true
 have hgl := h.ok.gl
 have hw := Chg.refl A w
 refine Calls.of_WC Tryz.func15 rfl Tryz.ntmps15 (by simp) ?_
 refine WC.sr (WL.assign rfl rfl (WL.t (WC.seq (WC.sr (WL.move rfl rfl (WL.move rfl rfl (WL.call eg_54 rfl rfl (is_calls h d) ?_)))))))
 rintro v w1 ⟨rfl, k1⟩
 replace h := h.pure k1
 replace hw := hw.pure k1
 by_cases h9 : isS s d
 ·rw [show decide (0 ≤ d ∧ d < (s.dn : Int)) = true from decide_eq_true h9]
  refine WL.not rfl rfl (WL.t (WC.qa rfl (WC.skip (WX.qa (WC.sr (WL.move rfl rfl (WL.move rfl rfl (WL.call eg_55 rfl rfl (forget_calls h d) ?_))))))))
  rintro v w2 ⟨rfl, h2, k2⟩
  replace hw := hw.chg k2 (by intro x h1 h2; exact h2)
  obtain ⟨m, ga, gc, wa, wc, ws, ls, hB, hI, hls, hws⟩ := h2.ex
  replace hI := hI.open hB
  have hg0 : d.toNat < s.gone.length := by have h1 := h9.1; have h2 := h9.2; omega
  obtain ⟨g, rfl⟩ := hI.gone.place0 hg0
  have hgR : g ≠ R := (hI.gone.at_ _ rfl).2
  have aG : A g := (hI.gone.at_ _ rfl).1
  refine WL.t (WC.sr (WL.move rfl rfl (WL.nilCheck rfl rfl (WL.fieldAddr (fld_92_3) rfl rfl (WL.qd Tryz.isAgg84 hB rfl rfl rfl (WL.move rfl rfl (?_)))))))
  refine WL.index (j := d.toNat) Tryz.underlying84 Tryz.sizeOf4 rfl rfl (by have := h9.1; omega) hg0 rfl ?_
  refine WL.qt (z := true) d.toNat Tryz.sizeOf4 hI.gone rfl rfl rfl (by show 0 + d.toNat * 1 = d.toNat; omega) hg0 rfl ?_
  intro w8 z8 hG8 k8
  have hI8 := hI.setGone hG8 k8
  replace hw := hw.chg k8 (by intro x h1 h2; have h3 : _ = _ := h2; subst h3; assumption)
  replace hB := hB.chg k8 (by intro h1; have h2 : _ = _ := h1; exfalso; omega)
  refine WL.t (WC.sr (WL.assign rfl rfl (WL.t (WC.ret (WX.qg (.inl rfl) Tryz.results15 rfl ?_)))))
  first
   |(have hh : ¬ isS s d := h9
     rw [if_neg hh, if_neg hh]
     exact ⟨_, rfl, rfl, h, hw⟩)
   |(rw [if_pos h9, if_pos h9]
     refine ⟨_, rfl, rfl, ⟨aR, hok, m, _, gc, wa, wc, ws, ls, Eq.mp (congrArg (Blk _ R 92) ?_) hB, hI8.mono (fun x hx => hx.1), hls, hws⟩, hw⟩
     simp [loseS, forgetS])
 ·rw [show decide (0 ≤ d ∧ d < (s.dn : Int)) = false from decide_eq_false h9]
  refine WL.not rfl rfl (WL.t (WC.qb rfl (WC.sr (WL.assign rfl rfl (WL.nil (WX.qa (WC.ret (WX.qb (WX.qg (.inl rfl) Tryz.results15 rfl ?_)))))))))
  first
   |(have hh : ¬ isS s d := h9
     rw [if_neg hh, if_neg hh]
     exact ⟨_, rfl, rfl, h, hw⟩)
   |(rw [if_pos h9, if_pos h9]
     refine ⟨_, rfl, rfl, ⟨aR, hok, m, _, gc, wa, wc, ws, ls, Eq.mp (congrArg (Blk _ R 92) ?_) hB, hI8.mono (fun x hx => hx.1), hls, hws⟩, hw⟩
     simp [loseS, forgetS])
def delN {V : Type} (l : List (Pl × V)) (d : Int) : Nat → List (Pl × V)
 |0 => l
 |n + 1 => mdel (delN l d n) (d, (n : Int))
section
variable {K V : Type} [DecidableEq K]
theorem mdel_mem {l : List (K × V)} {k : K} {x : K × V} (h : x ∈ mdel l k) : x ∈ l := by
 induction l with
 |nil => exact h
 |cons p r ih =>
  obtain ⟨k', u⟩ := p
  simp only [mdel] at h
  split at h
  ·exact List.mem_cons_of_mem _ h
  ·rcases List.mem_cons.1 h with h1 | h1
   ·rw [h1]; exact List.mem_cons_self ..
   ·exact List.mem_cons_of_mem _ (ih h1)
theorem mdel_nodup {l : List (K × V)} {k : K} (h : (l.map (·.1)).Nodup) : ((mdel l k).map (·.1)).Nodup := by
 induction l with
 |nil => exact h
 |cons p r ih =>
  obtain ⟨k', u⟩ := p
  rw [List.map_cons, List.nodup_cons] at h
  simp only [mdel]
  split
  ·exact h.2
  ·rw [List.map_cons, List.nodup_cons]
   refine ⟨fun h1 => h.1 ?_, ih h.2⟩
   obtain ⟨x, hx, e⟩ := List.mem_map.1 h1
   exact List.mem_map.2 ⟨x, mdel_mem hx, e⟩
theorem mget_del {l : List (K × V)} (h : (l.map (·.1)).Nodup) (k j : K) : mget (mdel l k) j = if j = k then none else mget l j := by
 induction l with
 |nil => simp [mdel, mget]
 |cons p r ih =>
  obtain ⟨k', u⟩ := p
  rw [List.map_cons, List.nodup_cons] at h
  simp only [mdel]
  by_cases e : k = k'
  ·subst e
   simp only [if_true, mget]
   by_cases e2 : j = k
   ·subst e2
    simp only [if_true]
    exact mget_no (fun x hx he => h.1 (List.mem_map.2 ⟨x, hx, he⟩))
   ·simp [e2]
  ·simp only [e, if_false, mget, ih h.2]
   by_cases e2 : j = k'
   ·subst e2
    have : ¬ j = k := fun c => e c.symm
    simp [this]
   ·simp [e2]
end
theorem delN_mem {V : Type} {l : List (Pl × V)} {d : Int} {n : Nat} {x : Pl × V} (h : x ∈ delN l d n) : x ∈ l := by
 induction n with
 |zero => exact h
 |succ n ih => exact ih (mdel_mem h)
theorem delN_nodup {V : Type} {l : List (Pl × V)} (h : (l.map (·.1)).Nodup) (d : Int) (n : Nat) : ((delN l d n).map (·.1)).Nodup := by
 induction n with
 |zero => exact h
 |succ n ih => exact mdel_nodup ih
theorem delN_get {V : Type} {l : List (Pl × V)} (h : (l.map (·.1)).Nodup) (d : Int) (n : Nat) (p : Pl) : mget (delN l d n) p = if p.1 = d ∧ 0 ≤ p.2 ∧ p.2 < n then none else mget l p := by
 induction n with
 |zero =>
  rw [if_neg (by omega)]
  rfl
 |succ n ih =>
  rw [delN, mget_del (delN_nodup h d n), ih]
  obtain ⟨p1, p2⟩ := p
  by_cases h1 : (p1, p2) = (d, (n : Int))
  ·rw [if_pos h1]
   injection h1 with h1 h2
   rw [if_pos ⟨h1, by show 0 ≤ p2; omega, by show p2 < _; omega⟩]
  ·rw [if_neg h1]
   by_cases h2 : p1 = d ∧ 0 ≤ p2 ∧ p2 < (n : Int)
   ·rw [if_pos h2, if_pos ⟨h2.1, h2.2.1, by show p2 < _; have := h2.2.2; omega⟩]
   ·rw [if_neg h2, if_neg]
    rintro ⟨h3, h4, h5⟩
    have h6 : p2 = n ∨ p2 < n := by omega
    rcases h6 with h6 | h6
    ·exact h1 (by rw [h6]; show (p1, _) = _; rw [show p1 = d from h3])
    ·exact h2 ⟨h3, h4, h6⟩
theorem xsm_del (l : List (Pl × Rw)) (p : Pl) : xsm (mdel l p) = mdel (xsm l) p := by
 induction l with
 |nil => rfl
 |cons x r ih =>
  obtain ⟨k', u⟩ := x
  simp only [xsm, List.map_cons, mdel] at ih ⊢
  by_cases h : p = k'
  ·simp [h]
  ·simp [h, ih]
theorem xsm_delN (l : List (Pl × Rw)) (d : Int) (n : Nat) : xsm (delN l d n) = delN (xsm l) d n := by
 induction n with
 |zero => rfl
 |succ n ih => rw [delN, xsm_del, ih]; rfl
def replaceS (s : RA) (d : Int) : RA := { loseS s d false with last := delN s.last d s.sn }
theorem replaceS_ok {s : RA} (h : s.ok) (d : Int) : (replaceS s d).ok := by
 have h1 := loseS_ok h d false
 exact ⟨h1.dn, h1.sn, h1.gl, fun p hp => h.ll p (delN_mem hp), h1.lw, h1.lf, delN_nodup h.nd d s.sn⟩
theorem Replace_calls {A : Nat → Prop} {w : World} {R : Nat} {s : RA} (h : RK A w R s) (d : Int) :
 Calls Tryz.prog 17 [ptr R, vi d].toArray w (Ret fun v w' => v = vi (if isS s d then 0 else 1) ∧ RK A w' R (if isS s d then replaceS s d else s) ∧ Chg A w w') := by
 have aR := h.aR
 have hok := replaceS_ok h.ok d
 have hgl := h.ok.gl
 have hsn := h.ok.sn
 have hw := Chg.refl A w
 refine Calls.of_WC Tryz.func17 rfl Tryz.ntmps17 (by simp) ?_
 refine WC.sr (WL.assign rfl rfl (WL.t (WC.seq (WC.sr (WL.move rfl rfl (WL.move rfl rfl (WL.call eg_54 rfl rfl (is_calls h d) ?_)))))))
 rintro v w1 ⟨rfl, k1⟩
 replace h := h.pure k1
 replace hw := hw.pure k1
 by_cases h9 : isS s d
 ·rw [show decide (0 ≤ d ∧ d < (s.dn : Int)) = true from decide_eq_true h9]
  refine WL.not rfl rfl (WL.t (WC.qa rfl (WC.skip (WX.qa (WC.sr (WL.move rfl rfl (WL.move rfl rfl (WL.call eg_55 rfl rfl (forget_calls h d) ?_))))))))
  rintro v w2 ⟨rfl, h2, k2⟩
  replace hw := hw.chg k2 (by intro x h1 h2; exact h2)
  obtain ⟨m, ga, gc, wa, wc, ws, ls, hB, hI, hls, hws⟩ := h2.ex
  have am : A m := hI.sm
  replace hI := hI.open hB
  have hmR : m ≠ R := hI.sm.2
  have hg0 : d.toNat < s.gone.length := by have h1 := h9.1; have h2 := h9.2; omega
  obtain ⟨g, rfl⟩ := hI.gone.place0 hg0
  have hgR : g ≠ R := (hI.gone.at_ _ rfl).2
  have aG : A g := (hI.gone.at_ _ rfl).1
  refine WL.t (WC.sr (WL.move rfl rfl (WL.nilCheck rfl rfl (WL.fieldAddr (fld_92_3) rfl rfl (WL.qd Tryz.isAgg84 hB rfl rfl rfl (WL.move rfl rfl (?_)))))))
  refine WL.index (j := d.toNat) Tryz.underlying84 Tryz.sizeOf4 rfl rfl (by have := h9.1; omega) hg0 rfl ?_
  refine WL.qt (z := false) d.toNat Tryz.sizeOf4 hI.gone rfl rfl rfl (by show 0 + d.toNat * 1 = d.toNat; omega) hg0 rfl ?_
  intro w8 z8 hG8 k8
  have hI8 := hI.setGone hG8 k8
  replace hw := hw.chg k8 (by intro x h1 h2; have h3 : _ = _ := h2; subst h3; assumption)
  replace hB := hB.chg k8 (by intro h1; have h2 : _ = _ := h1; exfalso; omega)
  refine WL.t (WC.seq (WC.sr (WL.move rfl rfl (WL.nilCheck rfl rfl (WL.fieldAddr (fld_92_1) rfl rfl (WL.qd Tryz.isAgg3 hB rfl rfl rfl (WL.move rfl rfl (WL.t (WC.block (WC.loop (σ := Nat) (fun i => [(0, ptr R), (1, vi d), (22, vi s.sn), (23, vi (i : Int))]) (fun i w' => i ≤ s.sn ∧ Blk w' R 92 (rcells (forgetS s d) m (some ⟨g, 0, none⟩) gc wa wc ws.length) ∧ RI (fun b => A b ∧ b ≠ R) w' m (some ⟨g, 0, none⟩) gc wa wc (s.gone.set d.toNat false) ws (delN ls d i) ∧ Chg A w w') (fun i => s.sn - i) 0 ⟨rfl, rfl, rfl, rfl, trivial⟩ ⟨Nat.zero_le _, hB, hI8, hw⟩ ?_))))))))))
  clear hB hI8 hw
  rintro i w1 ⟨hi, hB, hI, hw⟩
  refine WC.sr (WL.qi rfl rfl rfl (fun h24 => ?_) (fun h24 => ?_))
  ·refine WL.t (WC.seq (WC.qb rfl (WC.skip (WX.qa (WC.seq (WC.block (WC.sr (WL.move rfl rfl (WL.assign rfl rfl (WL.t (WC.region (WL.move rfl rfl (WL.nilCheck rfl rfl (WL.fieldAddr (fld_92_2) rfl rfl (WL.qd Tryz.isAgg89 hB rfl rfl rfl (WL.move rfl rfl (WL.move rfl rfl (WL.bld rfl (bld_99_0_1 _ _) rfl (WL.mdel0 plOk Tryz.underlying89 hI.map rfl (show _ = some (kpl (d, (i : Int))) from rfl) rfl ?_)))))))))))))))))))
   intro w9 z9 hM9 k9
   have hI9 := hI.putMap hM9 k9 (fun p hp => .inl ⟨p, mdel_mem hp, rfl⟩)
   replace hB := hB.chg k9 (by intro h1; have h2 : _ = _ := h1; exfalso; omega)
   replace hw := hw.chg k9 (by intro x h1 h2; have h3 : _ = _ := h2; subst h3; assumption)
   refine WL.nil (WX.qd (WX.qa (WC.region (WL.qe rfl rfl (by omega) rfl (WL.move rfl rfl (WL.nil (?_)))))))
   exact WX.qc (i + 1) ⟨rfl, rfl, rfl, rfl, trivial⟩ ⟨by omega, hB, hI9, hw⟩ (by omega)
  ·refine WL.t (WC.seq (WC.qa rfl (WC.exit (WX.qe (WX.qe (WX.qh (WX.qa (WC.sr (WL.assign rfl rfl (WL.t (WC.ret (WX.qg (.inl rfl) Tryz.results17 rfl ?_))))))))))))
   first
    |(have hh : ¬ isS s d := h9
      rw [if_neg hh, if_neg hh]
      exact ⟨_, rfl, rfl, h, hw⟩)
    |(have hil : i = s.sn := by omega
      subst hil
      rw [if_pos h9, if_pos h9]
      refine ⟨_, rfl, rfl, ⟨aR, hok, m, _, gc, wa, wc, ws, delN ls d s.sn, Eq.mp (congrArg (Blk _ R 92) ?_) hB, hI.mono (fun x hx => hx.1), ?_, hws⟩, hw⟩
      ·simp [replaceS, loseS, forgetS]
      ·rw [xsm_delN, ← hls]
       rfl)
 ·rw [show decide (0 ≤ d ∧ d < (s.dn : Int)) = false from decide_eq_false h9]
  refine WL.not rfl rfl (WL.t (WC.qb rfl (WC.sr (WL.assign rfl rfl (WL.nil (WX.qa (WC.ret (WX.qb (WX.qg (.inl rfl) Tryz.results17 rfl ?_)))))))))
  first
   |(have hh : ¬ isS s d := h9
     rw [if_neg hh, if_neg hh]
     exact ⟨_, rfl, rfl, h, hw⟩)
   |(have hil : i = s.sn := by omega
     subst hil
     rw [if_pos h9, if_pos h9]
     refine ⟨_, rfl, rfl, ⟨aR, hok, m, _, gc, wa, wc, ws, delN ls d s.sn, Eq.mp (congrArg (Blk _ R 92) ?_) hB, hI.mono (fun x hx => hx.1), ?_, hws⟩, hw⟩
     ·simp [replaceS, loseS, forgetS]
     ·rw [xsm_delN, ← hls]
      rfl)
end Go.Proofs.YtjeldcjchipdgaaGreatDoor
namespace Go.Proofs.YtjeldcjchipdgaaGreatDoor
open Go.RowKit Go.HL
set_option maxRecDepth 100000
theorem RI.putMapN {S : Nat → Prop} {w w' : World} {m : Nat} {ga : Option Addr} {gc : Nat} {wa : Option Addr} {wc : Nat} {gl : List Bool} {ws ls ls2 : List (Pl × Rw)} (h : RI S w m ga gc wa wc gl ws ls) (hM : Mp kpl vsl w' m ls2) (k : Chg (· = m) w w') (hn : ∀ p ∈ ls2, (∃ q ∈ ls, q.2 = p.2) ∨ Row S w 5 eb p.2.ao p.2.cap p.2.xs) : RI S w' m ga gc wa wc gl ws ls2 := by
 have hk := h.map.kb
 have hd : ∀ T b, b < w.heap.size → b = m → kb w b ≠ some (some T) := by
  rintro T b _ rfl
  rw [hk]
  simp
 have hb : ∀ p ∈ ls2, Row S w 5 eb p.2.ao p.2.cap p.2.xs := fun p hp => by
  rcases hn p hp with ⟨q, hq, e⟩ | h1
  ·rw [← e]; exact h.byl q hq
  ·exact h1
 exact ⟨h.sm, hM, h.gone.chgK k (hd _), h.waits.chgK k (hd _), fun p hp => (hb p hp).chgK k (hd _), fun p hp => (h.byw p hp).chgK k (hd _)⟩
def rotX (n : Int) : UInt8 := B8 (1 + n / 128 % 255)
def rotB (b : List UInt8) (n : Int) : List UInt8 := b.set (n % 128).toNat (b.getD (n % 128).toNat 0 ^^^ rotX n)
theorem rotB_len (b : List UInt8) (n : Int) : (rotB b n).length = b.length := List.length_set ..
def rotS (s : RA) (p : Pl) (n : Int) : RA := match newV s.waits p with
 |some _ => { s with waits := putW s.waits p (rotB (heldS s p) n) }
 |none => { s with last := mput s.last p (rotB (heldS s p) n) }
def rotE (s : RA) (d a n : Int) : Int := if ¬ inS s d a ∨ n < 0 then 1 else if goneS s d = true then 3 else 0
theorem putW_mem {V : Type} {ws : List (Pl × V)} {p : Pl} {v : V} {x : Pl × V} (h : x ∈ putW ws p v) : x ∈ ws ∨ x = (p, v) := by
 rcases mput_mem (List.mem_reverse.1 h) with h1 | h1
 ·exact .inl (List.mem_reverse.1 h1)
 ·exact .inr h1
theorem rotS_ok {s : RA} (h : s.ok) (p : Pl) (n : Int) : (rotS s p n).ok := by
 have hl : (rotB (heldS s p) n).length = 128 := by rw [rotB_len]; exact heldS_len h p
 unfold rotS
 split
 ·refine ⟨h.dn, h.sn, h.gl, h.ll, fun q hq => ?_, h.lf, h.nd⟩
  rcases putW_mem hq with h1 | h1
  ·exact h.lw q h1
  ·rw [h1]; exact hl
 ·refine ⟨h.dn, h.sn, h.gl, fun q hq => ?_, h.lw, h.lf, mput_nodup h.nd⟩
  rcases mput_mem hq with h1 | h1
  ·exact h.ll q h1
  ·rw [h1]; exact hl
theorem splice3 (A D : List Value) (a b c v : Value) : (A ++ ([a, b, c] ++ D)).take (A.length + 2) ++ [v] ++ (A ++ ([a, b, c] ++ D)).drop (A.length + 2 + 1) = A ++ ([a, b, v] ++ D) := by
 rw [List.take_append, List.drop_append, List.take_of_length_le (l := A) (Nat.le_add_right _ _), List.drop_eq_nil_of_le (show A.length ≤ A.length + 2 + 1 from by omega)]
 rw [show A.length + 2 - A.length = 2 from by omega, show A.length + 2 + 1 - A.length = 3 from by omega]
 simp
theorem wr_set {ws : List (Pl × Rw)} {j : Nat} {x : Pl × Rw} (hx : ws[j]? = some x) (r : Rw) : (ewr.all ws).take (0 + j * 3 + 2) ++ [vsl r] ++ (ewr.all ws).drop (0 + j * 3 + 2 + 1) = ewr.all (ws.set j (x.1, r)) := by
 have hj := (List.getElem?_eq_some_iff.1 hx).1
 have hl : (ewr.all (ws.take j)).length = j * 3 := by
  rw [Enc.all_len, List.length_take, Nat.min_eq_left (Nat.le_of_lt hj)]
  rfl
 have e1 : ewr.all ws = ewr.all (ws.take j) ++ ([vi x.1.1, vi x.1.2, vsl x.2] ++ ewr.all (ws.drop (j + 1))) := by
  conv => lhs; rw [split_at hx]
  rw [Enc.all_append, Enc.all_append, List.append_assoc]
  rfl
 have e2 : ewr.all (ws.set j (x.1, r)) = ewr.all (ws.take j) ++ ([vi x.1.1, vi x.1.2, vsl r] ++ ewr.all (ws.drop (j + 1))) := by
  rw [List.set_eq_take_append_cons_drop, if_pos hj, Enc.all_append]
  rfl
 rw [e1, e2, Nat.zero_add, ← hl]
 exact splice3 _ _ _ _ _ _
set_option maxHeartbeats 1000000 in
theorem Rot_calls {A : Nat → Prop} {w : World} {R : Nat} {s : RA} (h : RK A w R s) (d a n : Int) (hn : n ≤ 9223372036854775807) :
 Calls Tryz.prog 19 [ptr R, vi d, vi a, vi n].toArray w (Ret fun v w' => v = vi (rotE s d a n) ∧ RK (fun x => A x ∨ w.heap.size ≤ x) w' R (if rotE s d a n = 0 then rotS s (d, a) n else s) ∧ Chg A w w') := by
 have aR := h.aR
 have hok := h.ok
 have hrok := rotS_ok h.ok (d, a) n
 replace h := h.old
 have hw := Chg.refl A w
 refine Calls.of_WC Tryz.func19 rfl Tryz.ntmps19 (by simp) ?_
 refine WC.sr (WL.assign rfl rfl (WL.t (WC.seq (WC.block (WC.seq (WC.region (WL.move rfl rfl (WL.move rfl rfl (WL.move rfl rfl (WL.call eg_58 rfl rfl (in_calls h d a) ?_))))))))))
 rintro v w1 ⟨rfl, k1⟩
 have zs_k1 := k1.size
 replace h := h.pure k1
 replace hw := hw.pure k1
 by_cases h12 : inS s d a
 ·rw [show decide (0 ≤ d ∧ d < (s.dn : Int) ∧ 0 ≤ a ∧ a < (s.sn : Int)) = true from decide_eq_true h12]
  refine WL.not rfl rfl (WL.move rfl rfl (WL.qa rfl rfl rfl (WL.move rfl rfl (WL.qa rfl rfl rfl (WL.qi rfl rfl rfl (fun h20 => ?_) (fun h20 => ?_))))))
  ·refine WL.qb rfl rfl rfl (WL.assign rfl rfl (WL.t (WC.qb rfl (WC.sr (WL.assign rfl rfl (WL.t (WC.ret (WX.qf (WX.qb (WX.qg (.inl rfl) Tryz.results19 rfl ?_))))))))))
   first
    |(have hh : ¬ inS s d a := h12
      have e0 : rotE s d a n = 1 := by simp [rotE, hh]
      rw [e0]
      exact ⟨_, rfl, rfl, h.mono (fun x hx => .inl hx.1), hw⟩)
    |(have hh : n < 0 := h20
      have e0 : rotE s d a n = 1 := by simp [rotE, hh]
      rw [e0]
      exact ⟨_, rfl, rfl, h.mono (fun x hx => .inl hx.1), hw⟩)
    |(have hh : goneS s d = true := hg
      have hh2 : ¬ n < 0 := by omega
      have e0 : rotE s d a n = 3 := by simp [rotE, hh, hh2, h12]
      rw [e0]
      exact ⟨_, rfl, rfl, h.mono (fun x hx => .inl hx.1), hw⟩)
    |(have hh : ws[j]? = some x := hxj
      have hh2 : ¬ n < 0 := by omega
      have e0 : rotE s d a n = 0 := by simp [rotE, hg, hh2, h12]
      rw [e0, if_pos rfl]
      have e1 : rotS s (d, a) n = { s with waits := putW s.waits (d, a) (rotB (heldS s (d, a)) n) } := by
       unfold rotS
       rw [hws, xsm_newV, newV_some hxj hxp hno]
       rfl
      rw [e1] at hrok ⊢
      refine ⟨_, rfl, rfl, ⟨.inl aR, hrok, m, ga, gc, _, wc, _, ls, Eq.mp (congrArg (Blk _ R 92) ?_) hB, hI8.mono (fun x hx => hx.1), hls, ?_⟩, hw⟩
      ·simp
      ·show putW s.waits (d, a) (rotB (heldS s (d, a)) n) = _
       rw [hws, ← hrb, hxp, ← putW_some hxj hxp hno, xsm_putW])
    |(have hh2 : ¬ n < 0 := by omega
      have e0 : rotE s d a n = 0 := by simp [rotE, hg, hh2, h12]
      rw [e0, if_pos rfl]
      have e1 : rotS s (d, a) n = { s with last := mput s.last (d, a) (rotB (heldS s (d, a)) n) } := by
       unfold rotS
       rw [hws, xsm_newV, newV_none hno]
       rfl
      rw [e1] at hrok ⊢
      refine ⟨_, rfl, rfl, ⟨.inl aR, hrok, m, ga, gc, _, wc, _, _, hB, hI9.mono (fun x hx => hx.1), ?_, hws⟩, hw⟩
      show mput s.last (d, a) (rotB (heldS s (d, a)) n) = _
      rw [hls, ← hrb, xsm_put])
  ·refine WL.qb rfl rfl rfl (WL.assign rfl rfl (WL.t (WC.qa rfl (WC.sr (WL.move rfl rfl (WL.nilCheck rfl rfl (WL.fieldAddr (fld_92_3) rfl rfl (?_))))))))
   obtain ⟨m, ga, gc, wa, wc, ws, ls, hB, hI, hls, hws⟩ := h.ex
   refine WL.qd Tryz.isAgg84 hB rfl rfl rfl (WL.move rfl rfl (?_))
   have hgd := goneS_at h.ok (d := d) ⟨h12.1, h12.2.1⟩
   refine WL.qg (e := ebool) Tryz.underlying84 Tryz.sizeOf4 hI.gone.rsl rfl rfl ⟨hgd, by have := h12.1; omega⟩ rfl ?_
   intro bb oo hcc
   refine WL.load Tryz.isAgg4 rfl (hcc 0 _ rfl) rfl ?_
   rcases hg : goneS s d with _ | _
   ·clear hB hI hls hws hcc
    refine WL.assign rfl rfl (WL.t (WC.qa rfl (WC.skip (WX.qd (WX.qa (WC.seq (WC.region (WL.move rfl rfl (WL.move rfl rfl (WL.bld rfl (bld_99_0_1 _ _) rfl (WL.alloc Tryz.zeroValue99 rfl ?_)))))))))))
    intro g_1 w_1 hge_1 hlt_1 hb_1 k_1
    have zs_k_1 := k_1.size
    replace h := h.pure k_1
    replace hw := hw.pure k_1
    refine WL.qf Tryz.sizeOf99 hb_1 rfl rfl (by simp; done) (by simp [Value.oneCell']; done) (by simp [Value.cells]; done) rfl ?_
    intro w_2 hs_2 hn_2 k_2
    have zs_k_2 := k_2.size
    replace h := h.chg k_2 (by intro b h1 h2 h3; have h4 : _ = _ := h3; (try dsimp only at h2); exfalso; omega)
    replace hw := hw.chg k_2 (by intro x h1 h2; have h3 : _ = _ := h2; exfalso; omega)
    replace hb_1 := hn_2
    refine WL.t (WC.sr (?_))
    have hb8 : Blk _ g_1 99 [vi d, vi a] := hb_1
    refine WL.move rfl rfl ?_
    refine WL.qq Tryz.isAgg99 Tryz.sizeOf99 hb8 rfl (by simp; done) rfl (?_)
    refine WL.call eg_60 rfl rfl (held_calls h (d, a)) ?_
    rintro v w2 ⟨⟨r, rfl, hr, hx⟩, k2⟩
    have zs_k2 := k2.size
    replace h := h.pure k2
    replace hw := hw.pure k2
    replace hb8 := hb8.pure k2
    have hxl : r.xs.length = 128 := by rw [hx]; exact heldS_len hok _
    refine WL.call eg_59 rfl rfl (bclone_calls hr hxl) ?_
    rintro v w3 ⟨⟨gq, cq, rfl, hq, hq1, hq2⟩, k3⟩
    have zw3 := hw.size
    have zs_k3 := k3.size
    replace h := h.pure k3
    replace hw := hw.pure k3
    replace hb8 := hb8.pure k3
    refine WL.assign rfl rfl (WL.t (WC.sr (WL.move rfl rfl (WL.move rfl rfl (WL.qw rfl rfl (by constructor <;> omega) rfl (?_))))))
    obtain ⟨kk, hk⟩ : ∃ kk, r.xs[(n % 128).toNat]? = some kk := ⟨_, List.getElem?_eq_getElem (by omega)⟩
    refine WL.qh hq.rsl Tryz.underlying51 Tryz.sizeOf5 rfl rfl ⟨hk, by omega⟩ rfl ?_
    refine WL.load Tryz.isAgg5 rfl (hq.rsl.cellsAt hk 0 _ rfl) rfl ?_
    refine WL.move rfl rfl (WL.quo64i rfl rfl (by refine ⟨?_, ?_, ?_⟩ <;> omega) rfl (WL.qw rfl rfl (by constructor <;> omega) rfl (WL.qe rfl rfl (by omega) rfl (WL.c_i64_u8 Tryz.underlying3 Tryz.underlying5 rfl rfl (WL.num rfl rfl (n_xor8 _ _ _ _) rfl (?_))))))
    refine WL.index (j := (n % 128).toNat) Tryz.underlying51 Tryz.sizeOf5 rfl rfl (by omega) (by omega) rfl ?_
    refine WL.qt (z := kk ^^^ B8 (1 + n / 128 % 255)) ((n % 128).toNat) Tryz.sizeOf5 hq rfl rfl rfl (by simp; done) (by omega) rfl ?_
    intro w_3 zs_3 nr_3 k_3
    have zs_k_3 := k_3.size
    replace h := h.chg k_3 (by intro b h1 h2 h3; have h4 : _ = _ := h3; (try dsimp only at h2); exfalso; omega)
    replace hw := hw.chg k_3 (by intro x h1 h2; have h3 : _ = _ := h2; exfalso; omega)
    replace hb8 := hb8.chg k_3 (by intro h1; have h2 : _ = _ := h1; exfalso; omega)
    replace hq := nr_3
    have hrb : r.xs.set (n % 128).toNat (kk ^^^ B8 (1 + n / 128 % 255)) = rotB (heldS s (d, a)) n := by
     rw [rotB, ← hx, List.getD_eq_getElem?_getD, hk]
     rfl
    have hqS : Row (fun x => (A x ∨ w.heap.size ≤ x) ∧ x ≠ R) _ 5 eb (some ⟨gq, 0, none⟩) cq (r.xs.set (n % 128).toNat (kk ^^^ B8 (1 + n / 128 % 255))) := ((h.ne hq).mono (fun x hx => ⟨.inr (by have := hx.1; omega), hx.2⟩))
    refine WL.t (WC.seq (WC.sr (WL.move rfl rfl (WL.qq Tryz.isAgg99 Tryz.sizeOf99 hb8 rfl (by simp; done) rfl (?_)))))
    obtain ⟨m, ga, gc, wa, wc, ws, ls, hB, hI, hls, hws⟩ := h.ex
    have am : A m := hI.sm.1
    have lm : m < w.heap.size := hI.sm.2
    have lR : R < w.heap.size := h.aR.2
    replace hI := hI.open hB
    have hmR : m ≠ R := hI.sm.2
    refine WL.call eg_61 rfl rfl (newest_calls hB hI.waits (d, a)) ?_
    rintro v w5 ⟨⟨ao, rfl, hnew⟩, k5⟩
    have zs_k5 := k5.size
    replace hw := hw.pure k5
    replace hb8 := hb8.pure k5
    replace hqS := hqS.pure k5
    replace hB := hB.pure k5
    replace hI := hI.pure k5
    refine WL.assign rfl rfl (WL.t (WC.sr (WL.move rfl rfl (WL.ptrSome Tryz.underlying109 rfl rfl rfl ?_))))
    rcases hnew with ⟨rfl, hno⟩ | ⟨j, x, gW, hxj, hxp, hno, rfl, rfl⟩
    ·refine WL.t (WC.qa rfl (WC.skip (WX.qa (WC.seq (?_)))))
     replace hI := hI.mono (S' := fun x => (A x ∨ w.heap.size ≤ x) ∧ x ≠ R) (fun x hx => ⟨.inl hx.1.1, hx.2⟩)
     refine WC.qc ((fun x => x = m)) [0, 1, 2, 3, 4, 5] [6] mixed rfl rfl (fun wd_4 kd_4 zd_4 => ?_)
     have zs_kd_4 := kd_4.size
     replace hw := hw.pure kd_4
     replace hb8 := hb8.pure kd_4
     replace hqS := hqS.pure kd_4
     replace hB := hB.pure kd_4
     replace hI := hI.pure kd_4
     apply DQ.step [(0, _)] rfl ⟨rfl, trivial⟩ rfl (fun _ _ => WL.move rfl rfl  WL.q)
     apply DQ.step [(58, _)] rfl ⟨rfl, trivial⟩ rfl (fun _ _ => WL.nilCheck rfl rfl  WL.q)
     apply DQ.step [(59, _)] rfl ⟨rfl, trivial⟩ rfl (fun _ _ => WL.fieldAddr (fld_92_2) rfl rfl  WL.q)
     apply DQ.step [(60, _)] rfl ⟨rfl, trivial⟩ rfl
     ·intro wq_9 kq_9
      replace hB := hB.chg kq_9 (by intro h1; have h2 : _ = _ := h1; exfalso; omega)
      refine WL.qd Tryz.isAgg89 hB rfl rfl rfl (WL.q)
     apply DQ.step [(9, _)] rfl ⟨rfl, trivial⟩ rfl
     ·intro wq_10 kq_10
      replace hb8 := hb8.chg kq_10 (by intro h1; have h2 : _ = _ := h1; exfalso; omega)
      refine WL.qq Tryz.isAgg99 Tryz.sizeOf99 hb8 rfl (by simp; done) rfl (?_)
      exact WL.q
     apply DQ.step [(10, _)] rfl ⟨rfl, trivial⟩ rfl (fun _ _ => WL.move rfl rfl  WL.q)
     refine DQ.done (fun hd_5 => ?_)
     refine DL.step [(61, _), (62, _), (63, _)] rfl ⟨rfl, rfl, rfl, trivial⟩ rfl (fun wq_12 kq_12 => ?_)
     have zs_kq_12 := kq_12.size
     replace hw := hw.pure kq_12
     replace hb8 := hb8.pure kq_12
     replace hqS := hqS.pure kq_12
     replace hB := hB.pure kq_12
     replace hI := hI.pure kq_12
     replace hd_5 := hd_5.pure kq_12
     refine WL.mput (v := (⟨some ⟨gq, 0, none⟩, cq, r.xs.set (n % 128).toNat (kk ^^^ B8 (1 + n / 128 % 255))⟩ : Rw)) plOk Tryz.underlying89 hI.map rfl (show _ = some (kpl (d, a)) from rfl) (show _ = some (Value.slice (some ⟨gq, 0, none⟩) (r.xs.set (n % 128).toNat (kk ^^^ B8 (1 + n / 128 % 255))).length cq) from by rw [List.length_set]; rfl) ?_
     intro w9 z9 hM9 k9
     have hI9 := hI.putMapN hM9 k9 (fun p hp => by
      rcases mput_mem hp with h3 | h3
      ·exact .inl ⟨p, h3, rfl⟩
      ·right
       rw [h3]
       exact hqS)
     have zs_k9 := k9.size
     replace hw := hw.chg k9 (by intro x h1 h2; have h3 : _ = _ := h2; subst h3; assumption)
     replace hB := hB.chg k9 (by intro h1; have h2 : _ = _ := h1; exfalso; omega)
     replace hd_5 := hd_5.chg k9 (by intro x h1 h2; exact h2)
     refine WL.nil (WX.qk (v := undef) ⟨hd_5, ?_⟩)
     refine DL.done (fun we_13 ke_13 => ?_)
     have zs_ke_13 := ke_13.size
     replace hw := hw.pure ke_13
     replace hB := hB.pure ke_13
     replace hd_5 := hd_5.pure ke_13
     replace hI9 := hI9.pure ke_13
     refine WX.qa (WC.sr (WL.assign rfl rfl (WL.t (WC.ret (WX.qg (.inl rfl) Tryz.results19 rfl ?_)))))
     first
      |(have hh : ¬ inS s d a := h12
        have e0 : rotE s d a n = 1 := by simp [rotE, hh]
        rw [e0]
        exact ⟨_, rfl, rfl, h.mono (fun x hx => .inl hx.1), hw⟩)
      |(have hh : n < 0 := h20
        have e0 : rotE s d a n = 1 := by simp [rotE, hh]
        rw [e0]
        exact ⟨_, rfl, rfl, h.mono (fun x hx => .inl hx.1), hw⟩)
      |(have hh : goneS s d = true := hg
        have hh2 : ¬ n < 0 := by omega
        have e0 : rotE s d a n = 3 := by simp [rotE, hh, hh2, h12]
        rw [e0]
        exact ⟨_, rfl, rfl, h.mono (fun x hx => .inl hx.1), hw⟩)
      |(have hh : ws[j]? = some x := hxj
        have hh2 : ¬ n < 0 := by omega
        have e0 : rotE s d a n = 0 := by simp [rotE, hg, hh2, h12]
        rw [e0, if_pos rfl]
        have e1 : rotS s (d, a) n = { s with waits := putW s.waits (d, a) (rotB (heldS s (d, a)) n) } := by
         unfold rotS
         rw [hws, xsm_newV, newV_some hxj hxp hno]
         rfl
        rw [e1] at hrok ⊢
        refine ⟨_, rfl, rfl, ⟨.inl aR, hrok, m, ga, gc, _, wc, _, ls, Eq.mp (congrArg (Blk _ R 92) ?_) hB, hI8.mono (fun x hx => hx.1), hls, ?_⟩, hw⟩
        ·simp
        ·show putW s.waits (d, a) (rotB (heldS s (d, a)) n) = _
         rw [hws, ← hrb, hxp, ← putW_some hxj hxp hno, xsm_putW])
      |(have hh2 : ¬ n < 0 := by omega
        have e0 : rotE s d a n = 0 := by simp [rotE, hg, hh2, h12]
        rw [e0, if_pos rfl]
        have e1 : rotS s (d, a) n = { s with last := mput s.last (d, a) (rotB (heldS s (d, a)) n) } := by
         unfold rotS
         rw [hws, xsm_newV, newV_none hno]
         rfl
        rw [e1] at hrok ⊢
        refine ⟨_, rfl, rfl, ⟨.inl aR, hrok, m, ga, gc, _, wc, _, _, hB, hI9.mono (fun x hx => hx.1), ?_, hws⟩, hw⟩
        show mput s.last (d, a) (rotB (heldS s (d, a)) n) = _
        rw [hls, ← hrb, xsm_put])
    ·have aW : A gW := (hI.waits.at_ _ rfl).1.1
     have hWR : gW ≠ R := (hI.waits.at_ _ rfl).2
     replace hI := hI.mono (S' := fun x => (A x ∨ w.heap.size ≤ x) ∧ x ≠ R) (fun x hx => ⟨.inl hx.1.1, hx.2⟩)
     refine WL.t (WC.qb rfl (WC.sr (WL.move rfl rfl (WL.move rfl rfl (WL.nilCheck rfl rfl (WL.fieldAddr (fld_101_1) rfl rfl (?_)))))))
     have hjl := (List.getElem?_eq_some_iff.1 hxj).1
     refine WL.storeF (e := ewr) (ys := ws.set j (x.1, ⟨some ⟨gq, 0, none⟩, cq, r.xs.set (n % 128).toNat (kk ^^^ B8 (1 + n / 128 % 255))⟩)) Tryz.sizeOf51 hI.waits rfl (show _ = some (Value.slice (some ⟨gq, 0, none⟩) (r.xs.set (n % 128).toNat (kk ^^^ B8 (1 + n / 128 % 255))).length cq) from by rw [List.length_set]; rfl) rfl (by show 0 + j * 3 + 2 + 1 ≤ ws.length * 3; omega) (List.length_set ..) (wr_set hxj ⟨some ⟨gq, 0, none⟩, cq, r.xs.set (n % 128).toNat (kk ^^^ B8 (1 + n / 128 % 255))⟩) ?_
     intro w8 z8 hW8 k8
     have hI8 := hI.setWaits hW8 k8 (fun b hb => ⟨_, rfl, hb⟩) (fun p hp => by
      rcases List.mem_or_eq_of_mem_set hp with h3 | h3
      ·exact .inl ⟨p, h3, rfl⟩
      ·right
       rw [h3]
       exact hqS)
     have zs_k8 := k8.size
     replace hw := hw.chg k8 (by intro x h1 h2; have h3 : _ = _ := h2; subst h3; assumption)
     replace hB := hB.chg k8 (by intro h1; have h2 : _ = _ := h1; exfalso; omega)
     refine WL.t (WC.sr (WL.assign rfl rfl (WL.t (WC.ret (WX.qb (WX.qg (.inl rfl) Tryz.results19 rfl ?_))))))
     first
      |(have hh : ¬ inS s d a := h12
        have e0 : rotE s d a n = 1 := by simp [rotE, hh]
        rw [e0]
        exact ⟨_, rfl, rfl, h.mono (fun x hx => .inl hx.1), hw⟩)
      |(have hh : n < 0 := h20
        have e0 : rotE s d a n = 1 := by simp [rotE, hh]
        rw [e0]
        exact ⟨_, rfl, rfl, h.mono (fun x hx => .inl hx.1), hw⟩)
      |(have hh : goneS s d = true := hg
        have hh2 : ¬ n < 0 := by omega
        have e0 : rotE s d a n = 3 := by simp [rotE, hh, hh2, h12]
        rw [e0]
        exact ⟨_, rfl, rfl, h.mono (fun x hx => .inl hx.1), hw⟩)
      |(have hh : ws[j]? = some x := hxj
        have hh2 : ¬ n < 0 := by omega
        have e0 : rotE s d a n = 0 := by simp [rotE, hg, hh2, h12]
        rw [e0, if_pos rfl]
        have e1 : rotS s (d, a) n = { s with waits := putW s.waits (d, a) (rotB (heldS s (d, a)) n) } := by
         unfold rotS
         rw [hws, xsm_newV, newV_some hxj hxp hno]
         rfl
        rw [e1] at hrok ⊢
        refine ⟨_, rfl, rfl, ⟨.inl aR, hrok, m, ga, gc, _, wc, _, ls, Eq.mp (congrArg (Blk _ R 92) ?_) hB, hI8.mono (fun x hx => hx.1), hls, ?_⟩, hw⟩
        ·simp
        ·show putW s.waits (d, a) (rotB (heldS s (d, a)) n) = _
         rw [hws, ← hrb, hxp, ← putW_some hxj hxp hno, xsm_putW])
      |(have hh2 : ¬ n < 0 := by omega
        have e0 : rotE s d a n = 0 := by simp [rotE, hg, hh2, h12]
        rw [e0, if_pos rfl]
        have e1 : rotS s (d, a) n = { s with last := mput s.last (d, a) (rotB (heldS s (d, a)) n) } := by
         unfold rotS
         rw [hws, xsm_newV, newV_none hno]
         rfl
        rw [e1] at hrok ⊢
        refine ⟨_, rfl, rfl, ⟨.inl aR, hrok, m, ga, gc, _, wc, _, _, hB, hI9.mono (fun x hx => hx.1), ?_, hws⟩, hw⟩
        show mput s.last (d, a) (rotB (heldS s (d, a)) n) = _
        rw [hls, ← hrb, xsm_put])
   ·refine WL.assign rfl rfl (WL.t (WC.qb rfl (WC.sr (WL.assign rfl rfl (WL.nil (WX.qa (WC.ret (WX.qf (WX.qb (WX.qg (.inl rfl) Tryz.results19 rfl ?_))))))))))
    first
     |(have hh : ¬ inS s d a := h12
       have e0 : rotE s d a n = 1 := by simp [rotE, hh]
       rw [e0]
       exact ⟨_, rfl, rfl, h.mono (fun x hx => .inl hx.1), hw⟩)
     |(have hh : n < 0 := h20
       have e0 : rotE s d a n = 1 := by simp [rotE, hh]
       rw [e0]
       exact ⟨_, rfl, rfl, h.mono (fun x hx => .inl hx.1), hw⟩)
     |(have hh : goneS s d = true := hg
       have hh2 : ¬ n < 0 := by omega
       have e0 : rotE s d a n = 3 := by simp [rotE, hh, hh2, h12]
       rw [e0]
       exact ⟨_, rfl, rfl, h.mono (fun x hx => .inl hx.1), hw⟩)
     |(have hh : ws[j]? = some x := hxj
       have hh2 : ¬ n < 0 := by omega
       have e0 : rotE s d a n = 0 := by simp [rotE, hg, hh2, h12]
       rw [e0, if_pos rfl]
       have e1 : rotS s (d, a) n = { s with waits := putW s.waits (d, a) (rotB (heldS s (d, a)) n) } := by
        unfold rotS
        rw [hws, xsm_newV, newV_some hxj hxp hno]
        rfl
       rw [e1] at hrok ⊢
       refine ⟨_, rfl, rfl, ⟨.inl aR, hrok, m, ga, gc, _, wc, _, ls, Eq.mp (congrArg (Blk _ R 92) ?_) hB, hI8.mono (fun x hx => hx.1), hls, ?_⟩, hw⟩
       ·simp
       ·show putW s.waits (d, a) (rotB (heldS s (d, a)) n) = _
        rw [hws, ← hrb, hxp, ← putW_some hxj hxp hno, xsm_putW])
     |(have hh2 : ¬ n < 0 := by omega
       have e0 : rotE s d a n = 0 := by simp [rotE, hg, hh2, h12]
       rw [e0, if_pos rfl]
       have e1 : rotS s (d, a) n = { s with last := mput s.last (d, a) (rotB (heldS s (d, a)) n) } := by
        unfold rotS
        rw [hws, xsm_newV, newV_none hno]
        rfl
       rw [e1] at hrok ⊢
       refine ⟨_, rfl, rfl, ⟨.inl aR, hrok, m, ga, gc, _, wc, _, _, hB, hI9.mono (fun x hx => hx.1), ?_, hws⟩, hw⟩
       show mput s.last (d, a) (rotB (heldS s (d, a)) n) = _
       rw [hls, ← hrb, xsm_put])
 ·rw [show decide (0 ≤ d ∧ d < (s.dn : Int) ∧ 0 ≤ a ∧ a < (s.sn : Int)) = false from decide_eq_false h12]
  refine WL.not rfl rfl (WL.move rfl rfl (WL.pass rfl rfl rfl rfl (WL.pass rfl rfl rfl rfl (WL.qc rfl rfl rfl (WL.assign rfl rfl (WL.t (WC.qb rfl (WC.sr (WL.assign rfl rfl (WL.t (WC.ret (WX.qf (WX.qb (WX.qg (.inl rfl) Tryz.results19 rfl ?_))))))))))))))
  first
   |(have hh : ¬ inS s d a := h12
     have e0 : rotE s d a n = 1 := by simp [rotE, hh]
     rw [e0]
     exact ⟨_, rfl, rfl, h.mono (fun x hx => .inl hx.1), hw⟩)
   |(have hh : n < 0 := h20
     have e0 : rotE s d a n = 1 := by simp [rotE, hh]
     rw [e0]
     exact ⟨_, rfl, rfl, h.mono (fun x hx => .inl hx.1), hw⟩)
   |(have hh : goneS s d = true := hg
     have hh2 : ¬ n < 0 := by omega
     have e0 : rotE s d a n = 3 := by simp [rotE, hh, hh2, h12]
     rw [e0]
     exact ⟨_, rfl, rfl, h.mono (fun x hx => .inl hx.1), hw⟩)
   |(have hh : ws[j]? = some x := hxj
     have hh2 : ¬ n < 0 := by omega
     have e0 : rotE s d a n = 0 := by simp [rotE, hg, hh2, h12]
     rw [e0, if_pos rfl]
     have e1 : rotS s (d, a) n = { s with waits := putW s.waits (d, a) (rotB (heldS s (d, a)) n) } := by
      unfold rotS
      rw [hws, xsm_newV, newV_some hxj hxp hno]
      rfl
     rw [e1] at hrok ⊢
     refine ⟨_, rfl, rfl, ⟨.inl aR, hrok, m, ga, gc, _, wc, _, ls, Eq.mp (congrArg (Blk _ R 92) ?_) hB, hI8.mono (fun x hx => hx.1), hls, ?_⟩, hw⟩
     ·simp
     ·show putW s.waits (d, a) (rotB (heldS s (d, a)) n) = _
      rw [hws, ← hrb, hxp, ← putW_some hxj hxp hno, xsm_putW])
   |(have hh2 : ¬ n < 0 := by omega
     have e0 : rotE s d a n = 0 := by simp [rotE, hg, hh2, h12]
     rw [e0, if_pos rfl]
     have e1 : rotS s (d, a) n = { s with last := mput s.last (d, a) (rotB (heldS s (d, a)) n) } := by
      unfold rotS
      rw [hws, xsm_newV, newV_none hno]
      rfl
     rw [e1] at hrok ⊢
     refine ⟨_, rfl, rfl, ⟨.inl aR, hrok, m, ga, gc, _, wc, _, _, hB, hI9.mono (fun x hx => hx.1), ?_, hws⟩, hw⟩
     show mput s.last (d, a) (rotB (heldS s (d, a)) n) = _
     rw [hls, ← hrb, xsm_put])
end Go.Proofs.YtjeldcjchipdgaaGreatDoor
namespace Go.Proofs.YtjeldcjchipdgaaGreatDoor
open Go.RowKit Go.HL
set_option maxRecDepth 100000
def lwR (s0 : RA) (at_ : Int) (B : List UInt8) : Nat → RA × Nat × Int
 |0 => (s0, 0, 0)
 |k + 1 =>
  if (lwR s0 at_ B k).2.2 ≠ 0 then lwR s0 at_ B k
  else if writeE (lwR s0 at_ B k).1 k at_ B.length = 0 then (writeS (lwR s0 at_ B k).1 k at_ B, (lwR s0 at_ B k).2.1 + 1, 0)
  else if writeE (lwR s0 at_ B k).1 k at_ B.length = 3 then (writeS (lwR s0 at_ B k).1 k at_ B, (lwR s0 at_ B k).2.1, 0)
  else (writeS (lwR s0 at_ B k).1 k at_ B, 0, writeE (lwR s0 at_ B k).1 k at_ B.length)
theorem lwR_stuck {s0 : RA} {at_ : Int} {B : List UInt8} {k : Nat} (h : (lwR s0 at_ B k).2.2 ≠ 0) (m : Nat) : lwR s0 at_ B (k + m) = lwR s0 at_ B k := by
 induction m with
 |zero => rfl
 |succ m ih => rw [← Nat.add_assoc, lwR, if_pos (by rw [ih]; exact h), ih]
theorem writeS_dn (s : RA) (d a : Int) (b : List UInt8) : (writeS s d a b).dn = s.dn ∧ (writeS s d a b).sn = s.sn ∧ (writeS s d a b).gone = s.gone ∧ (writeS s d a b).waits.length ≤ s.waits.length + 1 := by
 unfold writeS
 split
 ·exact ⟨spendS_dn s, spendS_sn s, spendS_gone s, by simp⟩
 ·split
  ·exact ⟨spendS_dn s, spendS_sn s, spendS_gone s, by rw [spendS_waits]; omega⟩
  ·exact ⟨rfl, rfl, rfl, by omega⟩
theorem lwR_dn (s0 : RA) (at_ : Int) (B : List UInt8) (k : Nat) : (lwR s0 at_ B k).1.dn = s0.dn ∧ (lwR s0 at_ B k).1.sn = s0.sn ∧ (lwR s0 at_ B k).1.gone = s0.gone ∧ (lwR s0 at_ B k).1.waits.length ≤ s0.waits.length + k ∧ (lwR s0 at_ B k).2.1 ≤ k := by
 induction k with
 |zero => exact ⟨rfl, rfl, rfl, Nat.le_refl _, Nat.le_refl _⟩
 |succ k ih =>
  obtain ⟨i1, i2, i3, i4, i5⟩ := ih
  obtain ⟨w1, w2, w3, w4⟩ := writeS_dn (lwR s0 at_ B k).1 k at_ B
  rw [lwR]
  split
  ·exact ⟨i1, i2, i3, by omega, by omega⟩
  ·split
   ·exact ⟨by rw [w1, i1], by rw [w2, i2], by rw [w3, i3], by dsimp only; omega, by dsimp only; omega⟩
   ·split
    ·exact ⟨by rw [w1, i1], by rw [w2, i2], by rw [w3, i3], by dsimp only; omega, by dsimp only; omega⟩
    ·exact ⟨by rw [w1, i1], by rw [w2, i2], by rw [w3, i3], by dsimp only; omega, by dsimp only; omega⟩
def lwS (s : RA) (u : UbV) : RA := if 8 < s.sn ∧ encE u = 0 then (lwR s (u.t % 8) (encB u) s.dn).1 else s
def lwN (s : RA) (u : UbV) : Int := if 8 < s.sn ∧ encE u = 0 then (if (lwR s (u.t % 8) (encB u) s.dn).2.2 = 0 then ((lwR s (u.t % 8) (encB u) s.dn).2.1 : Int) else 0) else 0
def lwE (s : RA) (u : UbV) : Int := if ¬ 8 < s.sn then 1 else if encE u ≠ 0 then encE u else if (lwR s (u.t % 8) (encB u) s.dn).2.2 ≠ 0 then (lwR s (u.t % 8) (encB u) s.dn).2.2 else if (lwR s (u.t % 8) (encB u) s.dn).2.1 = 0 then 4 else 0
theorem right_calls {A : Nat → Prop} {w : World} {R : Nat} {s : RA} (h : RK A w R s) : Calls Tryz.prog 47 [ptr R].toArray w (Ret fun v w' => v = .bool (decide (8 < s.sn)) ∧ Chg Nob w w') := by
 have hw := Chg.refl Nob w
 refine Calls.of_WC Tryz.func47 rfl Tryz.ntmps47 (by simp) ?_
 refine WC.sr (WL.assign rfl rfl (WL.t (WC.sr (WL.move rfl rfl (WL.call eg_70 rfl rfl (Sectors_calls h) ?_)))))
 rintro v w1 ⟨rfl, k1⟩
 replace hw := hw.pure k1
 refine WL.gtr rfl rfl rfl (WL.assign rfl rfl (WL.t (WC.ret (WX.qg (.inl rfl) Tryz.results47 rfl ?_))))
 refine ⟨_, rfl, ?_, hw⟩
 congr 1
 exact decide_eq_decide.2 (by omega)
theorem encE_t {u : UbV} (h : encE u = 0) : rightP u.p ∧ 1 ≤ u.t ∧ secE (uit u) = 0 ∧ (encB u).length = 128 := by
 unfold encE at h
 split at h
 ·rename_i hc
  refine ⟨hc.1, hc.2, h, ?_⟩
  rw [encB, if_pos hc, secB_128 h]
 ·cases h
theorem lw_right {s : RA} {u : UbV} (h : ¬ 8 < s.sn) : lwS s u = s ∧ lwN s u = 0 ∧ lwE s u = 1 := by
 rw [lwS, lwN, lwE, if_neg (fun x => h x.1), if_neg (fun x => h x.1), if_pos h]
 exact ⟨rfl, rfl, rfl⟩
theorem lw_enc {s : RA} {u : UbV} (h : 8 < s.sn) (hE : encE u ≠ 0) : lwS s u = s ∧ lwN s u = 0 ∧ lwE s u = encE u := by
 rw [lwS, lwN, lwE, if_neg (fun x => hE x.2), if_neg (fun x => hE x.2), if_neg (fun x => x h), if_pos hE]
 exact ⟨rfl, rfl, rfl⟩
theorem lw_stop {s : RA} {u : UbV} {at_ : Int} {B : List UInt8} {k : Nat} (h : 8 < s.sn) (hE : encE u = 0) (ea : at_ = u.t % 8) (eB : B = encB u) (hk : k < s.dn) (h0 : (lwR s at_ B k).2.2 = 0)
 (h1 : writeE (lwR s at_ B k).1 k at_ B.length ≠ 0) (h2 : writeE (lwR s at_ B k).1 k at_ B.length ≠ 3) : lwS s u = writeS (lwR s at_ B k).1 k at_ B ∧ lwN s u = 0 ∧ lwE s u = writeE (lwR s at_ B k).1 k at_ B.length := by
 have e1 : lwR s at_ B (k + 1) = (writeS (lwR s at_ B k).1 k at_ B, 0, writeE (lwR s at_ B k).1 k at_ B.length) := by
  rw [lwR, if_neg (fun h9 => h9 h0), if_neg h1, if_neg h2]
 have e2 : lwR s at_ B s.dn = lwR s at_ B (k + 1) := by
  have := lwR_stuck (s0 := s) (at_ := at_) (B := B) (k := k + 1) (by rw [e1]; exact h1) (s.dn - (k + 1))
  rw [show k + 1 + (s.dn - (k + 1)) = s.dn from by omega] at this
  exact this
 unfold lwS lwN lwE
 rw [← ea, ← eB, e2, e1]
 simp [h, hE, h1]
theorem lw_end {s : RA} {u : UbV} {at_ : Int} {B : List UInt8} (h : 8 < s.sn) (hE : encE u = 0) (ea : at_ = u.t % 8) (eB : B = encB u) (h0 : (lwR s at_ B s.dn).2.2 = 0) :
 lwS s u = (lwR s at_ B s.dn).1 ∧ lwN s u = ((lwR s at_ B s.dn).2.1 : Int) ∧ lwE s u = if (lwR s at_ B s.dn).2.1 = 0 then 4 else 0 := by
 unfold lwS lwN lwE
 rw [← ea, ← eB]
 simp [h, hE, h0]
set_option maxHeartbeats 2000000 in
theorem lWrite_in {A : Nat → Prop} {w : World} {R : Nat} {s : RA} (h : RK A w R s) (hA : ∀ x, A x → x < w.heap.size) (u : UbV) (hu : WfU u) (hn : s.waits.length ≤ 90000) :
 Calls Tryz.prog 8 [ptr R, .agg (eub.f u).toArray].toArray w (Ret fun v w' => v = .tuple #[vi (lwN s u), vi (lwE s u)] ∧ RK (fun x => A x ∨ w.heap.size ≤ x) w' R (lwS s u) ∧ Chg A w w') := by
 have hw := Chg.refl A w
 have hdn := h.ok.dn
 have lR := hA R h.aR
 obtain ⟨B, eB⟩ : ∃ B, B = encB u := ⟨_, rfl⟩
 refine Calls.of_WC Tryz.func8 rfl Tryz.ntmps8 (by simp) ?_
 refine WC.sr (WL.box rfl rfl ?_)
 intro g_1 w_1 hge_1 hlt_1 hb_1 k_1
 replace h := h.pure k_1
 replace hw := hw.pure k_1
 refine WL.assign rfl rfl (WL.assign rfl rfl (WL.t (WC.seq (WC.sr (WL.move rfl rfl (WL.call eg_47 rfl rfl (right_calls h) ?_))))))
 rintro v w1 ⟨rfl, k1⟩
 have zs_k1 := k1.size
 replace h := h.pure k1
 replace hw := hw.pure k1
 replace hb_1 := hb_1.pure k1
 by_cases h12 : 8 < s.sn
 ·rw [decide_eq_true h12]
  refine WL.not rfl rfl (WL.t (WC.qa rfl (WC.skip (WX.qa (WC.sr (?_))))))
  have hb1 : Blk _ g_1 41 (eub.f u) := hb_1
  refine WL.qo (eub.f u) Tryz.isAgg41 Tryz.sizeOf41 rfl (fun j v hj => by rw [Nat.zero_add]; exact hb1.cell hj) rfl rfl ?_
  refine WL.call eg_48 rfl rfl (encU_calls u _ hu) ?_
  rintro v w2 ⟨⟨ao, c, rfl, hq⟩, k2⟩
  rw [← eB] at hq ⊢
  have zs_k2 := k2.size
  replace h := h.pure k2
  replace hw := hw.pure k2
  replace hb1 := hb1.pure k2
  replace hq := hq.lt
  refine WL.move rfl rfl (WL.extract rfl rfl rfl (WL.extract rfl rfl rfl (WL.assign rfl rfl (WL.assign rfl rfl (WL.t (WC.seq (WC.sr (WL.move rfl rfl (WL.qk rfl rfl rfl (fun h20 => ?_) (fun h20 => ?_))))))))))
  ·refine WL.t (WC.qb rfl (WC.sr (WL.move rfl rfl (WL.assign rfl rfl (WL.assign rfl rfl (WL.t (WC.ret (WX.qb (WX.qi (.inl rfl) Tryz.results8 rfl rfl ?_)))))))))
   first
    |(have hz : ¬ 8 < s.sn := h12
      obtain ⟨e1, e2, e3⟩ := lw_right (u := u) hz
      rw [e1, e2, e3]
      exact ⟨_, rfl, rfl, h.mono (fun x hx => .inl hx), hw⟩)
    |(have hz : encE u ≠ 0 := h20
      obtain ⟨e1, e2, e3⟩ := lw_enc h12 hz
      rw [e1, e2, e3]
      exact ⟨_, rfl, rfl, h.mono (fun x hx => .inl hx), hw⟩)
    |(have hz : writeE (lwR s at_ B k).1 k at_ B.length ≠ 0 := h37
      have hz2 : writeE (lwR s at_ B k).1 k at_ B.length ≠ 3 := h41
      obtain ⟨e1, e2, e3⟩ := lw_stop h12 h20 eat eB (k := k) (by omega) hk0 hz hz2
      rw [e1, e2, e3]
      exact ⟨_, rfl, rfl, h5.mono (fun x hx => by rcases hx with h6 | h6; exact .inl h6; right; omega), hw5⟩)
    |(obtain rfl : k = s.dn := by omega
      obtain ⟨e1, e2, e3⟩ := lw_end h12 h20 eat eB hk0
      have hmo := h.mono (A' := fun x => A x ∨ w.heap.size ≤ x) (fun x hx => by rcases hx with h6 | h6; exact .inl h6; right; omega)
      by_cases hc : (lwR s at_ B s.dn).2.1 = 0
      ·rw [e1, e2, e3, if_pos hc, hc]
       first
        |exact ⟨_, rfl, rfl, hmo, hw⟩
        |(exfalso; omega)
      ·rw [e1, e2, e3, if_neg hc]
       first
        |exact ⟨_, rfl, rfl, hmo, hw⟩
        |(exfalso; omega))
  ·refine WL.t (WC.qa rfl (WC.skip (WX.qa (WC.sr (WL.assign rfl rfl (WL.t (WC.seq (WC.sr (WL.move rfl rfl (WL.call eg_49 rfl rfl (Drives_calls h) ?_))))))))))
   rintro v w4 ⟨rfl, k4⟩
   have zs_k4 := k4.size
   replace h := h.pure k4
   replace hw := hw.pure k4
   replace hb1 := hb1.pure k4
   replace hq := hq.pure k4
   refine WL.move rfl rfl (WL.t (WC.block (?_)))
   obtain ⟨t1, t2, t3, t4⟩ := encE_t h20
   rw [← eB] at t4
   obtain ⟨n0, en0⟩ : ∃ n0, n0 = w2.heap.size := ⟨_, rfl⟩
   obtain ⟨at_, eat⟩ : ∃ a : Int, a = u.t % 8 := ⟨_, rfl⟩
   refine WC.loop (σ := Nat) (fun k => [(0, ptr R), (3, ptr g_1), (6, .slice ao B.length c), (8, vi ((lwR s at_ B k).2.1 : Int)), (23, vi (s.dn : Int)), (24, vi (k : Int))])
    (fun k w' => k ≤ s.dn ∧ (lwR s at_ B k).2.2 = 0 ∧ n0 ≤ w'.heap.size ∧ Blk w' g_1 41 (eub.f u) ∧ Row (fun x => w.heap.size ≤ x ∧ x < n0) w' 5 eb ao c B ∧ RK (fun x => A x ∨ n0 ≤ x) w' R (lwR s at_ B k).1 ∧ Chg A w w') (fun k => s.dn - k) 0 ⟨rfl, rfl, rfl, rfl, rfl, rfl, trivial⟩
    ⟨Nat.zero_le _, rfl, by omega, hb1, hq.mono (fun x hx => by omega), h.mono (fun x hx => .inl hx), hw⟩ ?_
   clear hb1 hq h hw
   rintro k w3 ⟨hk, hk0, hn3, hb1, hq, h, hw⟩
   obtain ⟨d1, d2, d3, d4, d5⟩ := lwR_dn s at_ B k
   refine WC.sr (WL.qi rfl rfl rfl (fun h25 => ?_) (fun h25 => ?_))
   ·refine WL.t (WC.seq (WC.qb rfl (WC.skip (WX.qa (WC.seq (WC.block (WC.sr (WL.move rfl rfl (WL.assign rfl rfl (WL.t (WC.sr (?_))))))))))))
    refine WL.move rfl rfl (WL.move rfl rfl (WL.fieldAddr (fld_41_0) rfl rfl (WL.qd Tryz.isAgg3 hb1 rfl rfl rfl (WL.qw rfl rfl (by constructor <;> omega) rfl (WL.move rfl rfl (?_))))))
    have hn9 : (lwR s at_ B k).1.waits.length ≤ 100000 := by omega
    have aR0 : R < w.heap.size := lR
    have hq2 : RSl (fun x => w.heap.size ≤ x ∧ x < n0) w3 eb ao c B := hq.rsl
    rw [← eat]
    refine WL.call eg_22 rfl rfl (Write_calls h k at_ hq2 (fun x h1 h2 => absurd (h2 ▸ h1.1) (Nat.not_le.2 aR0)) hn9) ?_
    rintro v w5 ⟨rfl, h5, k5⟩
    have z5 := k5.size
    replace h5 : RK (fun x => A x ∨ n0 ≤ x) w5 R (writeS (lwR s at_ B k).1 k at_ B) := h5.mono (fun x hx => by rcases hx with h6 | h6; exact h6; right; omega)
    have hq5 := hq.chg k5 (fun b h1 h2 h3 => by rcases h3 with h4 | h4; have := hA b h4; omega; omega)
    have hb5 := hb1.chg k5 (fun h3 => by rcases h3 with h4 | h4; have := hA _ h4; omega; omega)
    have hw5 : Chg A w w5 := hw.trans k5 (fun x h1 h2 => by rcases h2 with h4 | h4; exact h4; exfalso; omega)
    refine WL.assign rfl rfl (WL.t (WC.sr (WL.move rfl rfl (WL.t (WC.block (WC.sr (WL.qj rfl rfl rfl (fun h37 => ?_) (fun h37 => ?_))))))))
    ·refine WL.assign rfl rfl (WL.t (WC.qb rfl (WC.region (WL.move rfl rfl (WL.qe rfl rfl (by omega) rfl (WL.assign rfl rfl (?_)))))))
     refine WL.nil (WX.qd (WX.qd (WX.qa (WC.region (WL.qe rfl rfl (by omega) rfl (WL.move rfl rfl (WL.nil (?_))))))))
     first
      |(have hz : writeE (lwR s at_ B k).1 k at_ B.length = 0 := h37
        have e1 : lwR s at_ B (k + 1) = (writeS (lwR s at_ B k).1 k at_ B, (lwR s at_ B k).2.1 + 1, 0) := by
         rw [lwR, if_neg (fun h9 => h9 hk0), if_pos hz]
        have f1 : (lwR s at_ B (k + 1)).2.2 = 0 := by rw [e1]
        have f2 : RK (fun x => A x ∨ n0 ≤ x) w5 R (lwR s at_ B (k + 1)).1 := by rw [e1]; exact h5
        have f3 : ((lwR s at_ B (k + 1)).2.1 : Int) = ((lwR s at_ B k).2.1 : Int) + 1 := by rw [e1]; rfl
        refine WX.qc (k + 1) ⟨rfl, rfl, rfl, ?_, rfl, rfl, trivial⟩ ⟨by omega, f1, by omega, hb5, hq5, f2, hw5⟩ (by show _ - _ < _ - _; omega)
        rw [f3]
        rfl)
      |(have hz : writeE (lwR s at_ B k).1 k at_ B.length ≠ 0 := h37
        have hz2 : writeE (lwR s at_ B k).1 k at_ B.length = 3 := h41
        have e1 : lwR s at_ B (k + 1) = (writeS (lwR s at_ B k).1 k at_ B, (lwR s at_ B k).2.1, 0) := by
         rw [lwR, if_neg (fun h9 => h9 hk0), if_neg hz, if_pos hz2]
        have f1 : (lwR s at_ B (k + 1)).2.2 = 0 := by rw [e1]
        have f2 : RK (fun x => A x ∨ n0 ≤ x) w5 R (lwR s at_ B (k + 1)).1 := by rw [e1]; exact h5
        have f3 : ((lwR s at_ B (k + 1)).2.1 : Int) = ((lwR s at_ B k).2.1 : Int) := by rw [e1]
        refine WX.qc (k + 1) ⟨rfl, rfl, rfl, ?_, rfl, rfl, trivial⟩ ⟨by omega, f1, by omega, hb5, hq5, f2, hw5⟩ (by show _ - _ < _ - _; omega)
        rw [f3]
        rfl)
    ·refine WL.assign rfl rfl (WL.t (WC.qa rfl (WC.sr (WL.qj rfl rfl rfl (fun h41 => ?_) (fun h41 => ?_)))))
     ·refine WL.assign rfl rfl (WL.t (WC.qb rfl (WC.skip (WX.qd (WX.qd (WX.qa (WC.region (WL.qe rfl rfl (by omega) rfl (WL.move rfl rfl (WL.nil (?_)))))))))))
      first
       |(have hz : writeE (lwR s at_ B k).1 k at_ B.length = 0 := h37
         have e1 : lwR s at_ B (k + 1) = (writeS (lwR s at_ B k).1 k at_ B, (lwR s at_ B k).2.1 + 1, 0) := by
          rw [lwR, if_neg (fun h9 => h9 hk0), if_pos hz]
         have f1 : (lwR s at_ B (k + 1)).2.2 = 0 := by rw [e1]
         have f2 : RK (fun x => A x ∨ n0 ≤ x) w5 R (lwR s at_ B (k + 1)).1 := by rw [e1]; exact h5
         have f3 : ((lwR s at_ B (k + 1)).2.1 : Int) = ((lwR s at_ B k).2.1 : Int) + 1 := by rw [e1]; rfl
         refine WX.qc (k + 1) ⟨rfl, rfl, rfl, ?_, rfl, rfl, trivial⟩ ⟨by omega, f1, by omega, hb5, hq5, f2, hw5⟩ (by show _ - _ < _ - _; omega)
         rw [f3]
         rfl)
       |(have hz : writeE (lwR s at_ B k).1 k at_ B.length ≠ 0 := h37
         have hz2 : writeE (lwR s at_ B k).1 k at_ B.length = 3 := h41
         have e1 : lwR s at_ B (k + 1) = (writeS (lwR s at_ B k).1 k at_ B, (lwR s at_ B k).2.1, 0) := by
          rw [lwR, if_neg (fun h9 => h9 hk0), if_neg hz, if_pos hz2]
         have f1 : (lwR s at_ B (k + 1)).2.2 = 0 := by rw [e1]
         have f2 : RK (fun x => A x ∨ n0 ≤ x) w5 R (lwR s at_ B (k + 1)).1 := by rw [e1]; exact h5
         have f3 : ((lwR s at_ B (k + 1)).2.1 : Int) = ((lwR s at_ B k).2.1 : Int) := by rw [e1]
         refine WX.qc (k + 1) ⟨rfl, rfl, rfl, ?_, rfl, rfl, trivial⟩ ⟨by omega, f1, by omega, hb5, hq5, f2, hw5⟩ (by show _ - _ < _ - _; omega)
         rw [f3]
         rfl)
     ·refine WL.assign rfl rfl (WL.t (WC.qa rfl (WC.sr (WL.move rfl rfl (WL.assign rfl rfl (WL.assign rfl rfl (WL.t (WC.ret (WX.qf (WX.qf (WX.qb (WX.qb (WX.qf (WX.qb (WX.qi (.inl rfl) Tryz.results8 rfl rfl ?_)))))))))))))))
      first
       |(have hz : ¬ 8 < s.sn := h12
         obtain ⟨e1, e2, e3⟩ := lw_right (u := u) hz
         rw [e1, e2, e3]
         exact ⟨_, rfl, rfl, h.mono (fun x hx => .inl hx), hw⟩)
       |(have hz : encE u ≠ 0 := h20
         obtain ⟨e1, e2, e3⟩ := lw_enc h12 hz
         rw [e1, e2, e3]
         exact ⟨_, rfl, rfl, h.mono (fun x hx => .inl hx), hw⟩)
       |(have hz : writeE (lwR s at_ B k).1 k at_ B.length ≠ 0 := h37
         have hz2 : writeE (lwR s at_ B k).1 k at_ B.length ≠ 3 := h41
         obtain ⟨e1, e2, e3⟩ := lw_stop h12 h20 eat eB (k := k) (by omega) hk0 hz hz2
         rw [e1, e2, e3]
         exact ⟨_, rfl, rfl, h5.mono (fun x hx => by rcases hx with h6 | h6; exact .inl h6; right; omega), hw5⟩)
       |(obtain rfl : k = s.dn := by omega
         obtain ⟨e1, e2, e3⟩ := lw_end h12 h20 eat eB hk0
         have hmo := h.mono (A' := fun x => A x ∨ w.heap.size ≤ x) (fun x hx => by rcases hx with h6 | h6; exact .inl h6; right; omega)
         by_cases hc : (lwR s at_ B s.dn).2.1 = 0
         ·rw [e1, e2, e3, if_pos hc, hc]
          first
           |exact ⟨_, rfl, rfl, hmo, hw⟩
           |(exfalso; omega)
         ·rw [e1, e2, e3, if_neg hc]
          first
           |exact ⟨_, rfl, rfl, hmo, hw⟩
           |(exfalso; omega))
   ·refine WL.t (WC.seq (WC.qa rfl (WC.exit (WX.qe (WX.qe (WX.qh (WX.qa (WC.seq (WC.sr (WL.move rfl rfl (WL.qj rfl rfl rfl (fun h44 => ?_) (fun h44 => ?_))))))))))))
    ·refine WL.t (WC.qb rfl (WC.sr (WL.assign rfl rfl (WL.assign rfl rfl (WL.nil (WX.qa (WC.ret (WX.qb (WX.qi (.inl rfl) Tryz.results8 rfl rfl ?_)))))))))
     first
      |(have hz : ¬ 8 < s.sn := h12
        obtain ⟨e1, e2, e3⟩ := lw_right (u := u) hz
        rw [e1, e2, e3]
        exact ⟨_, rfl, rfl, h.mono (fun x hx => .inl hx), hw⟩)
      |(have hz : encE u ≠ 0 := h20
        obtain ⟨e1, e2, e3⟩ := lw_enc h12 hz
        rw [e1, e2, e3]
        exact ⟨_, rfl, rfl, h.mono (fun x hx => .inl hx), hw⟩)
      |(have hz : writeE (lwR s at_ B k).1 k at_ B.length ≠ 0 := h37
        have hz2 : writeE (lwR s at_ B k).1 k at_ B.length ≠ 3 := h41
        obtain ⟨e1, e2, e3⟩ := lw_stop h12 h20 eat eB (k := k) (by omega) hk0 hz hz2
        rw [e1, e2, e3]
        exact ⟨_, rfl, rfl, h5.mono (fun x hx => by rcases hx with h6 | h6; exact .inl h6; right; omega), hw5⟩)
      |(obtain rfl : k = s.dn := by omega
        obtain ⟨e1, e2, e3⟩ := lw_end h12 h20 eat eB hk0
        have hmo := h.mono (A' := fun x => A x ∨ w.heap.size ≤ x) (fun x hx => by rcases hx with h6 | h6; exact .inl h6; right; omega)
        by_cases hc : (lwR s at_ B s.dn).2.1 = 0
        ·rw [e1, e2, e3, if_pos hc, hc]
         first
          |exact ⟨_, rfl, rfl, hmo, hw⟩
          |(exfalso; omega)
        ·rw [e1, e2, e3, if_neg hc]
         first
          |exact ⟨_, rfl, rfl, hmo, hw⟩
          |(exfalso; omega))
    ·refine WL.t (WC.qa rfl (WC.skip (WX.qa (WC.sr (WL.move rfl rfl (WL.assign rfl rfl (WL.assign rfl rfl (WL.t (WC.ret (WX.qi (.inl rfl) Tryz.results8 rfl rfl ?_))))))))))
     first
      |(have hz : ¬ 8 < s.sn := h12
        obtain ⟨e1, e2, e3⟩ := lw_right (u := u) hz
        rw [e1, e2, e3]
        exact ⟨_, rfl, rfl, h.mono (fun x hx => .inl hx), hw⟩)
      |(have hz : encE u ≠ 0 := h20
        obtain ⟨e1, e2, e3⟩ := lw_enc h12 hz
        rw [e1, e2, e3]
        exact ⟨_, rfl, rfl, h.mono (fun x hx => .inl hx), hw⟩)
      |(have hz : writeE (lwR s at_ B k).1 k at_ B.length ≠ 0 := h37
        have hz2 : writeE (lwR s at_ B k).1 k at_ B.length ≠ 3 := h41
        obtain ⟨e1, e2, e3⟩ := lw_stop h12 h20 eat eB (k := k) (by omega) hk0 hz hz2
        rw [e1, e2, e3]
        exact ⟨_, rfl, rfl, h5.mono (fun x hx => by rcases hx with h6 | h6; exact .inl h6; right; omega), hw5⟩)
      |(obtain rfl : k = s.dn := by omega
        obtain ⟨e1, e2, e3⟩ := lw_end h12 h20 eat eB hk0
        have hmo := h.mono (A' := fun x => A x ∨ w.heap.size ≤ x) (fun x hx => by rcases hx with h6 | h6; exact .inl h6; right; omega)
        by_cases hc : (lwR s at_ B s.dn).2.1 = 0
        ·rw [e1, e2, e3, if_pos hc, hc]
         first
          |exact ⟨_, rfl, rfl, hmo, hw⟩
          |(exfalso; omega)
        ·rw [e1, e2, e3, if_neg hc]
         first
          |exact ⟨_, rfl, rfl, hmo, hw⟩
          |(exfalso; omega))
 ·rw [decide_eq_false h12]
  refine WL.not rfl rfl (WL.t (WC.qb rfl (WC.sr (WL.assign rfl rfl (WL.assign rfl rfl (WL.t (WC.ret (WX.qb (WX.qi (.inl rfl) Tryz.results8 rfl rfl ?_)))))))))
  first
   |(have hz : ¬ 8 < s.sn := h12
     obtain ⟨e1, e2, e3⟩ := lw_right (u := u) hz
     rw [e1, e2, e3]
     exact ⟨_, rfl, rfl, h.mono (fun x hx => .inl hx), hw⟩)
   |(have hz : encE u ≠ 0 := h20
     obtain ⟨e1, e2, e3⟩ := lw_enc h12 hz
     rw [e1, e2, e3]
     exact ⟨_, rfl, rfl, h.mono (fun x hx => .inl hx), hw⟩)
   |(have hz : writeE (lwR s at_ B k).1 k at_ B.length ≠ 0 := h37
     have hz2 : writeE (lwR s at_ B k).1 k at_ B.length ≠ 3 := h41
     obtain ⟨e1, e2, e3⟩ := lw_stop h12 h20 eat eB (k := k) (by omega) hk0 hz hz2
     rw [e1, e2, e3]
     exact ⟨_, rfl, rfl, h5.mono (fun x hx => by rcases hx with h6 | h6; exact .inl h6; right; omega), hw5⟩)
   |(obtain rfl : k = s.dn := by omega
     obtain ⟨e1, e2, e3⟩ := lw_end h12 h20 eat eB hk0
     have hmo := h.mono (A' := fun x => A x ∨ w.heap.size ≤ x) (fun x hx => by rcases hx with h6 | h6; exact .inl h6; right; omega)
     by_cases hc : (lwR s at_ B s.dn).2.1 = 0
     ·rw [e1, e2, e3, if_pos hc, hc]
      first
       |exact ⟨_, rfl, rfl, hmo, hw⟩
       |(exfalso; omega)
     ·rw [e1, e2, e3, if_neg hc]
      first
       |exact ⟨_, rfl, rfl, hmo, hw⟩
       |(exfalso; omega))
theorem lWrite_calls {A : Nat → Prop} {w : World} {R : Nat} {s : RA} (h : RK A w R s) (u : UbV) (hu : WfU u) (hn : s.waits.length ≤ 90000) :
 Calls Tryz.prog 8 [ptr R, .agg (eub.f u).toArray].toArray w (Ret fun v w' => v = .tuple #[vi (lwN s u), vi (lwE s u)] ∧ RK (fun x => A x ∨ w.heap.size ≤ x) w' R (lwS s u) ∧ Chg A w w') := by
 refine (lWrite_in h.old (fun x hx => hx.2) u hu hn).mono ?_
 rintro e w' ⟨v, rfl, rfl, hR, k⟩
 exact ⟨_, rfl, rfl, hR.mono (fun x hx => hx.elim (fun h => .inl h.1) .inr), k.mono (fun x _ hx => hx.1)⟩
end Go.Proofs.YtjeldcjchipdgaaGreatDoor
namespace Go.Proofs.YtjeldcjchipdgaaGreatDoor
open Go.RowKit Go.HL
set_option maxRecDepth 100000
theorem Blk.eqc {w : World} {g : Nat} {T : TypeId} {cs cs' : List Value} (h : Blk w g T cs) (e : cs = cs') : Blk w g T cs' := e ▸ h
theorem decU_t {b : List UInt8} (h : decEr b = 0) : 1 ≤ (decV b).t := by
 unfold decEr at h
 unfold decV
 cases hd : decU b with
 |none => rw [hd] at h; cases h
 |some u =>
  unfold decU at hd
  split at hd
  ·split at hd
   ·rename_i hc
    injection hd with hd
    subst hd
    exact hc.2.2.1
   ·cases hd
  ·cases hd
def slotU (s : RA) (d : Int) (a : Nat) : UbV := if decEr (heldS s (d, a)) = 0 ∧ (decV (heldS s (d, a))).t % 8 = a then decV (heldS s (d, a)) else ⟨-1, zeroP⟩
def errD (s : RA) (d : Int) : Int := if goneS s d = true then 3 else if s.off = true then 16 else 0
def outK (s : RA) (d : Int) (k : Nat) : List UbV := (List.range 8).map fun i => if i < k then slotU s d i else zeroU
def wholeL (s : RA) (d : Int) : List UbV := if errD s d = 0 then outK s d 8 else []
theorem outK_len (s : RA) (d : Int) (k : Nat) : (outK s d k).length = 8 := by simp [outK]
theorem outK_0 (s : RA) (d : Int) : outK s d 0 = List.replicate 8 zeroU := by rfl
theorem outK_set (s : RA) (d : Int) {k : Nat} (hk : k < 8) : (outK s d k).set k (slotU s d k) = outK s d (k + 1) := by
 apply List.ext_getElem?
 intro i
 simp only [outK, List.getElem?_set, List.length_map, List.length_range, List.getElem?_map]
 by_cases h : k = i
 ·subst h
  simp [hk]
 ·by_cases hi : i < 8
  ·simp only [h, if_false, List.getElem?_range hi, Option.map_some]
   have : (i < k) ↔ (i < k + 1) := by omega
   simp only [this]
  ·simp [h, hi]
theorem errS_D {s : RA} {d : Int} (hd : isS s d) (h8 : 8 < s.sn) {a : Nat} (ha : a < 8) : errS s d a = errD s d := by
 unfold errS errD
 rw [if_neg (fun h => h ⟨hd.1, hd.2, by omega, by omega⟩)]
set_option maxHeartbeats 2000000 in
theorem whole_calls {A : Nat → Prop} {w : World} {R : Nat} {s : RA} (h : RK A w R s) {d : Int} (hd : isS s d) (h8 : 8 < s.sn) :
 Calls Tryz.prog 67 [ptr R, vi d].toArray w (Ret fun v w' => (∃ (ao : Option Addr) (c : Nat), v = .tuple #[.slice ao (wholeL s d).length c, vi (errD s d)] ∧ Row (w.heap.size ≤ ·) w' 41 eub ao c (wholeL s d)) ∧ Chg Nob w w') := by
 have hw := Chg.refl Nob w
 replace h : RK (fun x => x < w.heap.size) w R s := h.old.mono (fun x hx => hx.2)
 refine Calls.of_WC Tryz.func67 rfl Tryz.ntmps67 (by simp) ?_
 refine WC.sr (WL.assign rfl rfl (WL.assign rfl rfl (WL.t (WC.sr (?_)))))
 refine WL.za (e := eub) zeroU 8 8 Tryz.underlying118 info_41 rfl rfl rfl ⟨rfl, rfl, Nat.le_refl _⟩ (by constructor <;> omega) rfl ?_
 intro g0 w0 hO k0 z0 eg0
 rw [← outK_0 s d] at hO ⊢
 rw [outK_len]
 replace h := h.pure k0
 replace hw := hw.pure k0
 refine WL.assign rfl rfl (WL.t (WC.seq (WC.sr (WL.move rfl rfl (WL.len Tryz.underlying118 rfl rfl (WL.move rfl rfl (WL.t (WC.block (?_)))))))))
 refine WC.loop (σ := Nat) (fun k => [(0, ptr R), (1, vi d), (6, .slice (some ⟨g0, 0, none⟩) 8 8), (13, vi 8), (14, vi (k : Int))])
  (fun k w' => k ≤ 8 ∧ (0 < k → errD s d = 0) ∧ Row (fun x => x = g0) w' 41 eub (some ⟨g0, 0, none⟩) 8 (outK s d k) ∧ RK (fun x => x < w.heap.size) w' R s ∧ Chg Nob w w') (fun k => 8 - k) 0 ⟨rfl, rfl, rfl, rfl, rfl, trivial⟩
  ⟨Nat.zero_le _, fun h9 => absurd h9 (Nat.lt_irrefl _), ⟨fun a ea => by injection ea with ea; subst ea; rfl, hO.own⟩, h, hw⟩ ?_
 clear hO h hw
 rintro k w1 ⟨hk, hE, hO, h, hw⟩
 have lg0 : g0 < w1.heap.size := hO.own.lt _ rfl
 refine WC.sr (WL.qi rfl rfl rfl (fun h15 => ?_) (fun h15 => ?_))
 ·refine WL.t (WC.seq (WC.qb rfl (WC.skip (WX.qa (WC.seq (WC.block (WC.sr (WL.move rfl rfl (WL.assign rfl rfl (WL.t (WC.sr (WL.move rfl rfl (WL.move rfl rfl (WL.move rfl rfl (WL.call eg_86 rfl rfl (Read_calls h d k) ?_)))))))))))))))
  rintro v w2 ⟨⟨r, e, rfl, he, hx, -, hq⟩, k2⟩
  rw [errS_D hd h8 (by omega)] at he
  have zs_k2 := k2.size
  replace hO := hO.pure k2
  replace h := h.pure k2
  replace hw := hw.pure k2
  replace hq := hq.lt
  refine WL.move rfl rfl (WL.extract rfl rfl rfl (WL.extract rfl rfl rfl (WL.assign rfl rfl (WL.assign rfl rfl (WL.t (WC.seq (WC.sr (WL.move rfl rfl (WL.qk rfl rfl rfl (fun h25 => ?_) (fun h25 => ?_))))))))))
  ·refine WL.t (WC.qb rfl (WC.sr (WL.move rfl rfl (WL.assign rfl rfl (WL.assign rfl rfl (WL.t (WC.ret (WX.qb (WX.qf (WX.qb (WX.qb (WX.qf (WX.qb (WX.qi (.inl rfl) Tryz.results67 rfl rfl ?_))))))))))))))
   first
    |(have hz : e ≠ 0 := h25
      have hl : wholeL s d = [] := by rw [wholeL, if_neg (by rw [← he]; exact hz)]
      refine ⟨_, rfl, ⟨none, 0, ?_, ?_⟩, hw⟩
      ·rw [hl, ← he]
       rfl
      ·rw [hl]
       exact Row.nil _ _ _ _)
    |(have h0 := hE (by omega)
      have hk8 : k = 8 := by omega
      have hl : wholeL s d = outK s d k := by rw [wholeL, if_pos h0, hk8]
      refine ⟨_, rfl, ⟨some ⟨g0, 0, none⟩, 8, ?_, ?_⟩, hw⟩
      ·rw [hl, outK_len, h0]
      ·rw [hl]
       exact hO.mono (fun x hx => by omega))
  ·refine WL.t (WC.qa rfl (WC.skip (WX.qa (WC.sr (WL.move rfl rfl (?_))))))
   have hxs := hx (by omega)
   have hxl : r.xs.length = 128 := by rw [hxs]; exact heldS_len h.ok _
   have hq2 := hq.rsl.old
   refine WL.call eg_87 rfl rfl (decU_calls hq2 (by omega)) ?_
   rintro v w3 ⟨rfl, k3⟩
   rw [hxs]
   have zs_k3 := k3.size
   replace hO := hO.pure k3
   replace h := h.pure k3
   replace hw := hw.pure k3
   refine WL.move rfl rfl (WL.extract rfl rfl rfl (WL.extract rfl rfl rfl (WL.alloc Tryz.zeroValue41 rfl ?_)))
   intro g_1 w_1 hge_1 hlt_1 hb_1 k_1
   replace hO := hO.pure k_1
   replace h := h.pure k_1
   replace hw := hw.pure k_1
   refine WL.qf Tryz.sizeOf41 hb_1 rfl rfl (by rfl) (by exact Enc.one _ _) (by exact Nat.le_of_ble_eq_true rfl) rfl ?_
   intro w_2 hs_2 hn_2 k_2
   replace hO := hO.chg k_2 (by intro b h1 h2 h3; have h4 : _ = _ := h3; (try dsimp only at h2); exfalso; omega)
   replace h := h.chg k_2 (by intro b h1 h2 h3; have h4 : _ = _ := h3; (try dsimp only at h2); exfalso; omega)
   replace hw := hw.chg k_2 (by intro x h1 h2; have h3 : _ = _ := h2; exfalso; omega)
   replace hb_1 := hn_2
   refine WL.assign rfl rfl (WL.t (WC.seq (WC.sr (WL.move rfl rfl (WL.qk rfl rfl rfl (fun h33 => ?_) (fun h33 => ?_))))))
   ·refine WL.move rfl rfl (WL.pass rfl rfl rfl rfl (WL.pass rfl rfl rfl rfl (WL.pass rfl rfl rfl rfl (WL.pass rfl rfl rfl rfl (WL.pass rfl rfl rfl rfl (WL.qc rfl rfl rfl (WL.nil (WX.qa (WC.qb rfl (WC.region (WL.bld rfl (bld_41_0 _) rfl (?_))))))))))))
    refine WL.qf Tryz.sizeOf41 hb_1 rfl rfl (by simp; done) (by simp [Value.oneCell']; done) (by simp [Value.cells]; omega) rfl ?_
    intro w_3 hs_3 hn_3 k_3
    replace hO := hO.chg k_3 (by intro b h1 h2 h3; have h4 : _ = _ := h3; (try dsimp only at h2); exfalso; omega)
    replace h := h.chg k_3 (by intro b h1 h2 h3; have h4 : _ = _ := h3; (try dsimp only at h2); exfalso; omega)
    replace hw := hw.chg k_3 (by intro x h1 h2; have h3 : _ = _ := h2; exfalso; omega)
    replace hb_1 := hn_3
    refine WL.t (WC.region (WL.move rfl rfl (WL.move rfl rfl (?_))))
    have hb10 := Blk.eqc (cs' := eub.f (slotU s d k)) hb_1 (by
     by_cases hc : decEr (heldS s (d, (k : Int))) = 0 ∧ (decV (heldS s (d, (k : Int)))).t % 8 = k
     ·rw [slotU, if_pos hc]
      first
       |rfl
       |(exfalso; exact h33 hc.1)
       |(exfalso; exact h39 hc.2)
     ·rw [slotU, if_neg hc]
      first
       |rfl
       |(exfalso; exact hc ⟨h33, h39⟩))
    refine WL.qo (eub.f (slotU s d k)) Tryz.isAgg41 Tryz.sizeOf41 rfl (fun j v hj => by rw [Nat.zero_add]; exact hb10.cell hj) rfl rfl ?_
    refine WL.index (j := k) Tryz.underlying118 Tryz.sizeOf41 rfl rfl rfl (by omega) rfl ?_
    refine WL.storeE (e := eub) (vs := eub.f (slotU s d k)) (ys := (outK s d k).set k (slotU s d k)) Tryz.sizeOf41 hO rfl rfl rfl (eub.one _) (by rw [outK_len]; show 0 + k * 5 + 5 ≤ 8 * 5; omega) (List.length_set ..) (by rw [Nat.zero_add]; exact (Enc.all_set eub (by rw [outK_len]; omega) _).symm) ?_
    intro w9 z9 hO9 k9
    rw [outK_set s d (by omega)] at hO9
    replace h := h.chg k9 (by intro b h1 h2 h3; have h4 : _ = _ := h3; (try dsimp only at h2); exfalso; omega)
    replace hw := hw.chg k9 (by intro x h1 h2; have h3 : _ = _ := h2; exfalso; omega)
    refine WL.nil (WX.qd (WX.qa (WC.region (WL.qe rfl rfl (by omega) rfl (WL.move rfl rfl (WL.nil (?_)))))))
    exact WX.qc (k + 1) ⟨rfl, rfl, rfl, rfl, rfl, trivial⟩ ⟨by omega, fun _ => by rw [← he]; exact h25, hO9, h, hw⟩ (by show _ - _ < _ - _; omega)
   ·refine WL.move rfl rfl (WL.qa rfl rfl rfl (WL.fieldAddr (fld_41_0) rfl rfl (WL.qa rfl rfl rfl (WL.qd Tryz.isAgg3 hb_1 rfl rfl rfl (WL.qa rfl rfl rfl (?_))))))
    have hz : decEr (heldS s (d, (k : Int))) = 0 := h33
    have ht := decU_t hz
    refine WL.qw rfl rfl (by constructor <;> omega) rfl ?_
    refine WL.qa rfl rfl rfl (WL.move rfl rfl (WL.qa rfl rfl rfl (WL.qk rfl rfl rfl (fun h39 => ?_) (fun h39 => ?_))))
    ·refine WL.qb rfl rfl rfl (WL.t (WC.qb rfl (WC.region (WL.bld rfl (bld_41_0 _) rfl (?_)))))
     refine WL.qf Tryz.sizeOf41 hb_1 rfl rfl (by simp; done) (by simp [Value.oneCell']; done) (by simp [Value.cells]; omega) rfl ?_
     intro w_3 hs_3 hn_3 k_3
     replace hO := hO.chg k_3 (by intro b h1 h2 h3; have h4 : _ = _ := h3; (try dsimp only at h2); exfalso; omega)
     replace h := h.chg k_3 (by intro b h1 h2 h3; have h4 : _ = _ := h3; (try dsimp only at h2); exfalso; omega)
     replace hw := hw.chg k_3 (by intro x h1 h2; have h3 : _ = _ := h2; exfalso; omega)
     replace hb_1 := hn_3
     refine WL.t (WC.region (WL.move rfl rfl (WL.move rfl rfl (?_))))
     have hb10 := Blk.eqc (cs' := eub.f (slotU s d k)) hb_1 (by
      by_cases hc : decEr (heldS s (d, (k : Int))) = 0 ∧ (decV (heldS s (d, (k : Int)))).t % 8 = k
      ·rw [slotU, if_pos hc]
       first
        |rfl
        |(exfalso; exact h33 hc.1)
        |(exfalso; exact h39 hc.2)
      ·rw [slotU, if_neg hc]
       first
        |rfl
        |(exfalso; exact hc ⟨h33, h39⟩))
     refine WL.qo (eub.f (slotU s d k)) Tryz.isAgg41 Tryz.sizeOf41 rfl (fun j v hj => by rw [Nat.zero_add]; exact hb10.cell hj) rfl rfl ?_
     refine WL.index (j := k) Tryz.underlying118 Tryz.sizeOf41 rfl rfl rfl (by omega) rfl ?_
     refine WL.storeE (e := eub) (vs := eub.f (slotU s d k)) (ys := (outK s d k).set k (slotU s d k)) Tryz.sizeOf41 hO rfl rfl rfl (eub.one _) (by rw [outK_len]; show 0 + k * 5 + 5 ≤ 8 * 5; omega) (List.length_set ..) (by rw [Nat.zero_add]; exact (Enc.all_set eub (by rw [outK_len]; omega) _).symm) ?_
     intro w9 z9 hO9 k9
     rw [outK_set s d (by omega)] at hO9
     replace h := h.chg k9 (by intro b h1 h2 h3; have h4 : _ = _ := h3; (try dsimp only at h2); exfalso; omega)
     replace hw := hw.chg k9 (by intro x h1 h2; have h3 : _ = _ := h2; exfalso; omega)
     refine WL.nil (WX.qd (WX.qa (WC.region (WL.qe rfl rfl (by omega) rfl (WL.move rfl rfl (WL.nil (?_)))))))
     exact WX.qc (k + 1) ⟨rfl, rfl, rfl, rfl, rfl, trivial⟩ ⟨by omega, fun _ => by rw [← he]; exact h25, hO9, h, hw⟩ (by show _ - _ < _ - _; omega)
    ·refine WL.qb rfl rfl rfl (WL.t (WC.qa rfl (WC.skip (WX.qa (WC.region (WL.move rfl rfl (WL.move rfl rfl (?_))))))))
     have hb10 := Blk.eqc (cs' := eub.f (slotU s d k)) hb_1 (by
      by_cases hc : decEr (heldS s (d, (k : Int))) = 0 ∧ (decV (heldS s (d, (k : Int)))).t % 8 = k
      ·rw [slotU, if_pos hc]
       first
        |rfl
        |(exfalso; exact h33 hc.1)
        |(exfalso; exact h39 hc.2)
      ·rw [slotU, if_neg hc]
       first
        |rfl
        |(exfalso; exact hc ⟨h33, h39⟩))
     refine WL.qo (eub.f (slotU s d k)) Tryz.isAgg41 Tryz.sizeOf41 rfl (fun j v hj => by rw [Nat.zero_add]; exact hb10.cell hj) rfl rfl ?_
     refine WL.index (j := k) Tryz.underlying118 Tryz.sizeOf41 rfl rfl rfl (by omega) rfl ?_
     refine WL.storeE (e := eub) (vs := eub.f (slotU s d k)) (ys := (outK s d k).set k (slotU s d k)) Tryz.sizeOf41 hO rfl rfl rfl (eub.one _) (by rw [outK_len]; show 0 + k * 5 + 5 ≤ 8 * 5; omega) (List.length_set ..) (by rw [Nat.zero_add]; exact (Enc.all_set eub (by rw [outK_len]; omega) _).symm) ?_
     intro w9 z9 hO9 k9
     rw [outK_set s d (by omega)] at hO9
     replace h := h.chg k9 (by intro b h1 h2 h3; have h4 : _ = _ := h3; (try dsimp only at h2); exfalso; omega)
     replace hw := hw.chg k9 (by intro x h1 h2; have h3 : _ = _ := h2; exfalso; omega)
     refine WL.nil (WX.qd (WX.qa (WC.region (WL.qe rfl rfl (by omega) rfl (WL.move rfl rfl (WL.nil (?_)))))))
     exact WX.qc (k + 1) ⟨rfl, rfl, rfl, rfl, rfl, trivial⟩ ⟨by omega, fun _ => by rw [← he]; exact h25, hO9, h, hw⟩ (by show _ - _ < _ - _; omega)
 ·refine WL.t (WC.seq (WC.qa rfl (WC.exit (WX.qe (WX.qe (WX.qh (WX.qa (WC.sr (WL.move rfl rfl (WL.assign rfl rfl (WL.assign rfl rfl (WL.t (WC.ret (WX.qi (.inl rfl) Tryz.results67 rfl rfl ?_))))))))))))))
  first
   |(have hz : e ≠ 0 := h25
     have hl : wholeL s d = [] := by rw [wholeL, if_neg (by rw [← he]; exact hz)]
     refine ⟨_, rfl, ⟨none, 0, ?_, ?_⟩, hw⟩
     ·rw [hl, ← he]
      rfl
     ·rw [hl]
      exact Row.nil _ _ _ _)
   |(have h0 := hE (by omega)
     have hk8 : k = 8 := by omega
     have hl : wholeL s d = outK s d k := by rw [wholeL, if_pos h0, hk8]
     refine ⟨_, rfl, ⟨some ⟨g0, 0, none⟩, 8, ?_, ?_⟩, hw⟩
     ·rw [hl, outK_len, h0]
     ·rw [hl]
      exact hO.mono (fun x hx => by omega))
end Go.Proofs.YtjeldcjchipdgaaGreatDoor
namespace Go.Proofs.YtjeldcjchipdgaaGreatDoor
open Go.RowKit Go.HL
set_option maxRecDepth 100000
def better (b u : UbV) : UbV := if b.t < u.t then u else b
def bestR (s : RA) : Nat → UbV
 |0 => zeroU
 |k + 1 => (wholeL s k).foldl better (bestR s k)
def downS (s : RA) : Bool := (List.range s.dn).any fun d => decide (errD s d = 16)
def nwE (s : RA) : Int := if ¬ 8 < s.sn then 1 else if downS s = true then 16 else if (bestR s s.dn).t = 0 then 7 else 0
def nwU (s : RA) : UbV := if nwE s = 0 then bestR s s.dn else zeroU
theorem fold_take (l : List UbV) (b : UbV) {j : Nat} {u : UbV} (h : l[j]? = some u) : (l.take (j + 1)).foldl better b = better ((l.take j).foldl better b) u := by
 rw [List.take_add_one, h, List.foldl_append]
 rfl
theorem down_no {s : RA} (h : ∀ d, d < s.dn → errD s (d : Nat) ≠ 16) : downS s = false := by
 unfold downS
 rw [List.any_eq_false]
 intro d hd
 have := h d (List.mem_range.1 hd)
 simpa using this
theorem down_yes {s : RA} {d : Nat} (hd : d < s.dn) (h : errD s d = 16) : downS s = true := by
 unfold downS
 rw [List.any_eq_true]
 exact ⟨d, List.mem_range.2 hd, decide_eq_true h⟩
theorem nw_right {s : RA} (h : ¬ 8 < s.sn) : nwE s = 1 ∧ nwU s = zeroU := by
 have e : nwE s = 1 := by rw [nwE, if_pos h]
 exact ⟨e, by rw [nwU, e, if_neg (by decide)]⟩
theorem nw_down {s : RA} (h : 8 < s.sn) {d : Nat} (hd : d < s.dn) (h16 : errD s d = 16) : nwE s = 16 ∧ nwU s = zeroU := by
 have e : nwE s = 16 := by rw [nwE, if_neg (fun x => x h), if_pos (down_yes hd h16)]
 exact ⟨e, by rw [nwU, e, if_neg (by decide)]⟩
theorem nw_none {s : RA} (h : 8 < s.sn) (hd : downS s = false) (h0 : (bestR s s.dn).t = 0) : nwE s = 7 ∧ nwU s = zeroU := by
 have e : nwE s = 7 := by rw [nwE, if_neg (fun x => x h), if_neg (by rw [hd]; decide), if_pos h0]
 exact ⟨e, by rw [nwU, e, if_neg (by decide)]⟩
theorem nw_some {s : RA} (h : 8 < s.sn) (hd : downS s = false) (h0 : (bestR s s.dn).t ≠ 0) : nwE s = 0 ∧ nwU s = bestR s s.dn := by
 have e : nwE s = 0 := by rw [nwE, if_neg (fun x => x h), if_neg (by rw [hd]; decide), if_neg h0]
 exact ⟨e, by rw [nwU, if_pos e]⟩
set_option maxHeartbeats 2000000 in
theorem lNewest_calls {A : Nat → Prop} {w : World} {R : Nat} {s : RA} (h : RK A w R s) :
 Calls Tryz.prog 26 [ptr R].toArray w (Ret fun v w' => v = .tuple #[.agg (eub.f (nwU s)).toArray, vi (nwE s)] ∧ Chg Nob w w') := by
 have hw := Chg.refl Nob w
 have hdn := h.ok.dn
 replace h : RK (fun x => x < w.heap.size) w R s := h.old.mono (fun x hx => hx.2)
 refine Calls.of_WC Tryz.func26 rfl Tryz.ntmps26 (by simp) ?_
 refine WC.sr (WL.alloc Tryz.zeroValue41 rfl ?_)
 intro g_1 w_1 hge_1 hlt_1 hb_1 k_1
 have zs_k_1 := k_1.size
 replace h := h.pure k_1
 replace hw := hw.pure k_1
 refine WL.assign rfl rfl (WL.t (WC.seq (WC.sr (WL.move rfl rfl (WL.call eg_47 rfl rfl (right_calls h) ?_)))))
 rintro v w1 ⟨rfl, k1⟩
 have zs_k1 := k1.size
 replace h := h.pure k1
 replace hw := hw.pure k1
 replace hb_1 := hb_1.pure k1
 by_cases h12 : 8 < s.sn
 ·rw [decide_eq_true h12]
  refine WL.not rfl rfl (WL.t (WC.qa rfl (WC.skip (WX.qa (WC.sr (WL.alloc Tryz.zeroValue41 rfl ?_))))))
  intro g_2 w_2 hge_2 hlt_2 hb_2 k_2
  replace h := h.pure k_2
  replace hw := hw.pure k_2
  replace hb_1 := hb_1.pure k_2
  refine WL.t (WC.seq (WC.sr (WL.move rfl rfl (WL.call eg_49 rfl rfl (Drives_calls h) ?_))))
  rintro v w4 ⟨rfl, k4⟩
  replace h := h.pure k4
  replace hw := hw.pure k4
  replace hb_1 := hb_1.pure k4
  replace hb_2 := hb_2.pure k4
  refine WL.move rfl rfl (WL.t (WC.block (?_)))
  have hb1 := Blk.eqc (cs' := eub.f zeroU) hb_1 rfl
  have hb2 := Blk.eqc (cs' := eub.f zeroU) hb_2 rfl
  refine WC.loop (σ := Nat) (fun k => [(0, ptr R), (2, ptr g_1), (4, ptr g_2), (15, vi (s.dn : Int)), (16, vi (k : Int))])
   (fun k w' => k ≤ s.dn ∧ (∀ d, d < k → errD s (d : Nat) ≠ 16) ∧ Blk w' g_1 41 (eub.f zeroU) ∧ Blk w' g_2 41 (eub.f (bestR s k)) ∧ RK (fun x => x < w.heap.size) w' R s ∧ Chg Nob w w') (fun k => s.dn - k) 0 ⟨rfl, rfl, rfl, rfl, rfl, trivial⟩
   ⟨Nat.zero_le _, fun d hd => absurd hd (Nat.not_lt_zero d), hb1, hb2, h, hw⟩ ?_
  have hg12 : w.heap.size ≤ g_1 ∧ g_1 < g_2 := by omega
  clear hb1 hb2 hb_1 hb_2 h hw
  rintro k w3 ⟨hk, hE, hb1, hb2, h, hw⟩
  have lg2 := hb2.lt
  refine WC.sr (WL.qi rfl rfl rfl (fun h17 => ?_) (fun h17 => ?_))
  ·refine WL.t (WC.seq (WC.qb rfl (WC.skip (WX.qa (WC.seq (WC.block (WC.sr (WL.move rfl rfl (WL.assign rfl rfl (WL.t (WC.sr (WL.move rfl rfl (WL.move rfl rfl (?_))))))))))))))
   have hsd : isS s (k : Int) := ⟨by omega, by omega⟩
   refine WL.call eg_67 rfl rfl (whole_calls h hsd h12) ?_
   rintro v w5 ⟨⟨ao, c, rfl, hq⟩, k5⟩
   obtain ⟨L, eL⟩ : ∃ L, L = wholeL s k := ⟨_, rfl⟩
   have hLl : L.length ≤ 8 := by rw [eL, wholeL]; split; rw [outK_len]; omega; simp
   rw [← eL] at hq ⊢
   replace hb1 := hb1.pure k5
   replace hb2 := hb2.pure k5
   replace h := h.pure k5
   replace hw := hw.pure k5
   replace hq := hq.lt
   refine WL.move rfl rfl (WL.extract rfl rfl rfl (WL.extract rfl rfl rfl (WL.assign rfl rfl (WL.assign rfl rfl (WL.t (WC.seq (WC.sr (WL.move rfl rfl (WL.qj rfl rfl rfl (fun h26 => ?_) (fun h26 => ?_))))))))))
   ·refine WL.t (WC.qb rfl (WC.sr (WL.bld rfl (bld_41_z) rfl (WL.move rfl rfl (?_)))))
    refine WL.qf Tryz.sizeOf41 hb1 rfl rfl (by simp; done) (by simp [Value.oneCell']; done) (by exact Nat.le_of_ble_eq_true rfl) rfl ?_
    intro w_3 hs_3 hn_3 k_3
    replace hw := hw.chg k_3 (by intro x h1 h2; have h3 : _ = _ := h2; exfalso; omega)
    replace hb1 := hn_3
    refine WL.assign rfl rfl (WL.t (WC.ret (WX.qb (WX.qf (WX.qb (WX.qb (WX.qf (WX.qb (WX.qj (.inl rfl) Tryz.results26 Tryz.isAgg41 Tryz.sizeOf41 hb1 rfl (by rfl) rfl ?_)))))))))
    first
     |(have hz : ¬ 8 < s.sn := h12
       obtain ⟨e1, e2⟩ := nw_right hz
       rw [e1, e2]
       exact ⟨_, rfl, rfl, hw⟩)
     |(have hz : errD s k = 16 := h26
       obtain ⟨e1, e2⟩ := nw_down h12 (d := k) (by omega) hz
       rw [e1, e2]
       refine ⟨_, rfl, ?_, hw⟩
       rw [← hz]
       rfl)
     |(have hkd : k = s.dn := by omega
       subst hkd
       have hno := down_no hE
       by_cases hc : (bestR s s.dn).t = 0
       ·obtain ⟨e1, e2⟩ := nw_none h12 hno hc
        rw [e1, e2]
        first
         |exact ⟨_, rfl, rfl, hw⟩
         |(exfalso; omega)
       ·obtain ⟨e1, e2⟩ := nw_some h12 hno hc
        rw [e1, e2]
        first
         |exact ⟨_, rfl, rfl, hw⟩
         |(exfalso; omega))
   ·refine WL.t (WC.qa rfl (WC.skip (WX.qa (WC.sr (WL.move rfl rfl (WL.len Tryz.underlying118 rfl rfl (WL.move rfl rfl (WL.t (WC.block (?_))))))))))
    obtain ⟨n5, en5⟩ : ∃ n5, n5 = w5.heap.size := ⟨_, rfl⟩
    refine WC.loop (σ := Nat) (fun j => [(0, ptr R), (2, ptr g_1), (4, ptr g_2), (15, vi (s.dn : Int)), (16, vi (k : Int)), (29, .slice ao L.length c), (30, vi (L.length : Int)), (31, vi (j : Int))])
     (fun j w' => j ≤ L.length ∧ Blk w' g_1 41 (eub.f zeroU) ∧ Blk w' g_2 41 (eub.f ((L.take j).foldl better (bestR s k))) ∧ Row (fun x => w3.heap.size ≤ x ∧ x < n5) w' 41 eub ao c L ∧ n5 ≤ w'.heap.size ∧ RK (fun x => x < w.heap.size) w' R s ∧ Chg Nob w w') (fun j => L.length - j) 0 ⟨rfl, rfl, rfl, rfl, rfl, rfl, rfl, rfl, trivial⟩
     ⟨Nat.zero_le _, hb1, hb2, hq.mono (fun x hx => by omega), by omega, h, hw⟩ ?_
    clear hb1 hb2 hq h hw
    rintro j w6 ⟨hj, hb1, hb2, hq, hn5, h, hw⟩
    have lg11 := hb1.lt
    have lg22 := hb2.lt
    refine WC.sr (WL.qi rfl rfl rfl (fun h32 => ?_) (fun h32 => ?_))
    ·refine WL.t (WC.seq (WC.qb rfl (WC.skip (WX.qa (WC.seq (WC.block (WC.sr (?_))))))))
     obtain ⟨u, hu⟩ : ∃ u, L[j]? = some u := ⟨_, List.getElem?_eq_getElem (by omega)⟩
     refine WL.qg Tryz.underlying118 Tryz.sizeOf41 hq.rsl rfl rfl ⟨hu, rfl⟩ rfl ?_
     intro b_3 o_3 hc_3
     refine WL.qo _ Tryz.isAgg41 Tryz.sizeOf41 rfl hc_3 rfl rfl (WL.alloc Tryz.zeroValue41 rfl ?_)
     intro g_4 w_4 hge_4 hlt_4 hb_4 k_4
     replace hb1 := hb1.pure k_4
     replace hb2 := hb2.pure k_4
     replace hq := hq.pure k_4
     replace h := h.pure k_4
     replace hw := hw.pure k_4
     refine WL.qf Tryz.sizeOf41 hb_4 rfl rfl (by rfl) (by exact Enc.one _ _) (by exact Nat.le_of_ble_eq_true rfl) rfl ?_
     intro w_5 hs_5 hn_5 k_5
     replace hb1 := hb1.chg k_5 (by intro h1; have h2 : _ = _ := h1; exfalso; omega)
     replace hb2 := hb2.chg k_5 (by intro h1; have h2 : _ = _ := h1; exfalso; omega)
     replace hq := hq.chg k_5 (by intro b h1 h2 h3; have h4 : _ = _ := h3; (try dsimp only at h2); exfalso; omega)
     replace h := h.chg k_5 (by intro b h1 h2 h3; have h4 : _ = _ := h3; (try dsimp only at h2); exfalso; omega)
     replace hw := hw.chg k_5 (by intro x h1 h2; have h3 : _ = _ := h2; exfalso; omega)
     replace hb_4 := hn_5
     refine WL.t (WC.sr (WL.fieldAddr (fld_41_0) rfl rfl (?_)))
     have hb9 := Blk.eqc (cs' := eub.f u) hb_4 rfl
     refine WL.qd Tryz.isAgg3 hb9 rfl rfl rfl (WL.fieldAddr (fld_41_0) rfl rfl (WL.qd Tryz.isAgg3 hb2 rfl rfl rfl (WL.qr rfl rfl rfl (fun h39 => ?_) (fun h39 => ?_))))
     ·refine WL.t (WC.qb rfl (WC.region (?_)))
      refine WL.qo (eub.f u) Tryz.isAgg41 Tryz.sizeOf41 rfl (fun j v hj => by rw [Nat.zero_add]; exact hb9.cell hj) rfl rfl ?_
      refine WL.qf Tryz.sizeOf41 hb2 rfl rfl (by rfl) (by exact Enc.one _ _) (by exact Nat.le_of_ble_eq_true rfl) rfl ?_
      intro w_6 hs_6 hn_6 k_6
      replace hb1 := hb1.chg k_6 (by intro h1; have h2 : _ = _ := h1; exfalso; omega)
      replace hq := hq.chg k_6 (by intro b h1 h2 h3; have h4 : _ = _ := h3; (try dsimp only at h2); exfalso; omega)
      replace h := h.chg k_6 (by intro b h1 h2 h3; have h4 : _ = _ := h3; (try dsimp only at h2); exfalso; omega)
      replace hw := hw.chg k_6 (by intro x h1 h2; have h3 : _ = _ := h2; exfalso; omega)
      replace hb2 := hn_6
      refine WL.nil (WX.qd (WX.qa (WC.region (WL.qe rfl rfl (by omega) rfl (WL.move rfl rfl (WL.nil (?_)))))))
      first
       |(have hz : (List.foldl better (bestR s k) (List.take j L)).t < u.t := h39
         have e1 := fold_take L (bestR s k) hu
         have hb2' := Blk.eqc (cs' := eub.f ((L.take (j + 1)).foldl better (bestR s k))) hb2 (by rw [e1, better, if_pos hz]; rfl)
         exact WX.qc (j + 1) ⟨rfl, rfl, rfl, rfl, rfl, rfl, rfl, rfl, trivial⟩ ⟨by omega, hb1, hb2', hq, by omega, h, hw⟩ (by show _ - _ < _ - _; omega))
       |(have hz : u.t ≤ (List.foldl better (bestR s k) (List.take j L)).t := h39
         have e1 := fold_take L (bestR s k) hu
         have hb2' := Blk.eqc (cs' := eub.f ((L.take (j + 1)).foldl better (bestR s k))) hb2 (by rw [e1, better, if_neg (by omega)])
         exact WX.qc (j + 1) ⟨rfl, rfl, rfl, rfl, rfl, rfl, rfl, rfl, trivial⟩ ⟨by omega, hb1, hb2', hq, by omega, h, hw⟩ (by show _ - _ < _ - _; omega))
       |(have hz : (L.length : Int) ≤ j := h32
         have hjl : L.take j = L := List.take_of_length_le (by omega)
         have hz2 : errD s k ≠ 16 := h26
         have hb2' := Blk.eqc (cs' := eub.f (bestR s (k + 1))) hb2 (by rw [bestR, ← eL, hjl])
         refine WX.qc (k + 1) ⟨rfl, rfl, rfl, rfl, rfl, trivial⟩ ⟨by omega, fun d hd => ?_, hb1, hb2', h, hw⟩ (by show _ - _ < _ - _; omega)
         rcases Nat.lt_or_ge d k with h9 | h9
         ·exact hE d h9
         ·rw [show d = k from by omega]; exact hz2)
     ·refine WL.t (WC.qa rfl (WC.skip (WX.qd (WX.qa (WC.region (WL.qe rfl rfl (by omega) rfl (?_)))))))
      refine WL.move rfl rfl (WL.nil (?_))
      first
       |(have hz : (List.foldl better (bestR s k) (List.take j L)).t < u.t := h39
         have e1 := fold_take L (bestR s k) hu
         have hb2' := Blk.eqc (cs' := eub.f ((L.take (j + 1)).foldl better (bestR s k))) hb2 (by rw [e1, better, if_pos hz]; rfl)
         exact WX.qc (j + 1) ⟨rfl, rfl, rfl, rfl, rfl, rfl, rfl, rfl, trivial⟩ ⟨by omega, hb1, hb2', hq, by omega, h, hw⟩ (by show _ - _ < _ - _; omega))
       |(have hz : u.t ≤ (List.foldl better (bestR s k) (List.take j L)).t := h39
         have e1 := fold_take L (bestR s k) hu
         have hb2' := Blk.eqc (cs' := eub.f ((L.take (j + 1)).foldl better (bestR s k))) hb2 (by rw [e1, better, if_neg (by omega)])
         exact WX.qc (j + 1) ⟨rfl, rfl, rfl, rfl, rfl, rfl, rfl, rfl, trivial⟩ ⟨by omega, hb1, hb2', hq, by omega, h, hw⟩ (by show _ - _ < _ - _; omega))
       |(have hz : (L.length : Int) ≤ j := h32
         have hjl : L.take j = L := List.take_of_length_le (by omega)
         have hz2 : errD s k ≠ 16 := h26
         have hb2' := Blk.eqc (cs' := eub.f (bestR s (k + 1))) hb2 (by rw [bestR, ← eL, hjl])
         refine WX.qc (k + 1) ⟨rfl, rfl, rfl, rfl, rfl, trivial⟩ ⟨by omega, fun d hd => ?_, hb1, hb2', h, hw⟩ (by show _ - _ < _ - _; omega)
         rcases Nat.lt_or_ge d k with h9 | h9
         ·exact hE d h9
         ·rw [show d = k from by omega]; exact hz2)
    ·refine WL.t (WC.seq (WC.qa rfl (WC.exit (WX.qe (WX.qe (WX.qh (WX.qd (WX.qa (WC.region (WL.qe rfl rfl (by omega) rfl (WL.move rfl rfl (WL.nil (?_)))))))))))))
     first
      |(have hz : (List.foldl better (bestR s k) (List.take j L)).t < u.t := h39
        have e1 := fold_take L (bestR s k) hu
        have hb2' := Blk.eqc (cs' := eub.f ((L.take (j + 1)).foldl better (bestR s k))) hb2 (by rw [e1, better, if_pos hz]; rfl)
        exact WX.qc (j + 1) ⟨rfl, rfl, rfl, rfl, rfl, rfl, rfl, rfl, trivial⟩ ⟨by omega, hb1, hb2', hq, by omega, h, hw⟩ (by show _ - _ < _ - _; omega))
      |(have hz : u.t ≤ (List.foldl better (bestR s k) (List.take j L)).t := h39
        have e1 := fold_take L (bestR s k) hu
        have hb2' := Blk.eqc (cs' := eub.f ((L.take (j + 1)).foldl better (bestR s k))) hb2 (by rw [e1, better, if_neg (by omega)])
        exact WX.qc (j + 1) ⟨rfl, rfl, rfl, rfl, rfl, rfl, rfl, rfl, trivial⟩ ⟨by omega, hb1, hb2', hq, by omega, h, hw⟩ (by show _ - _ < _ - _; omega))
      |(have hz : (L.length : Int) ≤ j := h32
        have hjl : L.take j = L := List.take_of_length_le (by omega)
        have hz2 : errD s k ≠ 16 := h26
        have hb2' := Blk.eqc (cs' := eub.f (bestR s (k + 1))) hb2 (by rw [bestR, ← eL, hjl])
        refine WX.qc (k + 1) ⟨rfl, rfl, rfl, rfl, rfl, trivial⟩ ⟨by omega, fun d hd => ?_, hb1, hb2', h, hw⟩ (by show _ - _ < _ - _; omega)
        rcases Nat.lt_or_ge d k with h9 | h9
        ·exact hE d h9
        ·rw [show d = k from by omega]; exact hz2)
  ·refine WL.t (WC.seq (WC.qa rfl (WC.exit (WX.qe (WX.qe (WX.qh (WX.qa (WC.seq (WC.sr (WL.fieldAddr (fld_41_0) rfl rfl (WL.qd Tryz.isAgg3 hb2 rfl rfl rfl (WL.qj rfl rfl rfl (fun h45 => ?_) (fun h45 => ?_)))))))))))))
   ·refine WL.t (WC.qb rfl (WC.sr (WL.bld rfl (bld_41_z) rfl (?_))))
    refine WL.qf Tryz.sizeOf41 hb1 rfl rfl (by simp; done) (by simp [Value.oneCell']; done) (by exact Nat.le_of_ble_eq_true rfl) rfl ?_
    intro w_3 hs_3 hn_3 k_3
    replace hb2 := hb2.chg k_3 (by intro h1; have h2 : _ = _ := h1; exfalso; omega)
    replace hw := hw.chg k_3 (by intro x h1 h2; have h3 : _ = _ := h2; exfalso; omega)
    replace hb1 := hn_3
    refine WL.assign rfl rfl (WL.t (WC.ret (WX.qb (WX.qj (.inl rfl) Tryz.results26 Tryz.isAgg41 Tryz.sizeOf41 hb1 rfl (by rfl) rfl ?_))))
    first
     |(have hz : ¬ 8 < s.sn := h12
       obtain ⟨e1, e2⟩ := nw_right hz
       rw [e1, e2]
       exact ⟨_, rfl, rfl, hw⟩)
     |(have hz : errD s k = 16 := h26
       obtain ⟨e1, e2⟩ := nw_down h12 (d := k) (by omega) hz
       rw [e1, e2]
       refine ⟨_, rfl, ?_, hw⟩
       rw [← hz]
       rfl)
     |(have hkd : k = s.dn := by omega
       subst hkd
       have hno := down_no hE
       by_cases hc : (bestR s s.dn).t = 0
       ·obtain ⟨e1, e2⟩ := nw_none h12 hno hc
        rw [e1, e2]
        first
         |exact ⟨_, rfl, rfl, hw⟩
         |(exfalso; omega)
       ·obtain ⟨e1, e2⟩ := nw_some h12 hno hc
        rw [e1, e2]
        first
         |exact ⟨_, rfl, rfl, hw⟩
         |(exfalso; omega))
   ·refine WL.t (WC.qa rfl (WC.skip (WX.qa (WC.sr (WL.qq Tryz.isAgg41 Tryz.sizeOf41 hb2 rfl (by rfl) rfl (?_))))))
    refine WL.qf Tryz.sizeOf41 hb1 rfl rfl (by rfl) (by exact Enc.one _ _) (by exact Nat.le_of_ble_eq_true rfl) rfl ?_
    intro w_3 hs_3 hn_3 k_3
    replace hb2 := hb2.chg k_3 (by intro h1; have h2 : _ = _ := h1; exfalso; omega)
    replace hw := hw.chg k_3 (by intro x h1 h2; have h3 : _ = _ := h2; exfalso; omega)
    replace hb1 := hn_3
    refine WL.assign rfl rfl (WL.t (WC.ret (WX.qj (.inl rfl) Tryz.results26 Tryz.isAgg41 Tryz.sizeOf41 hb1 rfl (by rfl) rfl ?_)))
    first
     |(have hz : ¬ 8 < s.sn := h12
       obtain ⟨e1, e2⟩ := nw_right hz
       rw [e1, e2]
       exact ⟨_, rfl, rfl, hw⟩)
     |(have hz : errD s k = 16 := h26
       obtain ⟨e1, e2⟩ := nw_down h12 (d := k) (by omega) hz
       rw [e1, e2]
       refine ⟨_, rfl, ?_, hw⟩
       rw [← hz]
       rfl)
     |(have hkd : k = s.dn := by omega
       subst hkd
       have hno := down_no hE
       by_cases hc : (bestR s s.dn).t = 0
       ·obtain ⟨e1, e2⟩ := nw_none h12 hno hc
        rw [e1, e2]
        first
         |exact ⟨_, rfl, rfl, hw⟩
         |(exfalso; omega)
       ·obtain ⟨e1, e2⟩ := nw_some h12 hno hc
        rw [e1, e2]
        first
         |exact ⟨_, rfl, rfl, hw⟩
         |(exfalso; omega))
 ·rw [decide_eq_false h12]
  refine WL.not rfl rfl (WL.t (WC.qb rfl (WC.sr (WL.bld rfl (bld_41_z) rfl (?_)))))
  refine WL.qf Tryz.sizeOf41 hb_1 rfl rfl (by simp; done) (by simp [Value.oneCell']; done) (by simp [Value.cells]; done) rfl ?_
  intro w_2 hs_2 hn_2 k_2
  replace hw := hw.chg k_2 (by intro x h1 h2; have h3 : _ = _ := h2; exfalso; omega)
  replace hb_1 := hn_2
  refine WL.assign rfl rfl (WL.t (WC.ret (WX.qb (WX.qj (.inl rfl) Tryz.results26 Tryz.isAgg41 Tryz.sizeOf41 hb_1 rfl (by rfl) rfl ?_))))
  first
   |(have hz : ¬ 8 < s.sn := h12
     obtain ⟨e1, e2⟩ := nw_right hz
     rw [e1, e2]
     exact ⟨_, rfl, rfl, hw⟩)
   |(have hz : errD s k = 16 := h26
     obtain ⟨e1, e2⟩ := nw_down h12 (d := k) (by omega) hz
     rw [e1, e2]
     refine ⟨_, rfl, ?_, hw⟩
     rw [← hz]
     rfl)
   |(have hkd : k = s.dn := by omega
     subst hkd
     have hno := down_no hE
     by_cases hc : (bestR s s.dn).t = 0
     ·obtain ⟨e1, e2⟩ := nw_none h12 hno hc
      rw [e1, e2]
      first
       |exact ⟨_, rfl, rfl, hw⟩
       |(exfalso; omega)
     ·obtain ⟨e1, e2⟩ := nw_some h12 hno hc
      rw [e1, e2]
      first
       |exact ⟨_, rfl, rfl, hw⟩
       |(exfalso; omega))
end Go.Proofs.YtjeldcjchipdgaaGreatDoor
namespace Go.Proofs.YtjeldcjchipdgaaGreatDoor
open Go.RowKit Go.HL
set_option maxRecDepth 100000
theorem dec_enc {u : UbV} (h : encE u = 0) (hw : WfU u) : decU (encB u) = some u := by
 obtain ⟨t1, t2, t3, t4⟩ := encE_t h
 have hu := un_sec t3 (uit_rit hw)
 have hp := unp_ptr t1 hw.2
 unfold decU
 rw [encB, if_pos ⟨t1, t2⟩, hu]
 simp [uit, hp, t2]
theorem zeros_no : decU zeros = none := by
 refine decU_bad (.inl ?_)
 have hz : unS zeros = none := by
  unfold unS
  rw [if_neg]
  rintro ⟨_, _, _, h⟩
  have h0 : ((zeros.take (1 + (zeros.getD 0 0).toNat)).drop 1) = [] := by decide +kernel
  rw [h0] at h
  exact absurd h (by decide)
 rw [(un_none hz).2]
 decide
theorem slot_zeros {s : RA} {d : Int} {a : Nat} (h : heldS s (d, a) = zeros) : slotU s d a = ⟨-1, zeroP⟩ := by
 rw [slotU, h, (decU_no zeros_no).2, if_neg (fun h => absurd h.1 (by decide))]
theorem slot_enc {s : RA} {d : Int} {a : Nat} {u : UbV} (h : heldS s (d, a) = encB u) (hE : encE u = 0) (hw : WfU u) (ha : u.t % 8 = a) : slotU s d a = u := by
 obtain ⟨e1, e2⟩ := decU_yes (dec_enc hE hw)
 rw [slotU, h, e1, e2, if_pos ⟨rfl, ha⟩]
def addAll (s : RA) (a : Int) (B : List UInt8) : Nat → RA
 |0 => s
 |k + 1 => if goneS s (k : Nat) = true then addAll s a B k else addS (addAll s a B k) ((k : Nat), a) B
def cntD (s : RA) : Nat → Nat
 |0 => 0
 |k + 1 => if goneS s (k : Nat) = true then cntD s k else cntD s k + 1
theorem addAll_dn (s : RA) (a : Int) (B : List UInt8) (k : Nat) : (addAll s a B k).dn = s.dn ∧ (addAll s a B k).sn = s.sn ∧ (addAll s a B k).gone = s.gone ∧ (addAll s a B k).off = s.off ∧ (addAll s a B k).armed = s.armed ∧ (addAll s a B k).last = s.last := by
 induction k with
 |zero => exact ⟨rfl, rfl, rfl, rfl, rfl, rfl⟩
 |succ k ih =>
  rw [addAll]
  split
  ·exact ih
  ·exact ih
theorem addAll_up {s : RA} (h : Up s) (a : Int) (B : List UInt8) (k : Nat) : Up (addAll s a B k) :=
 ⟨(addAll_dn s a B k).2.2.2.1.trans h.off, (addAll_dn s a B k).2.2.2.2.1.trans h.armed⟩
theorem addAll_gone (s : RA) (a : Int) (B : List UInt8) (k : Nat) (d : Int) : goneS (addAll s a B k) d = goneS s d := by
 unfold goneS
 rw [(addAll_dn s a B k).2.2.1]
theorem addAll_held (s : RA) (a : Int) (B : List UInt8) (k : Nat) (q : Pl) : heldS (addAll s a B k) q = if (∃ d, d < k ∧ q = (((d : Nat) : Int), a) ∧ goneS s (d : Nat) = false) then B else heldS s q := by
 induction k with
 |zero =>
  rw [if_neg]
  ·rfl
  ·rintro ⟨d, hd, _⟩
   omega
 |succ k ih =>
  rw [addAll]
  by_cases hg : goneS s (k : Nat) = true
  ·rw [if_pos hg, ih]
   have : (∃ d, d < k ∧ q = (((d : Nat) : Int), a) ∧ goneS s (d : Nat) = false) ↔ (∃ d, d < k + 1 ∧ q = (((d : Nat) : Int), a) ∧ goneS s (d : Nat) = false) := by
    constructor
    ·rintro ⟨d, h1, h2, h3⟩
     exact ⟨d, by omega, h2, h3⟩
    ·rintro ⟨d, h1, h2, h3⟩
     refine ⟨d, ?_, h2, h3⟩
     rcases Nat.lt_or_ge d k with h4 | h4
     ·exact h4
     ·have : d = k := by omega
      subst this
      rw [hg] at h3
      cases h3
   simp only [this]
  ·rw [if_neg hg, addS_held]
   by_cases hq : q = (((k : Nat) : Int), a)
   ·rw [if_pos hq, if_pos ⟨k, by omega, hq, by simpa using hg⟩]
   ·rw [if_neg hq, ih]
    have : (∃ d, d < k ∧ q = (((d : Nat) : Int), a) ∧ goneS s (d : Nat) = false) ↔ (∃ d, d < k + 1 ∧ q = (((d : Nat) : Int), a) ∧ goneS s (d : Nat) = false) := by
     constructor
     ·rintro ⟨d, h1, h2, h3⟩
      exact ⟨d, by omega, h2, h3⟩
     ·rintro ⟨d, h1, h2, h3⟩
      refine ⟨d, ?_, h2, h3⟩
      rcases Nat.lt_or_ge d k with h4 | h4
      ·exact h4
      ·have : d = k := by omega
       subst this
       exact absurd h2 hq
    simp only [this]
theorem lwR_up {s : RA} (h : Up s) (hs : 8 < s.sn) {a : Int} (ha : 0 ≤ a ∧ a < 8) {B : List UInt8} (hB : B.length = 128) (k : Nat) (hk : k ≤ s.dn) : lwR s a B k = (addAll s a B k, cntD s k, 0) := by
 induction k with
 |zero => rfl
 |succ k ih =>
  have ih := ih (by omega)
  have hi : inS (addAll s a B k) (k : Nat) a := by
   unfold inS
   rw [(addAll_dn s a B k).1, (addAll_dn s a B k).2.1]
   omega
  rw [lwR, ih]
  simp only [ne_eq, not_true_eq_false, if_false]
  cases hg : goneS s (k : Nat) with
  |false =>
   obtain ⟨e1, e2⟩ := (addAll_up h a B k).write hi (by rw [addAll_gone]; exact hg) hB
   rw [if_pos e1, e2, addAll, cntD, if_neg (by rw [hg]; decide), if_neg (by rw [hg]; decide)]
  |true =>
   have e1 : writeE (addAll s a B k) (k : Nat) a B.length = 3 := by
    unfold writeE
    rw [if_neg (fun x => x.elim (fun y => y hi) (fun y => y hB)), if_pos (by rw [addAll_gone]; exact hg)]
   have e2 : writeS (addAll s a B k) (k : Nat) a B = addAll s a B k := by
    unfold writeS
    rw [e1, if_neg (by decide), if_neg (by decide)]
   rw [e1, if_neg (by decide), if_pos rfl, e2, addAll, cntD, if_pos hg, if_pos hg]
theorem lw_up {s : RA} (h : Up s) (hs : 8 < s.sn) {u : UbV} (hE : encE u = 0) : lwS s u = addAll s (u.t % 8) (encB u) s.dn ∧ lwN s u = cntD s s.dn ∧ lwE s u = if cntD s s.dn = 0 then 4 else 0 := by
 obtain ⟨t1, t2, t3, t4⟩ := encE_t hE
 have e := lwR_up h hs (a := u.t % 8) (by omega) t4 s.dn (Nat.le_refl _)
 obtain ⟨e1, e2, e3⟩ := lw_end hs hE rfl rfl (by rw [e])
 rw [e1, e2, e3, e]
 exact ⟨rfl, rfl, rfl⟩
theorem fold_best (u : UbV) : ∀ (l : List UbV) (b : UbV), (∀ x ∈ l, x.t ≤ u.t ∧ (x.t = u.t → x = u)) → (b.t ≤ u.t ∧ (b.t = u.t → b = u)) → (u ∈ l ∨ b = u) → l.foldl better b = u
 |[], b, _, _, h => by
  rcases h with h | h
  ·cases h
  ·exact h
 |x :: l, b, hl, hb, h => by
  have hx := hl x (.head _)
  have hb2 : (better b x).t ≤ u.t ∧ ((better b x).t = u.t → better b x = u) := by
   unfold better
   split
   ·exact hx
   ·exact hb
  refine fold_best u l (better b x) (fun y hy => hl y (.tail _ hy)) hb2 ?_
  rcases h with h | h
  ·rcases List.mem_cons.1 h with h1 | h1
   ·right
    subst h1
    unfold better
    split
    ·rfl
    ·exact hb.2 (by omega)
   ·exact .inl h1
  ·right
   subst h
   unfold better
   split
   ·exfalso; have := hx.1; omega
   ·rfl
theorem bestR_fold (s : RA) (k : Nat) : bestR s k = ((List.range k).flatMap fun d => wholeL s (d : Nat)).foldl better zeroU := by
 induction k with
 |zero => rfl
 |succ k ih => rw [bestR, ih, List.range_succ, List.flatMap_append, List.foldl_append]; simp
theorem mem_whole {s : RA} {d : Int} {x : UbV} : x ∈ wholeL s d ↔ errD s d = 0 ∧ ∃ a, a < 8 ∧ slotU s d a = x := by
 unfold wholeL
 split
 ·rename_i h
  simp only [outK, List.mem_map, List.mem_range]
  constructor
  ·rintro ⟨a, ha, hx⟩
   rw [if_pos ha] at hx
   exact ⟨h, a, ha, hx⟩
  ·rintro ⟨_, a, ha, hx⟩
   exact ⟨a, ha, by rw [if_pos ha, hx]⟩
 ·rename_i h
  constructor
  ·intro h1; cases h1
  ·rintro ⟨h1, _⟩; exact absurd h1 h
theorem best_is {s : RA} {u : UbV} (h0 : 0 < u.t) (h1 : ∃ d, d < s.dn ∧ errD s (d : Nat) = 0 ∧ ∃ a, a < 8 ∧ slotU s (d : Nat) a = u)
 (h2 : ∀ d, d < s.dn → errD s (d : Nat) = 0 → ∀ a, a < 8 → (slotU s (d : Nat) a).t ≤ u.t ∧ ((slotU s (d : Nat) a).t = u.t → slotU s (d : Nat) a = u)) : bestR s s.dn = u := by
 rw [bestR_fold]
 refine fold_best u _ _ (fun x hx => ?_) ⟨by show (0 : Int) ≤ _; omega, fun h => by have : (0 : Int) = u.t := h; omega⟩ (.inl ?_)
 ·obtain ⟨d, hd, hx⟩ := List.mem_flatMap.1 hx
  obtain ⟨he, a, ha, rfl⟩ := mem_whole.1 hx
  exact h2 d (List.mem_range.1 hd) he a ha
 ·obtain ⟨d, hd, he, ha⟩ := h1
  exact List.mem_flatMap.2 ⟨d, List.mem_range.2 hd, mem_whole.2 ⟨he, ha⟩⟩
end Go.Proofs.YtjeldcjchipdgaaGreatDoor
namespace Go.Proofs.YtjeldcjchipdgaaGreatDoor
open Go.RowKit Go.HL
set_option maxRecDepth 100000
theorem e1_len {n : Int} (h : RIt ⟨1, n, ⟨#[]⟩⟩) : (enc1 ⟨1, n, ⟨#[]⟩⟩).length ≤ 11 := by
 have h1 : enc1 ⟨1, n, ⟨#[]⟩⟩ = B8 1 :: cnt (zigU n).toNat := rfl
 have h2 : (zigU n).toNat = zig n := zigU_zig h
 rw [h1, h2, List.length_cons]
 have hz : zig n < 18446744073709551616 := zig_lt h
 have hc : (cnt (zig n)).length ≤ 10 := cnt_len 9 (zig n) (by omega)
 omega
theorem e1_small {n : Int} (h : 0 ≤ n ∧ n ≤ 1024) : (enc1 ⟨1, n, ⟨#[]⟩⟩).length ≤ 3 := by
 have h1 : enc1 ⟨1, n, ⟨#[]⟩⟩ = B8 1 :: cnt (zigU n).toNat := rfl
 rw [h1, zigU_zig (by constructor <;> omega), List.length_cons]
 have h2 : zig n < 128 ^ 2 := by
  unfold zig
  split <;> omega
 have := cnt_len 1 (zig n) h2
 omega
theorem e2_len {s : ByteArray} (h : s.size < 128) : (enc1 ⟨2, 0, s⟩).length = 2 + s.size := by
 have h1 : enc1 ⟨2, 0, s⟩ = B8 2 :: (cnt s.size ++ s.data.toList) := rfl
 rw [h1, cnt_small h]
 simp
 omega
theorem ptrS_len {p : PtrV} (h : rightP p) (hw : WfP p) : (ptrS p).size ≤ 59 := by
 rw [ptrS, if_pos h]
 show (encAll (pit p)).toArray.size ≤ 59
 obtain ⟨h1, h2, h3, h4, h5⟩ := h
 rw [List.size_toArray, pit, encAll_cons, encAll_cons, encAll_cons, encAll_cons]
 simp only [List.length_append]
 have a1 := e1_len (n := p.a) hw.1
 have a2 := e1_small (n := p.z) (by omega)
 have a3 := e1_len (n := p.b) hw.2.2
 have a4 := e2_len (s := p.s) (by omega)
 have a5 : (encAll []).length = 0 := rfl
 omega
theorem encE_ok {u : UbV} (hr : rightP u.p) (h1 : 1 ≤ u.t) (hw : WfU u) : encE u = 0 := by
 have hs := ptrS_len hr hw.2
 have hg : ∀ i ∈ uit u, Good i := by
  intro i hi
  have hri := uit_rit hw i hi
  simp only [uit, List.mem_cons, List.not_mem_nil, or_false] at hi
  rcases hi with rfl | rfl | rfl
  ·exact ⟨by simp [longI], by simp [okI], hri⟩
  ·exact ⟨by simp [longI], by simp [okI], hri⟩
  ·exact ⟨by simp [longI]; omega, by simp [okI], hri⟩
 have hc : checkE (uit u) = 0 := icheck_good (by simp [uit]) hg
 have hl : (encAll (uit u)).length ≤ 75 := by
  rw [uit, encAll_cons, encAll_cons, encAll_cons]
  simp only [List.length_append]
  have a1 := e1_small (n := 77) (by omega)
  have a2 := e1_len (n := u.t) hw.1
  have a3 := e2_len (s := ptrS u.p) (by omega)
  have a5 : (encAll []).length = 0 := rfl
  omega
 rw [encE, if_pos ⟨hr, h1⟩, secE, if_pos hc, if_neg (by omega)]
def ptrL (n : Int) (k : Nat) : List UInt8 := (List.range 32).map fun i => if i < k then B8 (n + i) else 0
def ptrV (n : Int) : PtrV := ⟨n % 1000, 1 + n % 1024, n % 77, ⟨(ptrL n 32).toArray⟩⟩
theorem ptrL_len (n : Int) (k : Nat) : (ptrL n k).length = 32 := by simp [ptrL]
theorem ptrL_0 (n : Int) : ptrL n 0 = List.replicate 32 0 := by simp [ptrL]; decide
theorem ptrL_set (n : Int) {k : Nat} (hk : k < 32) : (ptrL n k).set k (B8 (n + k)) = ptrL n (k + 1) := by
 apply List.ext_getElem?
 intro i
 simp only [ptrL, List.getElem?_set, List.length_map, List.length_range, List.getElem?_map]
 by_cases h : k = i
 ·subst h
  simp [hk]
 ·by_cases hi : i < 32
  ·simp only [h, if_false, List.getElem?_range hi, Option.map_some]
   have : (i < k) ↔ (i < k + 1) := by omega
   simp only [this]
  ·simp [h, hi]
theorem ptrV_right (n : Int) : rightP (ptrV n) := by
 refine ⟨by show 0 ≤ n % 1000; omega, by show 0 ≤ n % 77; omega, by show 1 ≤ 1 + n % 1024; omega, by show 1 + n % 1024 ≤ 1024; omega, ?_⟩
 show (ptrL n 32).toArray.size = 32
 rw [List.size_toArray, ptrL_len]
theorem ptrV_wf (n : Int) : WfP (ptrV n) := by
 refine ⟨?_, ?_, ?_⟩
 ·show _ ≤ n % 1000 ∧ n % 1000 ≤ _; omega
 ·show _ ≤ 1 + n % 1024 ∧ 1 + n % 1024 ≤ _; omega
 ·show _ ≤ n % 77 ∧ n % 77 ≤ _; omega
theorem lptr_calls (n : Int) (hn : 0 ≤ n ∧ n ≤ 1000000) (w : World) : Calls Tryz.prog 9 [vi n].toArray w (Ret fun v w' => v = .agg (ept.f (ptrV n)).toArray ∧ Chg Nob w w') := by
 have hw := Chg.refl Nob w
 refine Calls.of_WC Tryz.func9 rfl Tryz.ntmps9 (by simp) ?_
 refine WC.sr (WL.alloc Tryz.zeroValue38 rfl ?_)
 intro g_1 w_1 hge_1 hlt_1 hb_1 k_1
 have zs_k_1 := k_1.size
 replace hw := hw.pure k_1
 refine WL.t (WC.sr (?_))
 refine WL.za (e := eb) (0 : UInt8) 32 32 Tryz.underlying51 info_5 rfl rfl rfl ⟨rfl, rfl, Nat.le_refl _⟩ (by constructor <;> omega) rfl ?_
 intro g0 w0 hO k0 z0 eg0
 rw [← ptrL_0 n] at hO ⊢
 rw [ptrL_len]
 replace hw := hw.pure k0
 replace hb_1 := hb_1.pure k0
 refine WL.assign rfl rfl (WL.t (WC.seq (WC.sr (WL.assign rfl rfl (WL.nil (WX.qa (WC.block (?_))))))))
 have hb1 := Blk.eqc (cs' := ept.f ⟨0, 0, 0, ⟨#[]⟩⟩) hb_1 rfl
 refine WC.loop (σ := Nat) (fun k => [(0, vi n), (2, ptr g_1), (3, .slice (some ⟨g0, 0, none⟩) 32 32), (4, vi (k : Int))])
  (fun k w' => k ≤ 32 ∧ Blk w' g_1 38 (ept.f ⟨0, 0, 0, ⟨#[]⟩⟩) ∧ Row (fun x => x = g0) w' 5 eb (some ⟨g0, 0, none⟩) 32 (ptrL n k) ∧ Chg Nob w w') (fun k => 32 - k) 0 ⟨rfl, rfl, rfl, rfl, trivial⟩
  ⟨Nat.zero_le _, hb1, ⟨fun a ea => by injection ea with ea; subst ea; rfl, hO.own⟩, hw⟩ ?_
 clear hb1 hb_1 hO hw
 rintro k w1 ⟨hk, hb1, hO, hw⟩
 have hbl := ptrL_len n k
 have hO' := hO.rsl
 refine WC.seq (WC.sr (WL.move rfl rfl (WL.move rfl rfl (WL.len Tryz.underlying51 rfl rfl (WL.qi rfl rfl rfl (fun h9 => ?_) (fun h9 => ?_))))))
 ·refine WL.t (WC.qb rfl (WC.skip (WX.qa (WC.seq (WC.block (WC.region (WL.move rfl rfl (WL.move rfl rfl (WL.move rfl rfl (WL.move rfl rfl (WL.qe rfl rfl (by omega) rfl (WL.c_i64_u8 Tryz.underlying3 Tryz.underlying5 rfl rfl (?_)))))))))))))
  refine WL.index (j := k) Tryz.underlying51 Tryz.sizeOf5 rfl rfl rfl (by omega) rfl ?_
  refine WL.qt (z := B8 (n + k)) (k) Tryz.sizeOf5 hO rfl rfl rfl (by simp; done) (by omega) rfl ?_
  intro w_2 zs_2 nr_2 k_2
  replace hb1 := hb1.chg k_2 (by intro h1; have h2 : _ = _ := h1; exfalso; omega)
  replace hw := hw.chg k_2 (by intro x h1 h2; have h3 : _ = _ := h2; exfalso; omega)
  replace hO := nr_2
  refine WL.nil (WX.qd (WX.qa (WC.region (WL.move rfl rfl (WL.qe rfl rfl (by omega) rfl (WL.assign rfl rfl (WL.nil (?_))))))))
  have hO2 := hO
  rw [ptrL_set n (by omega)] at hO2
  exact WX.qc (k + 1) ⟨rfl, rfl, rfl, rfl, trivial⟩ ⟨by omega, hb1, hO2, hw⟩ (by show _ - _ < _ - _; omega)
 ·refine WL.t (WC.qa rfl (WC.exit (WX.qe (WX.qe (WX.qh (WX.qa (?_)))))))
  refine WC.sr (WL.move rfl rfl (WL.qw rfl rfl (by constructor <;> omega) rfl (WL.move rfl rfl (WL.qw rfl rfl (by constructor <;> omega) rfl (WL.qe rfl rfl (by omega) rfl (WL.move rfl rfl (?_)))))))
  refine WL.qw rfl rfl (by constructor <;> omega) rfl (WL.move rfl rfl (?_))
  have hk32 : k = 32 := by omega
  refine WL.qp Tryz.underlying51 Tryz.underlying5 Tryz.underlying9 hO.rsl (by rw [hbl]; rfl) rfl ?_
  refine WL.bld rfl (bld_38_0_1_2_3 _ _ _ _) rfl (?_)
  refine WL.qf Tryz.sizeOf38 hb1 rfl rfl (by simp; done) (by simp [Value.oneCell']; done) (by exact Nat.le_of_ble_eq_true rfl) rfl ?_
  intro w_2 hs_2 hn_2 k_2
  replace hO := hO.chg k_2 (by intro b h1 h2 h3; have h4 : _ = _ := h3; (try dsimp only at h2); exfalso; omega)
  replace hw := hw.chg k_2 (by intro x h1 h2; have h3 : _ = _ := h2; exfalso; omega)
  replace hb1 := hn_2
  refine WL.t (WC.ret (WX.ret1c (.inl rfl) Tryz.results9 Tryz.isAgg38 Tryz.sizeOf38 hb1 rfl (by rfl) ?_))
  subst hk32
  exact ⟨_, rfl, rfl, hw⟩
end Go.Proofs.YtjeldcjchipdgaaGreatDoor
namespace Go.HL
open Go.RowKit
theorem partN {P : Program} {w : World} {t : TypeId} {cs ds : List Value} {o k : Nat} (hs : ∀ w, (sizeOf t).run P w = .ok k w) (hg : ∀ w, (isAgg t).run P w = .ok true w) (hv : (cs.drop o).take k = ds) : (part t cs.toArray o).run P w = .ok (.agg ds.toArray) w := by
 simp [part, hs, hg, hv]
end Go.HL
namespace Go.Proofs.YtjeldcjchipdgaaGreatDoor
open Go.RowKit Go.HL
set_option maxRecDepth 100000
theorem eqg_ub : Tryz.prog.eqGuardType Tryz.prog.depth 41 = false := by kernel_rfl
theorem eq_ptr9 (a b : PtrV) (w : World) : (Op.equalIn 9999 38 (.agg (ept.f a).toArray) (.agg (ept.f b).toArray)).run Tryz.prog w = .ok (decide (a = b)) w := by
 refine eqA_of (d := 9998) Tryz.underlying38 (by kernel_rfl) ?_
 have h3 : (decide (a.a = b.a) && (decide (a.z = b.z) && (decide (a.b = b.b) && (decide (a.s = b.s) && true)))) = decide (a = b) := by
  have : decide (a = b) = decide (a.a = b.a ∧ a.z = b.z ∧ a.b = b.b ∧ a.s = b.s) := decide_eq_decide.2 (PtrV.eq_iff a b).symm
  rw [this]
  simp [Bool.decide_and]
 rw [← h3]
 refine eqf_cons rfl (part1 Tryz.sizeOf3 Tryz.isAgg3 rfl) (part1 Tryz.sizeOf3 Tryz.isAgg3 rfl) (run_equalIn_int w 9997 _ _ _ _ _ Tryz.underlying3) (eqf_cons rfl (part1 Tryz.sizeOf3 Tryz.isAgg3 rfl) (part1 Tryz.sizeOf3 Tryz.isAgg3 rfl) (run_equalIn_int w 9997 _ _ _ _ _ Tryz.underlying3) ?_)
 refine eqf_cons rfl (part1 Tryz.sizeOf3 Tryz.isAgg3 rfl) (part1 Tryz.sizeOf3 Tryz.isAgg3 rfl) (run_equalIn_int w 9997 _ _ _ _ _ Tryz.underlying3) ?_
 refine eqf_cons rfl (part1 Tryz.sizeOf9 Tryz.isAgg9 rfl) (part1 Tryz.sizeOf9 Tryz.isAgg9 rfl) (by rw [← beq_bytes]; exact run_equalIn_string w 9997 _ _ _ Tryz.underlying9) eqf_nil
theorem eq_ub (a b : UbV) (w : World) : (Op.equalIn 10000 41 (.agg (eub.f a).toArray) (.agg (eub.f b).toArray)).run Tryz.prog w = .ok (decide (a = b)) w := by
 refine eqA_of (d := 9999) Tryz.underlying41 (by kernel_rfl) ?_
 have h3 : (decide (a.t = b.t) && (decide (a.p = b.p) && true)) = decide (a = b) := by
  have : decide (a = b) = decide (a.t = b.t ∧ a.p = b.p) := decide_eq_decide.2 (UbV.eq_iff a b).symm
  rw [this]
  simp [Bool.decide_and]
 rw [← h3]
 refine eqf_cons rfl (part1 Tryz.sizeOf3 Tryz.isAgg3 rfl) (part1 Tryz.sizeOf3 Tryz.isAgg3 rfl) (run_equalIn_int w 9998 _ _ _ _ _ Tryz.underlying3) (eqf_cons rfl (partN (ds := ept.f a.p) Tryz.sizeOf38 Tryz.isAgg38 rfl) (partN (ds := ept.f b.p) Tryz.sizeOf38 Tryz.isAgg38 rfl) (eq_ptr9 a.p b.p w) eqf_nil)
def ubV (t n : Int) : UbV := ⟨t, ptrV n⟩
theorem ubV_wf {t n : Int} (h : 1 ≤ t ∧ t ≤ 1000000) : WfU (ubV t n) := ⟨by show _ ≤ t ∧ t ≤ _; omega, ptrV_wf n⟩
theorem ubV_enc {t n : Int} (h : 1 ≤ t ∧ t ≤ 1000000) : encE (ubV t n) = 0 := encE_ok (ptrV_right n) h.1 (ubV_wf h)
theorem errD_up {s : RA} (h : Up s) (d : Int) (hg : goneS s d = false) : errD s d = 0 := by
 rw [errD, if_neg (by rw [hg]; decide), if_neg (by rw [h.off]; decide)]
theorem downS_up {s : RA} (h : Up s) : downS s = false := down_no (fun d _ => by
 unfold errD
 split
 ·decide
 ·rw [if_neg (by rw [h.off]; decide)]; decide)
theorem cntD_all {s : RA} (h : ∀ d, goneS s d = false) (k : Nat) : cntD s k = k := by
 induction k with
 |zero => rfl
 |succ k ih => rw [cntD, if_neg (by rw [h]; decide), ih]
theorem lwS_facts {s : RA} (h : Up s) (hs : 8 < s.sn) {u : UbV} (hE : encE u = 0) : Up (lwS s u) ∧ (lwS s u).dn = s.dn ∧ (lwS s u).sn = s.sn ∧ (∀ d, goneS (lwS s u) d = goneS s d) ∧ (lwS s u).last = s.last ∧ (lwS s u).waits.length ≤ s.waits.length + s.dn := by
 obtain ⟨e1, -, -⟩ := lw_up h hs hE
 have hd := lwR_dn s (u.t % 8) (encB u) s.dn
 have h4 : (lwS s u).waits.length ≤ s.waits.length + s.dn := by
  rw [lwS, if_pos ⟨hs, hE⟩]
  exact hd.2.2.2.1
 obtain ⟨a1, a2, a3, a4, a5, a6⟩ := addAll_dn s (u.t % 8) (encB u) s.dn
 refine ⟨?_, ?_, ?_, fun d => ?_, ?_, h4⟩
 ·rw [e1]; exact addAll_up h _ _ _
 ·rw [e1]; exact a1
 ·rw [e1]; exact a2
 ·rw [e1]; exact addAll_gone _ _ _ _ _
 ·rw [e1]; exact a6
theorem lwS_held {s : RA} (h : Up s) (hs : 8 < s.sn) {u : UbV} (hE : encE u = 0) (d : Nat) (hd : d < s.dn) (a : Nat) : heldS (lwS s u) (d, a) = if (a : Int) = u.t % 8 ∧ goneS s d = false then encB u else heldS s (d, a) := by
 obtain ⟨e1, -, -⟩ := lw_up h hs hE
 rw [e1, addAll_held]
 have : (∃ d', d' < s.dn ∧ (((d : Int), (a : Int)) : Pl) = (((d' : Nat) : Int), u.t % 8) ∧ goneS s (d' : Nat) = false) ↔ ((a : Int) = u.t % 8 ∧ goneS s d = false) := by
  constructor
  ·rintro ⟨d', h1, h2, h3⟩
   injection h2 with h4 h5
   have : d = d' := by omega
   subst this
   exact ⟨h5, h3⟩
  ·rintro ⟨h1, h2⟩
   exact ⟨d, hd, by rw [h1], h2⟩
 simp only [this]
theorem lwS_slot {s : RA} (h : Up s) (hs : 8 < s.sn) {u : UbV} (hE : encE u = 0) (hw : WfU u) (d : Nat) (hd : d < s.dn) (a : Nat) : slotU (lwS s u) d a = if (a : Int) = u.t % 8 ∧ goneS s d = false then u else slotU s d a := by
 have hh := lwS_held h hs hE d hd a
 by_cases hc : (a : Int) = u.t % 8 ∧ goneS s d = false
 ·rw [if_pos hc] at hh ⊢
  exact slot_enc hh hE hw hc.1.symm
 ·rw [if_neg hc] at hh ⊢
  rw [slotU, slotU, hh]
theorem fresh_slot {s : RA} (h : ∀ q, heldS s q = zeros) (d : Int) (a : Nat) : slotU s d a = ⟨-1, zeroP⟩ := slot_zeros (h _)
theorem newest_is {s : RA} (h : Up s) (hs : 8 < s.sn) {u : UbV} (h0 : 0 < u.t) (h1 : ∃ d, d < s.dn ∧ goneS s (d : Nat) = false ∧ ∃ a, a < 8 ∧ slotU s (d : Nat) a = u)
 (h2 : ∀ d, d < s.dn → goneS s (d : Nat) = false → ∀ a, a < 8 → (slotU s (d : Nat) a).t ≤ u.t ∧ ((slotU s (d : Nat) a).t = u.t → slotU s (d : Nat) a = u)) : nwU s = u ∧ nwE s = 0 := by
 have hb : bestR s s.dn = u := by
  refine best_is h0 ?_ (fun d hd he a ha => h2 d hd ?_ a ha)
  ·obtain ⟨d, hd, hg, ha⟩ := h1
   exact ⟨d, hd, errD_up h d hg, ha⟩
  ·unfold errD at he
   cases hg : goneS s (d : Nat) with
   |false => rfl
   |true => rw [if_pos hg] at he; cases he
 obtain ⟨e1, e2⟩ := nw_some hs (downS_up h) (by rw [hb]; omega)
 exact ⟨e2.trans hb, e1⟩
theorem newest_fresh {s : RA} (h : Up s) (hs : 8 < s.sn) (hd : 0 < s.dn) (hg : ∀ d, goneS s d = false) (hz : ∀ q, heldS s q = zeros) {u : UbV} (hE : encE u = 0) (hw : WfU u) : nwU (lwS s u) = u ∧ nwE (lwS s u) = 0 := by
 obtain ⟨f1, f2, f3, f4, f5, f6⟩ := lwS_facts h hs hE
 obtain ⟨t1, t2, t3, t4⟩ := encE_t hE
 refine newest_is f1 (by rw [f3]; exact hs) (by omega) ⟨0, by rw [f2]; exact hd, by rw [f4]; exact hg _, (u.t % 8).toNat, by omega, ?_⟩ (fun d hdd _ a ha => ?_)
 ·rw [lwS_slot h hs hE hw 0 hd, if_pos ⟨by omega, hg _⟩]
 ·rw [lwS_slot h hs hE hw d (by rw [← f2]; exact hdd)]
  split
  ·exact ⟨Int.le_refl _, fun _ => rfl⟩
  ·rw [fresh_slot hz]
   exact ⟨by show (-1 : Int) ≤ _; omega, fun h9 => by have : (-1 : Int) = u.t := h9; omega⟩
set_option maxHeartbeats 1000000 in
theorem known8_calls (w : World) : Calls Tryz.prog 5 [].toArray w (Ret fun v w' => v = .bool true ∧ Chg Nob w w') := by
 have hw := Chg.refl Nob w
 obtain ⟨s0, sd, sn, u0, sg, sh, sl, sw, hNew⟩ := new_all 5 9 (by decide) (by decide)
 have sw0 : s0.waits.length = 0 := by rw [sw]; rfl
 have hE : encE (ubV 5 9) = 0 := ubV_enc (by omega)
 have hwf : WfU (ubV 5 9) := ubV_wf (by omega)
 obtain ⟨e1, e2, e3⟩ := lw_up u0 (by omega) hE
 have hc : cntD s0 s0.dn = 5 := by rw [cntD_all sg, sd]
 rw [hc] at e2 e3
 rw [if_neg (by decide)] at e3
 refine Calls.of_WC Tryz.func5 rfl Tryz.ntmps5 (by simp) ?_
 refine WC.sr (WL.assign rfl rfl (WL.t (WC.sr (WL.call eg_6 rfl rfl (hNew _) ?_))))
 rintro v w1 ⟨⟨R, rfl, hR⟩, k1⟩
 have zs_k1 := k1.size
 replace hw := hw.pure k1
 refine WL.move rfl rfl (WL.extract rfl rfl rfl (WL.extract rfl rfl rfl (WL.assign rfl rfl (WL.assign rfl rfl (WL.t (WC.seq (WC.region (WL.move rfl rfl (WL.call eg_9 rfl rfl (lptr_calls 9 (by omega) _) ?_)))))))))
 rintro v w2 ⟨rfl, k2⟩
 have zs_k2 := k2.size
 replace hw := hw.pure k2
 replace hR := hR.pure k2
 refine WL.bld rfl (bld_41_0_1 _ _ _ _ _) rfl (WL.call eg_8 rfl rfl (lWrite_calls hR (ubV 5 9) hwf (by omega)) ?_)
 rintro v w3 ⟨rfl, hR3, k3⟩
 rw [e2, e3]
 have zs_k3 := k3.size
 replace hw := hw.chg k3 (by intros; exfalso; (try dsimp only at *); omega)
 refine WL.move rfl rfl (WL.extract rfl rfl rfl (WL.extract rfl rfl rfl (WL.assign rfl rfl (WL.assign rfl rfl (WL.t (WC.seq (WC.region (WL.move rfl rfl (WL.call eg_26 rfl rfl (lNewest_calls hR3) ?_)))))))))
 rintro v w4 ⟨rfl, k4⟩
 obtain ⟨n1, n2⟩ := newest_fresh u0 (by omega) (by omega) sg sh hE hwf
 rw [n1, n2]
 have zs_k4 := k4.size
 replace hw := hw.pure k4
 refine WL.move rfl rfl (WL.extract rfl rfl rfl (WL.extract rfl rfl rfl (WL.alloc Tryz.zeroValue41 rfl ?_)))
 intro g_1 w_1 hge_1 hlt_1 hb_1 k_1
 replace hw := hw.pure k_1
 refine WL.qf Tryz.sizeOf41 hb_1 rfl rfl (by rfl) (by exact Enc.one _ _) (by exact Nat.le_of_ble_eq_true rfl) rfl ?_
 intro w_2 hs_2 hn_2 k_2
 replace hw := hw.chg k_2 (by intro x h1 h2; have h3 : _ = _ := h2; exfalso; omega)
 replace hb_1 := hn_2
 refine WL.assign rfl rfl (WL.t (WC.seq (WC.qc (Nob) [0, 1, 2, 3, 4, 5, 6, 7, 8, 9, 10, 11, 12, 13, 14, 15] [16, 17, 18, 19, 20] mixed rfl rfl (fun wd_3 kd_3 zd_3 => ?_))))
 replace hw := hw.pure kd_3
 replace hb_1 := hb_1.pure kd_3
 apply DQ.step [(2, _)] rfl ⟨rfl, trivial⟩ rfl (fun _ _ => WL.move rfl rfl  WL.q)
 apply DQ.split (E' := [(23, _)])
 case ho => rfl
 case hs => exact ⟨rfl, trivial⟩
 case hk => rfl
 case h1 =>
  intro wq_6 kq_6
  refine WL.eql rfl rfl rfl (WL.q)
 case ht =>
  intro h24
  apply DQ.step [(24, _)] rfl ⟨rfl, trivial⟩ rfl (fun _ _ => WL.move rfl rfl  WL.q)
  apply DQ.step [(4, _), (25, _)] rfl ⟨rfl, rfl, trivial⟩ rfl (fun _ _ => WL.qa rfl rfl rfl (WL.move rfl rfl  WL.q))
  apply DQ.split (E' := [(26, _), (25, _)])
  case ho => rfl
  case hs => exact ⟨rfl, rfl, trivial⟩
  case hk => rfl
  case h1 =>
   intro wq_9 kq_9
   refine WL.qa rfl rfl rfl (WL.eql rfl rfl rfl ?_)
   exact WL.q
  case ht =>
   intro h27
   apply DQ.step [(25, _), (27, _)] rfl ⟨rfl, rfl, trivial⟩ rfl (fun _ _ => WL.qc rfl rfl rfl  WL.q)
   apply DQ.step [(28, _)] rfl ⟨rfl, trivial⟩ rfl (fun _ _ => WL.move rfl rfl  WL.q)
   apply DQ.step [(3, _), (29, _)] rfl ⟨rfl, rfl, trivial⟩ rfl (fun _ _ => WL.qa rfl rfl rfl (WL.move rfl rfl  WL.q))
   apply DQ.split (E' := [(30, _), (29, _)])
   case ho => rfl
   case hs => exact ⟨rfl, rfl, trivial⟩
   case hk => rfl
   case h1 =>
    intro wq_13 kq_13
    refine WL.qa rfl rfl rfl (WL.eql rfl rfl rfl ?_)
    exact WL.q
   case ht =>
    intro h31
    apply DQ.step [(29, _), (31, _)] rfl ⟨rfl, rfl, trivial⟩ rfl (fun _ _ => WL.qc rfl rfl rfl  WL.q)
    apply DQ.step [(32, _)] rfl ⟨rfl, trivial⟩ rfl (fun _ _ => WL.move rfl rfl  WL.q)
    apply DQ.step [(6, _), (33, _)] rfl ⟨rfl, rfl, trivial⟩ rfl (fun _ _ => WL.qa rfl rfl rfl (WL.move rfl rfl  WL.q))
    apply DQ.split (E' := [(34, _), (33, _)])
    case ho => rfl
    case hs => exact ⟨rfl, rfl, trivial⟩
    case hk => rfl
    case h1 =>
     intro wq_17 kq_17
     refine WL.qa rfl rfl rfl (WL.eql rfl rfl rfl ?_)
     exact WL.q
    case ht =>
     intro h35
     apply DQ.step [(33, _), (35, _)] rfl ⟨rfl, rfl, trivial⟩ rfl (fun _ _ => WL.qc rfl rfl rfl  WL.q)
     apply DQ.step [(36, _)] rfl ⟨rfl, trivial⟩ rfl (fun _ _ => WL.move rfl rfl  WL.q)
     apply DQ.step [(5, _), (37, _)] rfl ⟨rfl, rfl, trivial⟩ rfl
     ·intro wq_20 kq_20
      replace hb_1 := hb_1.pure kq_20
      refine WL.qa rfl rfl rfl (?_)
      have hb5 := Blk.eqc (cs' := eub.f (ubV 5 9)) hb_1 rfl
      refine WL.qo (eub.f (ubV 5 9)) Tryz.isAgg41 Tryz.sizeOf41 rfl (fun j v hj => by rw [Nat.zero_add]; exact hb5.cell hj) rfl rfl ?_
      exact WL.q
     refine DQ.done (fun hd_4 => ?_)
     refine DL.step [(37, _)] rfl ⟨rfl, trivial⟩ rfl (fun wq_21 kq_21 => ?_)
     replace hw := hw.pure kq_21
     replace hd_4 := hd_4.pure kq_21
     refine WL.qa rfl rfl rfl (WL.call eg_9 rfl rfl (lptr_calls 9 (by omega) _) ?_)
     rintro v w5 ⟨rfl, k5⟩
     replace hw := hw.pure k5
     replace hd_4 := hd_4.pure k5
     refine WL.nil (WX.one ⟨hd_4, ?_⟩)
     refine DL.step [(39, _), (37, _)] rfl ⟨rfl, rfl, trivial⟩ rfl (fun wq_22 kq_22 => ?_)
     replace hw := hw.pure kq_22
     replace hd_4 := hd_4.pure kq_22
     refine WL.qa rfl rfl rfl (WL.bld rfl (bld_41_0_1 _ _ _ _ _) rfl (WL.nil ?_))
     refine WX.one ⟨hd_4, ?_⟩
     refine DL.step [(38, _), (40, _), (37, _)] rfl ⟨rfl, rfl, rfl, trivial⟩ rfl (fun wq_23 kq_23 => ?_)
     replace hw := hw.pure kq_23
     replace hd_4 := hd_4.pure kq_23
     refine WL.qa rfl rfl rfl (WL.aeql eqg_ub (eq_ub (ubV 5 9) (ubV 5 9)) rfl rfl rfl (WL.nil ?_))
     refine WX.one ⟨hd_4, ?_⟩
     refine DL.step [(37, _), (41, _)] rfl ⟨rfl, rfl, trivial⟩ rfl (fun wq_24 kq_24 => ?_)
     replace hw := hw.pure kq_24
     replace hd_4 := hd_4.pure kq_24
     refine WL.qc rfl rfl rfl (WL.nil ?_)
     refine WX.one ⟨hd_4, ?_⟩
     refine DL.step [(42, _)] rfl ⟨rfl, trivial⟩ rfl (fun wq_25 kq_25 => ?_)
     replace hw := hw.pure kq_25
     replace hd_4 := hd_4.pure kq_25
     refine WL.assign rfl rfl (WL.nil ?_)
     refine WX.one ⟨hd_4, ?_⟩
     refine DL.done (fun we_26 ke_26 => ?_)
     replace hw := hw.pure ke_26
     refine WX.qa (WC.ret (WX.qg (.inl rfl) Tryz.results5 rfl ?_))
     first
      |exact ⟨_, rfl, rfl, hw⟩
      |(refine ⟨_, rfl, ?_, hw⟩
        exact congrArg Value.bool (decide_eq_true rfl))
      |(exfalso; omega)
    case hf =>
     intro h35
     replace h35 := of_decide_eq_false h35
     apply DQ.step [(33, _), (35, _)] rfl ⟨rfl, rfl, trivial⟩ rfl (fun _ _ => WL.qc rfl rfl rfl  WL.q)
     apply DQ.step [(36, _)] rfl ⟨rfl, trivial⟩ rfl (fun _ _ => WL.move rfl rfl  WL.q)
     apply DQ.step [(5, _), (37, _)] rfl ⟨rfl, rfl, trivial⟩ rfl
     ·intro wq_20 kq_20
      refine WL.pass rfl rfl rfl rfl (WL.nil (WX.one ⟨rfl, by exact Chg.refl _ _⟩))
     refine DQ.done (fun hd_4 => ?_)
     refine DL.step [(37, _)] rfl ⟨rfl, trivial⟩ rfl (fun wq_21 kq_21 => ?_)
     replace hw := hw.pure kq_21
     replace hd_4 := hd_4.pure kq_21
     refine WL.pass rfl rfl rfl rfl (WL.nil (WX.one ⟨hd_4, ?_⟩))
     refine DL.step [(39, _), (37, _)] rfl ⟨rfl, rfl, trivial⟩ rfl (fun wq_22 kq_22 => ?_)
     replace hw := hw.pure kq_22
     replace hd_4 := hd_4.pure kq_22
     refine WL.pass rfl rfl rfl rfl (WL.nil (WX.one ⟨hd_4, ?_⟩))
     refine DL.step [(38, _), (40, _), (37, _)] rfl ⟨rfl, rfl, rfl, trivial⟩ rfl (fun wq_23 kq_23 => ?_)
     replace hw := hw.pure kq_23
     replace hd_4 := hd_4.pure kq_23
     refine WL.pass rfl rfl rfl rfl (WL.nil (WX.one ⟨hd_4, ?_⟩))
     refine DL.step [(37, _), (41, _)] rfl ⟨rfl, rfl, trivial⟩ rfl (fun wq_24 kq_24 => ?_)
     replace hw := hw.pure kq_24
     replace hd_4 := hd_4.pure kq_24
     refine WL.qb rfl rfl rfl (WL.nil ?_)
     refine WX.one ⟨hd_4, ?_⟩
     refine DL.step [(42, _)] rfl ⟨rfl, trivial⟩ rfl (fun wq_25 kq_25 => ?_)
     replace hw := hw.pure kq_25
     replace hd_4 := hd_4.pure kq_25
     refine WL.assign rfl rfl (WL.nil ?_)
     refine WX.one ⟨hd_4, ?_⟩
     refine DL.done (fun we_26 ke_26 => ?_)
     replace hw := hw.pure ke_26
     refine WX.qa (WC.ret (WX.qg (.inl rfl) Tryz.results5 rfl ?_))
     first
      |exact ⟨_, rfl, rfl, hw⟩
      |(refine ⟨_, rfl, ?_, hw⟩
        exact congrArg Value.bool (decide_eq_true rfl))
      |(exfalso; omega)
   case hf =>
    intro h31
    replace h31 := of_decide_eq_false h31
    apply DQ.step [(29, _), (31, _)] rfl ⟨rfl, rfl, trivial⟩ rfl (fun _ _ => WL.qc rfl rfl rfl  WL.q)
    apply DQ.step [(32, _)] rfl ⟨rfl, trivial⟩ rfl (fun _ _ => WL.move rfl rfl  WL.q)
    apply DQ.step [(6, _), (33, _)] rfl ⟨rfl, rfl, trivial⟩ rfl
    ·intro wq_16 kq_16
     refine WL.pass rfl rfl rfl rfl (WL.nil (WX.one ⟨rfl, by exact Chg.refl _ _⟩))
    apply DQ.step [(34, _), (33, _)] rfl ⟨rfl, rfl, trivial⟩ rfl
    ·intro wq_17 kq_17
     refine WL.pass rfl rfl rfl rfl (WL.nil (WX.one ⟨rfl, by exact Chg.refl _ _⟩))
    apply DQ.step [(33, _), (35, _)] rfl ⟨rfl, rfl, trivial⟩ rfl (fun _ _ => WL.qb rfl rfl rfl  WL.q)
    apply DQ.step [(36, _)] rfl ⟨rfl, trivial⟩ rfl (fun _ _ => WL.move rfl rfl  WL.q)
    apply DQ.step [(5, _), (37, _)] rfl ⟨rfl, rfl, trivial⟩ rfl
    ·intro wq_20 kq_20
     refine WL.pass rfl rfl rfl rfl (WL.nil (WX.one ⟨rfl, by exact Chg.refl _ _⟩))
    refine DQ.done (fun hd_4 => ?_)
    refine DL.step [(37, _)] rfl ⟨rfl, trivial⟩ rfl (fun wq_21 kq_21 => ?_)
    replace hw := hw.pure kq_21
    replace hd_4 := hd_4.pure kq_21
    refine WL.pass rfl rfl rfl rfl (WL.nil (WX.one ⟨hd_4, ?_⟩))
    refine DL.step [(39, _), (37, _)] rfl ⟨rfl, rfl, trivial⟩ rfl (fun wq_22 kq_22 => ?_)
    replace hw := hw.pure kq_22
    replace hd_4 := hd_4.pure kq_22
    refine WL.pass rfl rfl rfl rfl (WL.nil (WX.one ⟨hd_4, ?_⟩))
    refine DL.step [(38, _), (40, _), (37, _)] rfl ⟨rfl, rfl, rfl, trivial⟩ rfl (fun wq_23 kq_23 => ?_)
    replace hw := hw.pure kq_23
    replace hd_4 := hd_4.pure kq_23
    refine WL.pass rfl rfl rfl rfl (WL.nil (WX.one ⟨hd_4, ?_⟩))
    refine DL.step [(37, _), (41, _)] rfl ⟨rfl, rfl, trivial⟩ rfl (fun wq_24 kq_24 => ?_)
    replace hw := hw.pure kq_24
    replace hd_4 := hd_4.pure kq_24
    refine WL.qb rfl rfl rfl (WL.nil ?_)
    refine WX.one ⟨hd_4, ?_⟩
    refine DL.step [(42, _)] rfl ⟨rfl, trivial⟩ rfl (fun wq_25 kq_25 => ?_)
    replace hw := hw.pure kq_25
    replace hd_4 := hd_4.pure kq_25
    refine WL.assign rfl rfl (WL.nil ?_)
    refine WX.one ⟨hd_4, ?_⟩
    refine DL.done (fun we_26 ke_26 => ?_)
    replace hw := hw.pure ke_26
    refine WX.qa (WC.ret (WX.qg (.inl rfl) Tryz.results5 rfl ?_))
    first
     |exact ⟨_, rfl, rfl, hw⟩
     |(refine ⟨_, rfl, ?_, hw⟩
       exact congrArg Value.bool (decide_eq_true rfl))
     |(exfalso; omega)
  case hf =>
   intro h27
   replace h27 := of_decide_eq_false h27
   apply DQ.step [(25, _), (27, _)] rfl ⟨rfl, rfl, trivial⟩ rfl (fun _ _ => WL.qc rfl rfl rfl  WL.q)
   apply DQ.step [(28, _)] rfl ⟨rfl, trivial⟩ rfl (fun _ _ => WL.move rfl rfl  WL.q)
   apply DQ.step [(3, _), (29, _)] rfl ⟨rfl, rfl, trivial⟩ rfl
   ·intro wq_12 kq_12
    refine WL.pass rfl rfl rfl rfl (WL.nil (WX.one ⟨rfl, by exact Chg.refl _ _⟩))
   apply DQ.step [(30, _), (29, _)] rfl ⟨rfl, rfl, trivial⟩ rfl
   ·intro wq_13 kq_13
    refine WL.pass rfl rfl rfl rfl (WL.nil (WX.one ⟨rfl, by exact Chg.refl _ _⟩))
   apply DQ.step [(29, _), (31, _)] rfl ⟨rfl, rfl, trivial⟩ rfl (fun _ _ => WL.qb rfl rfl rfl  WL.q)
   apply DQ.step [(32, _)] rfl ⟨rfl, trivial⟩ rfl (fun _ _ => WL.move rfl rfl  WL.q)
   apply DQ.step [(6, _), (33, _)] rfl ⟨rfl, rfl, trivial⟩ rfl
   ·intro wq_16 kq_16
    refine WL.pass rfl rfl rfl rfl (WL.nil (WX.one ⟨rfl, by exact Chg.refl _ _⟩))
   apply DQ.step [(34, _), (33, _)] rfl ⟨rfl, rfl, trivial⟩ rfl
   ·intro wq_17 kq_17
    refine WL.pass rfl rfl rfl rfl (WL.nil (WX.one ⟨rfl, by exact Chg.refl _ _⟩))
   apply DQ.step [(33, _), (35, _)] rfl ⟨rfl, rfl, trivial⟩ rfl (fun _ _ => WL.qb rfl rfl rfl  WL.q)
   apply DQ.step [(36, _)] rfl ⟨rfl, trivial⟩ rfl (fun _ _ => WL.move rfl rfl  WL.q)
   apply DQ.step [(5, _), (37, _)] rfl ⟨rfl, rfl, trivial⟩ rfl
   ·intro wq_20 kq_20
    refine WL.pass rfl rfl rfl rfl (WL.nil (WX.one ⟨rfl, by exact Chg.refl _ _⟩))
   refine DQ.done (fun hd_4 => ?_)
   refine DL.step [(37, _)] rfl ⟨rfl, trivial⟩ rfl (fun wq_21 kq_21 => ?_)
   replace hw := hw.pure kq_21
   replace hd_4 := hd_4.pure kq_21
   refine WL.pass rfl rfl rfl rfl (WL.nil (WX.one ⟨hd_4, ?_⟩))
   refine DL.step [(39, _), (37, _)] rfl ⟨rfl, rfl, trivial⟩ rfl (fun wq_22 kq_22 => ?_)
   replace hw := hw.pure kq_22
   replace hd_4 := hd_4.pure kq_22
   refine WL.pass rfl rfl rfl rfl (WL.nil (WX.one ⟨hd_4, ?_⟩))
   refine DL.step [(38, _), (40, _), (37, _)] rfl ⟨rfl, rfl, rfl, trivial⟩ rfl (fun wq_23 kq_23 => ?_)
   replace hw := hw.pure kq_23
   replace hd_4 := hd_4.pure kq_23
   refine WL.pass rfl rfl rfl rfl (WL.nil (WX.one ⟨hd_4, ?_⟩))
   refine DL.step [(37, _), (41, _)] rfl ⟨rfl, rfl, trivial⟩ rfl (fun wq_24 kq_24 => ?_)
   replace hw := hw.pure kq_24
   replace hd_4 := hd_4.pure kq_24
   refine WL.qb rfl rfl rfl (WL.nil ?_)
   refine WX.one ⟨hd_4, ?_⟩
   refine DL.step [(42, _)] rfl ⟨rfl, trivial⟩ rfl (fun wq_25 kq_25 => ?_)
   replace hw := hw.pure kq_25
   replace hd_4 := hd_4.pure kq_25
   refine WL.assign rfl rfl (WL.nil ?_)
   refine WX.one ⟨hd_4, ?_⟩
   refine DL.done (fun we_26 ke_26 => ?_)
   replace hw := hw.pure ke_26
   refine WX.qa (WC.ret (WX.qg (.inl rfl) Tryz.results5 rfl ?_))
   first
    |exact ⟨_, rfl, rfl, hw⟩
    |(refine ⟨_, rfl, ?_, hw⟩
      exact congrArg Value.bool (decide_eq_true rfl))
    |(exfalso; omega)
 case hf =>
  intro h24
  replace h24 := of_decide_eq_false h24
  apply DQ.step [(24, _)] rfl ⟨rfl, trivial⟩ rfl (fun _ _ => WL.move rfl rfl  WL.q)
  apply DQ.step [(4, _), (25, _)] rfl ⟨rfl, rfl, trivial⟩ rfl
  ·intro wq_8 kq_8
   refine WL.pass rfl rfl rfl rfl (WL.nil (WX.one ⟨rfl, by exact Chg.refl _ _⟩))
  apply DQ.step [(26, _), (25, _)] rfl ⟨rfl, rfl, trivial⟩ rfl
  ·intro wq_9 kq_9
   refine WL.pass rfl rfl rfl rfl (WL.nil (WX.one ⟨rfl, by exact Chg.refl _ _⟩))
  apply DQ.step [(25, _), (27, _)] rfl ⟨rfl, rfl, trivial⟩ rfl (fun _ _ => WL.qb rfl rfl rfl  WL.q)
  apply DQ.step [(28, _)] rfl ⟨rfl, trivial⟩ rfl (fun _ _ => WL.move rfl rfl  WL.q)
  apply DQ.step [(3, _), (29, _)] rfl ⟨rfl, rfl, trivial⟩ rfl
  ·intro wq_12 kq_12
   refine WL.pass rfl rfl rfl rfl (WL.nil (WX.one ⟨rfl, by exact Chg.refl _ _⟩))
  apply DQ.step [(30, _), (29, _)] rfl ⟨rfl, rfl, trivial⟩ rfl
  ·intro wq_13 kq_13
   refine WL.pass rfl rfl rfl rfl (WL.nil (WX.one ⟨rfl, by exact Chg.refl _ _⟩))
  apply DQ.step [(29, _), (31, _)] rfl ⟨rfl, rfl, trivial⟩ rfl (fun _ _ => WL.qb rfl rfl rfl  WL.q)
  apply DQ.step [(32, _)] rfl ⟨rfl, trivial⟩ rfl (fun _ _ => WL.move rfl rfl  WL.q)
  apply DQ.step [(6, _), (33, _)] rfl ⟨rfl, rfl, trivial⟩ rfl
  ·intro wq_16 kq_16
   refine WL.pass rfl rfl rfl rfl (WL.nil (WX.one ⟨rfl, by exact Chg.refl _ _⟩))
  apply DQ.step [(34, _), (33, _)] rfl ⟨rfl, rfl, trivial⟩ rfl
  ·intro wq_17 kq_17
   refine WL.pass rfl rfl rfl rfl (WL.nil (WX.one ⟨rfl, by exact Chg.refl _ _⟩))
  apply DQ.step [(33, _), (35, _)] rfl ⟨rfl, rfl, trivial⟩ rfl (fun _ _ => WL.qb rfl rfl rfl  WL.q)
  apply DQ.step [(36, _)] rfl ⟨rfl, trivial⟩ rfl (fun _ _ => WL.move rfl rfl  WL.q)
  apply DQ.step [(5, _), (37, _)] rfl ⟨rfl, rfl, trivial⟩ rfl
  ·intro wq_20 kq_20
   refine WL.pass rfl rfl rfl rfl (WL.nil (WX.one ⟨rfl, by exact Chg.refl _ _⟩))
  refine DQ.done (fun hd_4 => ?_)
  refine DL.step [(37, _)] rfl ⟨rfl, trivial⟩ rfl (fun wq_21 kq_21 => ?_)
  replace hw := hw.pure kq_21
  replace hd_4 := hd_4.pure kq_21
  refine WL.pass rfl rfl rfl rfl (WL.nil (WX.one ⟨hd_4, ?_⟩))
  refine DL.step [(39, _), (37, _)] rfl ⟨rfl, rfl, trivial⟩ rfl (fun wq_22 kq_22 => ?_)
  replace hw := hw.pure kq_22
  replace hd_4 := hd_4.pure kq_22
  refine WL.pass rfl rfl rfl rfl (WL.nil (WX.one ⟨hd_4, ?_⟩))
  refine DL.step [(38, _), (40, _), (37, _)] rfl ⟨rfl, rfl, rfl, trivial⟩ rfl (fun wq_23 kq_23 => ?_)
  replace hw := hw.pure kq_23
  replace hd_4 := hd_4.pure kq_23
  refine WL.pass rfl rfl rfl rfl (WL.nil (WX.one ⟨hd_4, ?_⟩))
  refine DL.step [(37, _), (41, _)] rfl ⟨rfl, rfl, trivial⟩ rfl (fun wq_24 kq_24 => ?_)
  replace hw := hw.pure kq_24
  replace hd_4 := hd_4.pure kq_24
  refine WL.qb rfl rfl rfl (WL.nil ?_)
  refine WX.one ⟨hd_4, ?_⟩
  refine DL.step [(42, _)] rfl ⟨rfl, trivial⟩ rfl (fun wq_25 kq_25 => ?_)
  replace hw := hw.pure kq_25
  replace hd_4 := hd_4.pure kq_25
  refine WL.assign rfl rfl (WL.nil ?_)
  refine WX.one ⟨hd_4, ?_⟩
  refine DL.done (fun we_26 ke_26 => ?_)
  replace hw := hw.pure ke_26
  refine WX.qa (WC.ret (WX.qg (.inl rfl) Tryz.results5 rfl ?_))
  first
   |exact ⟨_, rfl, rfl, hw⟩
   |(refine ⟨_, rfl, ?_, hw⟩
     exact congrArg Value.bool (decide_eq_true rfl))
   |(exfalso; omega)
end Go.Proofs.YtjeldcjchipdgaaGreatDoor
namespace Go.Proofs.YtjeldcjchipdgaaGreatDoor
open Go.RowKit Go.HL
set_option maxRecDepth 100000
theorem docEncU_calls (u : UbV) (w : World) (hu : WfU u) : Calls Tryz.prog 21 [.agg (eub.f u).toArray].toArray w (Ret fun v w' => v = .tuple #[.string ⟨(encB u).toArray⟩, vi (encE u)] ∧ Chg Nob w w') := by
 have kk := Chg.refl Nob w
 refine Calls.of_WC Tryz.func21 rfl Tryz.ntmps21 (by simp) ?_
 refine WC.sr (WL.box rfl rfl ?_)
 intro g_1 w_1 hge_1 hlt_1 hb_1 k_1
 replace kk := kk.pure k_1
 refine WL.assign rfl rfl (WL.assign rfl rfl (WL.t (WC.sr (WL.fieldAddr (fld_43_1) rfl rfl (?_)))))
 have hb1 : Blk _ g_1 43 (eub.f u) := hb_1
 refine WL.qo (ept.f u.p) Tryz.isAgg38 Tryz.sizeOf38 rfl (fun j v hj => by rw [Nat.add_comm]; exact hb1.cell hj) rfl rfl ?_
 refine WL.call eg_65 rfl rfl (docPtr_calls u.p _ hu.2) ?_
 rintro v w1 ⟨rfl, k1⟩
 replace kk := kk.pure k1
 replace hb1 := hb1.pure k1
 refine WL.move rfl rfl (WL.extract rfl rfl rfl (WL.extract rfl rfl rfl (WL.assign rfl rfl (WL.assign rfl rfl (WL.t (WC.seq (WC.sr (WL.move rfl rfl (WL.qk rfl rfl rfl (fun h14 => ?_) (fun h14 => ?_))))))))))
 ·refine WL.move rfl rfl (WL.pass rfl rfl rfl rfl (WL.pass rfl rfl rfl rfl (WL.pass rfl rfl rfl rfl (WL.qc rfl rfl rfl (WL.t (WC.qb rfl (WC.sr (WL.assign rfl rfl (WL.assign rfl rfl (WL.t (WC.ret (WX.qb (WX.qi (.inl rfl) Tryz.results21 rfl rfl ?_)))))))))))))
  by_cases hc : rightP u.p ∧ 1 ≤ u.t
  ·rw [encB, encE, if_pos hc, if_pos hc]
   first
    |(have hz : secE (uit u) ≠ 0 := h32
      rw [secB, if_neg hz]
      exact ⟨_, rfl, rfl, kk⟩)
    |(have hz : secE (uit u) = 0 := h32
      rw [hz]
      exact ⟨_, rfl, rfl, kk⟩)
    |(exfalso; exact h14 ((ptrE_eq _).2 hc.1))
    |(exfalso; have h5 := hc.2; omega)
  ·rw [encB, encE, if_neg hc, if_neg hc]
   first
    |(exact ⟨_, rfl, rfl, kk⟩)
    |(exfalso; exact hc ⟨(ptrE_eq _).1 h14, by omega⟩)
 ·refine WL.move rfl rfl (WL.qa rfl rfl rfl (WL.fieldAddr (fld_43_0) rfl rfl (WL.qa rfl rfl rfl (WL.qd Tryz.isAgg3 hb1 rfl rfl rfl (WL.qa rfl rfl rfl (WL.qi rfl rfl rfl (fun h18 => ?_) (fun h18 => ?_)))))))
  ·refine WL.qb rfl rfl rfl (WL.t (WC.qb rfl (WC.sr (WL.assign rfl rfl (WL.assign rfl rfl (WL.t (WC.ret (WX.qb (WX.qi (.inl rfl) Tryz.results21 rfl rfl ?_)))))))))
   by_cases hc : rightP u.p ∧ 1 ≤ u.t
   ·rw [encB, encE, if_pos hc, if_pos hc]
    first
     |(have hz : secE (uit u) ≠ 0 := h32
       rw [secB, if_neg hz]
       exact ⟨_, rfl, rfl, kk⟩)
     |(have hz : secE (uit u) = 0 := h32
       rw [hz]
       exact ⟨_, rfl, rfl, kk⟩)
     |(exfalso; exact h14 ((ptrE_eq _).2 hc.1))
     |(exfalso; have h5 := hc.2; omega)
   ·rw [encB, encE, if_neg hc, if_neg hc]
    first
     |(exact ⟨_, rfl, rfl, kk⟩)
     |(exfalso; exact hc ⟨(ptrE_eq _).1 h14, by omega⟩)
  ·refine WL.qb rfl rfl rfl (WL.t (WC.qa rfl (WC.skip (WX.qa (WC.sr (WL.bld rfl (bld_116_0_1 _ _) rfl (WL.fieldAddr (fld_43_0) rfl rfl (WL.qd Tryz.isAgg3 hb1 rfl rfl rfl (WL.bld rfl (bld_116_0_1 _ _) rfl (WL.move rfl rfl (WL.bld rfl (bld_116_0_2 _ _) rfl (?_))))))))))))
   refine WL.build (e := eit) [⟨1, 77, ⟨#[]⟩⟩, ⟨1, u.t, ⟨#[]⟩⟩, ⟨2, 0, ptrS u.p⟩] Tryz.underlying117 Tryz.sizeOf116 Tryz.zeroValue116 rfl rfl rfl (by simp [Value.cells] <;> rfl) (by decide) rfl ?_
   intro a_ha w_ha ha l_ha z_ha k_ha
   replace kk := kk.pure k_ha
   have ha2 := ha.rsl.old
   refine WL.call eg_66 rfl rfl (docSector_calls ha2 (by simp) (uit_rit hu)) ?_
   rintro v w2 ⟨rfl, k2⟩
   rw [show ([⟨1, 77, ⟨#[]⟩⟩, ⟨1, u.t, ⟨#[]⟩⟩, ⟨2, 0, ptrS u.p⟩] : List Item) = uit u from rfl]
   replace kk := kk.pure k2
   refine WL.move rfl rfl (WL.extract rfl rfl rfl (WL.extract rfl rfl rfl (WL.assign rfl rfl (WL.assign rfl rfl (WL.t (WC.seq (WC.sr (WL.move rfl rfl (WL.qk rfl rfl rfl (fun h32 => ?_) (fun h32 => ?_))))))))))
   ·refine WL.t (WC.qb rfl (WC.sr (WL.move rfl rfl (WL.assign rfl rfl (WL.assign rfl rfl (WL.t (WC.ret (WX.qb (WX.qi (.inl rfl) Tryz.results21 rfl rfl ?_)))))))))
    by_cases hc : rightP u.p ∧ 1 ≤ u.t
    ·rw [encB, encE, if_pos hc, if_pos hc]
     first
      |(have hz : secE (uit u) ≠ 0 := h32
        rw [secB, if_neg hz]
        exact ⟨_, rfl, rfl, kk⟩)
      |(have hz : secE (uit u) = 0 := h32
        rw [hz]
        exact ⟨_, rfl, rfl, kk⟩)
      |(exfalso; exact h14 ((ptrE_eq _).2 hc.1))
      |(exfalso; have h5 := hc.2; omega)
    ·rw [encB, encE, if_neg hc, if_neg hc]
     first
      |(exact ⟨_, rfl, rfl, kk⟩)
      |(exfalso; exact hc ⟨(ptrE_eq _).1 h14, by omega⟩)
   ·refine WL.t (WC.qa rfl (WC.skip (WX.qa (WC.sr (WL.move rfl rfl (WL.assign rfl rfl (WL.assign rfl rfl (WL.t (WC.ret (WX.qi (.inl rfl) Tryz.results21 rfl rfl ?_))))))))))
    by_cases hc : rightP u.p ∧ 1 ≤ u.t
    ·rw [encB, encE, if_pos hc, if_pos hc]
     first
      |(have hz : secE (uit u) ≠ 0 := h32
        rw [secB, if_neg hz]
        exact ⟨_, rfl, rfl, kk⟩)
      |(have hz : secE (uit u) = 0 := h32
        rw [hz]
        exact ⟨_, rfl, rfl, kk⟩)
      |(exfalso; exact h14 ((ptrE_eq _).2 hc.1))
      |(exfalso; have h5 := hc.2; omega)
    ·rw [encB, encE, if_neg hc, if_neg hc]
     first
      |(exact ⟨_, rfl, rfl, kk⟩)
      |(exfalso; exact hc ⟨(ptrE_eq _).1 h14, by omega⟩)
theorem unp_inv {s : ByteArray} (h : (unpR s).2 = 0) : rightP (unpR s).1 ∧ WfP (unpR s).1 ∧ ptrS (unpR s).1 = s := by
 by_cases h4 : (decL s.data.toList).length = 4
 ·obtain ⟨i0, i1, i2, i3, hL⟩ := four h4
  have e := unpR_four hL
  by_cases hc : decE s.data.toList = 0 ∧ (i0.kind = 1 ∧ i1.kind = 1 ∧ i2.kind = 1 ∧ i3.kind = 2) ∧ rightP (ptr4 i0 i1 i2 i3)
  ·rw [if_pos hc] at e
   rw [e]
   exact ⟨hc.2.2, four_wf hc.1 hL, (unp_text hc.1 hL hc.2.2).2 hc.2.1⟩
  ·rw [if_neg hc] at e
   rw [e] at h
   cases h
 ·rw [unpR_bad (.inr h4)] at h
  cases h
theorem dec_inv {b : List UInt8} {u : UbV} (h : decU b = some u) : encE u = 0 ∧ encB u = b ∧ WfU u := by
 unfold decU at h
 split at h
 ·rename_i i0 i1 i2 hu
  split at h
  ·rename_i hc
   obtain ⟨c1, c2, c3, c4, c5⟩ := hc
   injection h with h
   subst h
   obtain ⟨_, _, _, _, hg, hE, hB⟩ := un_parts hu
   obtain ⟨r1, r2, r3⟩ := unp_inv c5
   have g1 := hg i1 (by simp)
   have e1 := good1 g1 c2
   have e2 := good2 (hg i2 (by simp)) c4
   have hl : uit ⟨i1.n, (unpR i2.s).1⟩ = [i0, i1, i2] := by
    show [(⟨1, 77, ⟨#[]⟩⟩ : Item), ⟨1, i1.n, ⟨#[]⟩⟩, ⟨2, 0, ptrS (unpR i2.s).1⟩] = _
    rw [r3, c1, ← e1, ← e2]
   refine ⟨?_, ?_, g1.2.2, r2⟩
   ·rw [encE, if_pos ⟨r1, c3⟩, hl, hE]
   ·rw [encB, if_pos ⟨r1, c3⟩, hl, hB]
  ·cases h
 ·cases h
end Go.Proofs.YtjeldcjchipdgaaGreatDoor
