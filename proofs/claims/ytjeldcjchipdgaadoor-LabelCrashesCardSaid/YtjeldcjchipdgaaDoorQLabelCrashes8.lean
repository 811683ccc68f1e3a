import Derived.Test.YtjeldcjchipdgaaDoorQLabelCrashes7
namespace Go.Proofs.YtjeldcjchipdgaaDoor
open Go.RowKit Go.HL
set_option maxRecDepth 100000

theorem RK.old {A : Nat → Prop} {w : World} {R : Nat} {s : RA} (h : RK A w R s) : RK (fun b => A b ∧ b < w.heap.size) w R s := by
  obtain ⟨m, ga, gc, wa, wc, ws, ls, hB, hI, hl⟩ := h.ex
  exact ⟨⟨h.aR, hB.lt⟩, h.ok, m, ga, gc, wa, wc, ws, ls, hB, ⟨⟨hI.sm, hI.map.lt⟩, hI.map, hI.gone.lt, hI.waits.lt, fun p hp => (hI.byl p hp).lt, fun p hp => (hI.byw p hp).lt⟩, hl⟩
def inS (s : RA) (d a : Int) : Prop := 0 ≤ d ∧ d < s.dn ∧ 0 ≤ a ∧ a < s.sn
instance (s : RA) (d a : Int) : Decidable (inS s d a) := inferInstanceAs (Decidable (0 ≤ d ∧ d < s.dn ∧ 0 ≤ a ∧ a < s.sn))
def isS (s : RA) (d : Int) : Prop := 0 ≤ d ∧ d < s.dn
instance (s : RA) (d : Int) : Decidable (isS s d) := inferInstanceAs (Decidable (0 ≤ d ∧ d < s.dn))
def goneS (s : RA) (d : Int) : Bool := s.gone.getD d.toNat false
theorem goneS_at {s : RA} (h : s.ok) {d : Int} (hd : isS s d) : s.gone[d.toNat]? = some (goneS s d) := by
  have : d.toNat < s.gone.length := by rw [h.gl]; have h1 := hd.1; have h2 := hd.2; omega
  rw [goneS, List.getD_eq_getElem?_getD, List.getElem?_eq_getElem this]
  rfl
theorem Drives_calls {A : Nat → Prop} {w : World} {R : Nat} {s : RA} (h : RK A w R s) : Calls Tryd.prog 43 [ptr R].toArray w (Ret fun v w' => v = vi s.dn ∧ Chg Nob w w') := by
  obtain ⟨m, ga, gc, wa, wc, ws, ls, hB, -⟩ := h.ex
  have hw := Chg.refl Nob w
  refine Calls.of_WC Tryd.func43 rfl Tryd.ntmps43 (by simp) ?_
  refine WC.seq (WC.region (WL.assign rfl rfl (WL.nil (WX.then_normal (WC.seq (WC.seq (WC.region (?_))))))))
  refine WL.move rfl rfl (?_)
  refine WL.ptrNil Tryd.underlying41 rfl rfl rfl ?_
  refine WL.nil (WX.then_normal (WC.cond_false rfl (WC.skip (WX.then_normal (WC.seq (WC.region (WL.move rfl rfl (?_))))))))
  refine WL.nilCheck rfl rfl (WL.fieldAddr (fld_86_0) rfl rfl (WL.loadB Tryd.isAgg3 hB rfl rfl rfl (WL.assign rfl rfl (WL.nil (WX.then_normal (WC.ret (?_)))))))
  refine WX.ret1 (.inl rfl) Tryd.results43 rfl ?_
  exact ⟨_, rfl, rfl, hw⟩
theorem Sectors_calls {A : Nat → Prop} {w : World} {R : Nat} {s : RA} (h : RK A w R s) : Calls Tryd.prog 53 [ptr R].toArray w (Ret fun v w' => v = vi s.sn ∧ Chg Nob w w') := by
  obtain ⟨m, ga, gc, wa, wc, ws, ls, hB, -⟩ := h.ex
  have hw := Chg.refl Nob w
  refine Calls.of_WC Tryd.func53 rfl Tryd.ntmps53 (by simp) ?_
  refine WC.seq (WC.region (WL.assign rfl rfl (WL.nil (WX.then_normal (WC.seq (WC.seq (WC.region (?_))))))))
  refine WL.move rfl rfl (?_)
  refine WL.ptrNil Tryd.underlying41 rfl rfl rfl ?_
  refine WL.nil (WX.then_normal (WC.cond_false rfl (WC.skip (WX.then_normal (WC.seq (WC.region (WL.move rfl rfl (?_))))))))
  refine WL.nilCheck rfl rfl (WL.fieldAddr (fld_86_1) rfl rfl (WL.loadB Tryd.isAgg3 hB rfl rfl rfl (WL.assign rfl rfl (WL.nil (WX.then_normal (WC.ret (?_)))))))
  refine WX.ret1 (.inl rfl) Tryd.results53 rfl ?_
  exact ⟨_, rfl, rfl, hw⟩
/-- why a sector isn't to be had: 0: it is -/
def errS (s : RA) (d a : Int) : Int := if ¬ inS s d a then 1 else if goneS s d = true then 3 else if s.off = true then 16 else 0
theorem Read_calls {A : Nat → Prop} {w : World} {R : Nat} {s : RA} (h : RK A w R s) (d a : Int) :
    Calls Tryd.prog 27 [ptr R, vi d, vi a].toArray w (Ret fun v w' => (∃ (r : Rw) (e : Int), v = .tuple #[vsl r, vi e] ∧ e = errS s d a ∧ (e = 0 → r.xs = heldS s (d, a)) ∧ (e ≠ 0 → r = ⟨none, 0, []⟩) ∧ Row (w.heap.size ≤ ·) w' 5 eb r.ao r.cap r.xs) ∧ Chg Nob w w') := by
  have hw := Chg.refl Nob w
  refine Calls.of_WC Tryd.func27 rfl Tryd.ntmps27 (by simp) ?_
  refine WC.seq (WC.region (WL.assign rfl rfl (WL.assign rfl rfl (WL.nil (WX.then_normal (WC.seq (WC.block (?_))))))))
  refine WC.seq (WC.region (WL.move rfl rfl (WL.move rfl rfl (WL.move rfl rfl (?_)))))
  refine WL.call eg_46 rfl rfl (in_calls h d a) ?_
  rintro v w1 ⟨rfl, k1⟩
  have zs_k1 := k1.size
  replace h := h.pure k1
  replace hw := hw.pure k1
  obtain ⟨m, ga, gc, wa, wc, ws, ls, hB, hI, -⟩ := h.ex
  by_cases h12 : inS s d a
  ·
    rw [show decide (0 ≤ d ∧ d < (s.dn : Int) ∧ 0 ≤ a ∧ a < (s.sn : Int)) = true from decide_eq_true h12]
    refine WL.not rfl rfl (WL.assign rfl rfl (WL.nil (WX.then_normal (WC.cond_false rfl (WC.seq (WC.region (WL.move rfl rfl (?_))))))))
    refine WL.nilCheck rfl rfl (WL.fieldAddr (fld_86_3) rfl rfl (WL.loadB Tryd.isAgg67 hB rfl rfl rfl (WL.move rfl rfl (?_))))
    have hgd := goneS_at h.ok (d := d) ⟨h12.1, h12.2.1⟩
    refine WL.indexT (e := ebool) Tryd.underlying67 Tryd.sizeOf4 hI.gone.rsl rfl rfl ⟨hgd, by have := h12.1; omega⟩ rfl ?_
    intro bb oo hcc
    refine WL.load Tryd.isAgg4 rfl (hcc 0 _ rfl) rfl ?_
    rcases hg : goneS s d with _ | _
    ·
      refine WL.assign rfl rfl (WL.nil (WX.then_normal (WC.cond_false rfl (WC.seq (WC.region (WL.move rfl rfl (WL.nilCheck rfl rfl (?_))))))))
      refine WL.fieldAddr (fld_86_5) rfl rfl (?_)
      refine WL.loadB Tryd.isAgg4 hB rfl rfl rfl ?_
      rcases ho : s.off with _ | _
      ·
        refine WL.assign rfl rfl (WL.nil (WX.then_normal (WC.cond_false rfl (WC.skip (WX.block_normal (WX.then_normal (WC.seq (?_))))))))
        refine WC.region (WL.move rfl rfl (WL.move rfl rfl (WL.move rfl rfl (WL.bld rfl (bld_90_0_1 _ _) rfl (?_)))))
        refine WL.call eg_48 rfl rfl (held_calls h (d, a)) ?_
        rintro v w2 ⟨⟨r, rfl, hr, hx⟩, k2⟩
        have zs_k2 := k2.size
        replace h := h.pure k2
        replace hw := hw.pure k2
        replace hB := hB.pure k2
        replace hI := hI.pure k2
        refine WL.call eg_47 rfl rfl (bclone_calls hr (by rw [hx]; exact heldS_len h.ok _)) ?_
        rintro v w3 ⟨⟨g, c, rfl, hq, hq1, hq2⟩, k3⟩
        have zs_k3 := k3.size
        replace h := h.pure k3
        replace hw := hw.pure k3
        replace hB := hB.pure k3
        replace hI := hI.pure k3
        replace hr := hr.pure k3
        refine WL.assign rfl rfl (WL.assign rfl rfl (WL.nil (WX.then_normal (WC.ret (?_)))))
        refine WX.ret2 (.inl rfl) Tryd.results27 rfl rfl ?_
        first
          | exact ⟨_, rfl, ⟨⟨some ⟨g, 0, none⟩, c, r.xs⟩, 0, rfl, by simp [errS, h12, hg, ho], fun _ => hx, fun h0 => absurd rfl h0, hq.mono (fun b hb => by omega)⟩, hw⟩
          | exact ⟨_, rfl, ⟨⟨none, 0, []⟩, 16, rfl, by simp [errS, h12, hg, ho], fun h0 => absurd h0 (by decide), fun _ => rfl, Row.nil _ _ _ _⟩, hw⟩
          | exact ⟨_, rfl, ⟨⟨none, 0, []⟩, 3, rfl, by simp [errS, h12, hg], fun h0 => absurd h0 (by decide), fun _ => rfl, Row.nil _ _ _ _⟩, hw⟩
          | exact ⟨_, rfl, ⟨⟨none, 0, []⟩, 1, rfl, by simp [errS, h12], fun h0 => absurd h0 (by decide), fun _ => rfl, Row.nil _ _ _ _⟩, hw⟩
      ·
        refine WL.assign rfl rfl (WL.nil (WX.then_normal (WC.cond_true rfl (WC.seq (WC.region (WL.assign rfl rfl (WL.assign rfl rfl (?_))))))))
        refine WL.nil (WX.then_normal (WC.ret (WX.block_ret (WX.then_ret (?_)))))
        refine WX.ret2 (.inl rfl) Tryd.results27 rfl rfl ?_
        first
          | exact ⟨_, rfl, ⟨⟨some ⟨g, 0, none⟩, c, r.xs⟩, 0, rfl, by simp [errS, h12, hg, ho], fun _ => hx, fun h0 => absurd rfl h0, hq.mono (fun b hb => by omega)⟩, hw⟩
          | exact ⟨_, rfl, ⟨⟨none, 0, []⟩, 16, rfl, by simp [errS, h12, hg, ho], fun h0 => absurd h0 (by decide), fun _ => rfl, Row.nil _ _ _ _⟩, hw⟩
          | exact ⟨_, rfl, ⟨⟨none, 0, []⟩, 3, rfl, by simp [errS, h12, hg], fun h0 => absurd h0 (by decide), fun _ => rfl, Row.nil _ _ _ _⟩, hw⟩
          | exact ⟨_, rfl, ⟨⟨none, 0, []⟩, 1, rfl, by simp [errS, h12], fun h0 => absurd h0 (by decide), fun _ => rfl, Row.nil _ _ _ _⟩, hw⟩
    ·
      refine WL.assign rfl rfl (WL.nil (WX.then_normal (WC.cond_true rfl (WC.seq (WC.region (WL.assign rfl rfl (WL.assign rfl rfl (?_))))))))
      refine WL.nil (WX.then_normal (WC.ret (WX.block_ret (WX.then_ret (?_)))))
      refine WX.ret2 (.inl rfl) Tryd.results27 rfl rfl ?_
      first
        | exact ⟨_, rfl, ⟨⟨some ⟨g, 0, none⟩, c, r.xs⟩, 0, rfl, by simp [errS, h12, hg, ho], fun _ => hx, fun h0 => absurd rfl h0, hq.mono (fun b hb => by omega)⟩, hw⟩
        | exact ⟨_, rfl, ⟨⟨none, 0, []⟩, 16, rfl, by simp [errS, h12, hg, ho], fun h0 => absurd h0 (by decide), fun _ => rfl, Row.nil _ _ _ _⟩, hw⟩
        | exact ⟨_, rfl, ⟨⟨none, 0, []⟩, 3, rfl, by simp [errS, h12, hg], fun h0 => absurd h0 (by decide), fun _ => rfl, Row.nil _ _ _ _⟩, hw⟩
        | exact ⟨_, rfl, ⟨⟨none, 0, []⟩, 1, rfl, by simp [errS, h12], fun h0 => absurd h0 (by decide), fun _ => rfl, Row.nil _ _ _ _⟩, hw⟩
  ·
    rw [show decide (0 ≤ d ∧ d < (s.dn : Int) ∧ 0 ≤ a ∧ a < (s.sn : Int)) = false from decide_eq_false h12]
    refine WL.not rfl rfl (WL.assign rfl rfl (WL.nil (WX.then_normal (WC.cond_true rfl (WC.seq (WC.region (WL.assign rfl rfl (?_))))))))
    refine WL.assign rfl rfl (WL.nil (WX.then_normal (WC.ret (WX.block_ret (WX.then_ret (?_))))))
    refine WX.ret2 (.inl rfl) Tryd.results27 rfl rfl ?_
    first
      | exact ⟨_, rfl, ⟨⟨some ⟨g, 0, none⟩, c, r.xs⟩, 0, rfl, by simp [errS, h12, hg, ho], fun _ => hx, fun h0 => absurd rfl h0, hq.mono (fun b hb => by omega)⟩, hw⟩
      | exact ⟨_, rfl, ⟨⟨none, 0, []⟩, 16, rfl, by simp [errS, h12, hg, ho], fun h0 => absurd h0 (by decide), fun _ => rfl, Row.nil _ _ _ _⟩, hw⟩
      | exact ⟨_, rfl, ⟨⟨none, 0, []⟩, 3, rfl, by simp [errS, h12, hg], fun h0 => absurd h0 (by decide), fun _ => rfl, Row.nil _ _ _ _⟩, hw⟩
      | exact ⟨_, rfl, ⟨⟨none, 0, []⟩, 1, rfl, by simp [errS, h12], fun h0 => absurd h0 (by decide), fun _ => rfl, Row.nil _ _ _ _⟩, hw⟩
/-! a write or flush is counted -/
def offS (s : RA) : Bool := s.off || (s.armed && decide (s.left = 0))
def spendS (s : RA) : RA := if offS s = true then { s with off := true } else { s with left := if s.armed = true then s.left - 1 else s.left }
theorem spendS_ok {s : RA} (h : s.ok) : (spendS s).ok := by
  unfold spendS
  split
  · exact ⟨h.dn, h.sn, h.gl, h.ll, h.lw, h.lf, h.nd⟩
  · rename_i h1
    refine ⟨h.dn, h.sn, h.gl, h.ll, h.lw, ?_, h.nd⟩
    obtain ⟨l1, l2, l3⟩ := h.lf
    show (s.armed = true → 0 ≤ (if s.armed = true then s.left - 1 else s.left)) ∧ _ ≤ (if s.armed = true then s.left - 1 else s.left) ∧ (if s.armed = true then s.left - 1 else s.left) ≤ _
    by_cases h2 : s.armed = true
    · rw [if_pos h2]
      have := l1 h2
      simp [offS, h2] at h1
      have h3 := h1.2
      refine ⟨fun _ => ?_, ?_, ?_⟩ <;> omega
    · rw [if_neg h2]
      exact ⟨fun h3 => absurd h3 h2, l2, l3⟩
theorem spend_calls {A : Nat → Prop} {w : World} {R : Nat} {s : RA} (h : RK A w R s) :
    Calls Tryd.prog 45 [ptr R].toArray w (Ret fun v w' => v = .bool (!offS s) ∧ RK A w' R (spendS s) ∧ Chg (fun x => x = R) w w' ∧ w'.heap.size = w.heap.size) := by
  have aR := h.aR
  have hok := h.ok
  have hsok := spendS_ok h.ok
  obtain ⟨m, ga, gc, wa, wc, ws, ls, hB, hI, hls, hws⟩ := h.ex
  replace hI := hI.open hB
  have hw := Chg.refl (fun x => x = R) w
  have hsz : w.heap.size = w.heap.size := rfl
  refine Calls.of_WC Tryd.func45 rfl Tryd.ntmps45 (by simp) ?_
  refine WC.seq (WC.region (WL.assign rfl rfl (WL.nil (WX.then_normal (WC.seq (WC.seq (WC.region (?_))))))))
  refine WL.move rfl rfl (WL.nilCheck rfl rfl (WL.fieldAddr (fld_86_6) rfl rfl (WL.loadB Tryd.isAgg4 hB rfl rfl rfl (WL.move rfl rfl (?_)))))
  refine WL.caseB (t := 7) rfl (fun hb7 => ?_) (fun hb7 => ?_)
  ·
    refine WL.want rfl rfl rfl (WL.move rfl rfl (WL.want rfl rfl rfl (WL.nilCheck rfl rfl (WL.want rfl rfl rfl (WL.fieldAddr (fld_86_7) rfl rfl (WL.want rfl rfl rfl (WL.loadB Tryd.isAgg3 hB rfl rfl rfl (?_))))))))
    refine WL.want rfl rfl rfl (?_)
    refine WL.eql? rfl rfl rfl (fun h12 => ?_) (fun h12 => ?_)
    ·
      refine WL.pickT rfl rfl rfl (WL.nil (WX.then_normal (WC.cond_true rfl (WC.region (WL.move rfl rfl (WL.nilCheck rfl rfl (WL.fieldAddr (fld_86_5) rfl rfl (?_))))))))
      refine WL.store Tryd.sizeOf4 hB rfl rfl rfl rfl ?_
      intro w_1 hs_1 hn_1 k_1
      have zs_k_1 := k_1.size
      replace hI := hI.chg k_1 (by first | (intro x h1 h2; exact h2) | (intro x h0 h1 h2; exact hS x h1 h2) | (intro x h0 h1 h2; have h3 : _ = _ := h2; subst h3; exact hSR h1.1) | (intro x h1 h2; have h3 : _ = _ := h2; subst h3; assumption) | (intro x h1 h2; have h3 : _ = _ := h2; exfalso; omega) | (intro b h1 h2 h3; have h4 : _ = _ := h3; (try dsimp only at h2); exfalso; omega) | (intro h1; have h2 : _ = _ := h1; exfalso; omega) | (intro h1; have h2 : _ ≤ _ := h1; exfalso; omega) | (intros; exfalso; (try dsimp only at *); omega) | (intro b h1 h2 h3; exfalso; have h4 := h3.2; (try dsimp only at *); omega) | (intro h1; exfalso; have h4 := h1.2; (try dsimp only at *); omega) | (intro x h1 h2; exfalso; have h4 := h2.2; (try dsimp only at *); omega) | (intro x h1 h2; exact ⟨_, rfl, h2⟩) | (intro x h1 h2; have h4 := h2.1; have h5 := h2.2; exfalso; omega) | (intro x h1 h2; exact h2.1) | (intro x h1 h2; rcases h2.1 with h3 | h3; exact h3; exfalso; omega) | (intro x h1 h2; rcases h2 with h3 | h3; exact h3; exfalso; omega))
      replace hw := hw.chg k_1 (by first | (intro x h1 h2; exact h2) | (intro x h0 h1 h2; exact hS x h1 h2) | (intro x h0 h1 h2; have h3 : _ = _ := h2; subst h3; exact hSR h1.1) | (intro x h1 h2; have h3 : _ = _ := h2; subst h3; assumption) | (intro x h1 h2; have h3 : _ = _ := h2; exfalso; omega) | (intro b h1 h2 h3; have h4 : _ = _ := h3; (try dsimp only at h2); exfalso; omega) | (intro h1; have h2 : _ = _ := h1; exfalso; omega) | (intro h1; have h2 : _ ≤ _ := h1; exfalso; omega) | (intros; exfalso; (try dsimp only at *); omega) | (intro b h1 h2 h3; exfalso; have h4 := h3.2; (try dsimp only at *); omega) | (intro h1; exfalso; have h4 := h1.2; (try dsimp only at *); omega) | (intro x h1 h2; exfalso; have h4 := h2.2; (try dsimp only at *); omega) | (intro x h1 h2; exact ⟨_, rfl, h2⟩) | (intro x h1 h2; have h4 := h2.1; have h5 := h2.2; exfalso; omega) | (intro x h1 h2; exact h2.1) | (intro x h1 h2; rcases h2.1 with h3 | h3; exact h3; exfalso; omega) | (intro x h1 h2; rcases h2 with h3 | h3; exact h3; exfalso; omega))
      replace hB := hn_1
      refine WL.nil (WX.then_normal (WC.seq (WC.seq (WC.region (WL.move rfl rfl (WL.nilCheck rfl rfl (WL.fieldAddr (fld_86_5) rfl rfl (?_))))))))
      refine WL.loadB Tryd.isAgg4 hB rfl rfl rfl (WL.nil (WX.then_normal (?_)))
      first | refine WC.cond_dec rfl (fun hc20 => ?_) (fun hc20 => ?_) | refine WC.cond_split rfl (fun hc20 => ?_) (fun hc20 => ?_)
      ·
        refine WC.seq (WC.region (WL.assign rfl rfl (WL.nil (WX.then_normal (WC.ret (WX.then_ret (?_)))))))
        refine WX.ret1 (.inl rfl) Tryd.results45 rfl ?_
        first
          | (exfalso; cases hc20; done)
          | (exfalso; rw [hb7] at hc24; cases hc24; done)
          | (refine ⟨_, rfl, ?_, ⟨aR, hsok, m, ga, gc, wa, wc, ws, ls, Eq.mp (congrArg (Blk _ R 86) ?_) hB, ?_, ?_, ?_⟩, hw, by omega⟩
             ·
               congr 1
               simp [offS, *]
             ·
               simp [rcells, spendS, offS, *]
             ·
               refine (show (spendS s).gone = s.gone from ?_) ▸ hI.mono (fun b hb => hb.1)
               unfold spendS
               split <;> rfl
             ·
               rw [← hls]
               unfold spendS
               split <;> rfl
             ·
               rw [← hws]
               unfold spendS
               split <;> rfl)
      ·
        refine WC.skip (WX.then_normal (WC.seq (WC.seq (WC.region (WL.move rfl rfl (WL.nilCheck rfl rfl (WL.fieldAddr (fld_86_6) rfl rfl (?_))))))))
        refine WL.loadB Tryd.isAgg4 hB rfl rfl rfl (WL.nil (WX.then_normal (?_)))
        first | refine WC.cond_dec rfl (fun hc24 => ?_) (fun hc24 => ?_) | refine WC.cond_split rfl (fun hc24 => ?_) (fun hc24 => ?_)
        ·
          refine WC.region (WL.move rfl rfl (WL.nilCheck rfl rfl (WL.fieldAddr (fld_86_7) rfl rfl (WL.loadB Tryd.isAgg3 hB rfl rfl rfl (?_)))))
          have hl0 := hok.lf.1 hc24
          have hl1 := hok.lf.2.2
          refine WL.sub64 rfl rfl (by constructor <;> omega) rfl ?_
          refine WL.nilCheck rfl rfl (WL.fieldAddr (fld_86_7) rfl rfl (?_))
          refine WL.store Tryd.sizeOf3 hB rfl rfl rfl rfl ?_
          intro w_2 hs_2 hn_2 k_2
          have zs_k_2 := k_2.size
          replace hI := hI.chg k_2 (by first | (intro x h1 h2; exact h2) | (intro x h0 h1 h2; exact hS x h1 h2) | (intro x h0 h1 h2; have h3 : _ = _ := h2; subst h3; exact hSR h1.1) | (intro x h1 h2; have h3 : _ = _ := h2; subst h3; assumption) | (intro x h1 h2; have h3 : _ = _ := h2; exfalso; omega) | (intro b h1 h2 h3; have h4 : _ = _ := h3; (try dsimp only at h2); exfalso; omega) | (intro h1; have h2 : _ = _ := h1; exfalso; omega) | (intro h1; have h2 : _ ≤ _ := h1; exfalso; omega) | (intros; exfalso; (try dsimp only at *); omega) | (intro b h1 h2 h3; exfalso; have h4 := h3.2; (try dsimp only at *); omega) | (intro h1; exfalso; have h4 := h1.2; (try dsimp only at *); omega) | (intro x h1 h2; exfalso; have h4 := h2.2; (try dsimp only at *); omega) | (intro x h1 h2; exact ⟨_, rfl, h2⟩) | (intro x h1 h2; have h4 := h2.1; have h5 := h2.2; exfalso; omega) | (intro x h1 h2; exact h2.1) | (intro x h1 h2; rcases h2.1 with h3 | h3; exact h3; exfalso; omega) | (intro x h1 h2; rcases h2 with h3 | h3; exact h3; exfalso; omega))
          replace hw := hw.chg k_2 (by first | (intro x h1 h2; exact h2) | (intro x h0 h1 h2; exact hS x h1 h2) | (intro x h0 h1 h2; have h3 : _ = _ := h2; subst h3; exact hSR h1.1) | (intro x h1 h2; have h3 : _ = _ := h2; subst h3; assumption) | (intro x h1 h2; have h3 : _ = _ := h2; exfalso; omega) | (intro b h1 h2 h3; have h4 : _ = _ := h3; (try dsimp only at h2); exfalso; omega) | (intro h1; have h2 : _ = _ := h1; exfalso; omega) | (intro h1; have h2 : _ ≤ _ := h1; exfalso; omega) | (intros; exfalso; (try dsimp only at *); omega) | (intro b h1 h2 h3; exfalso; have h4 := h3.2; (try dsimp only at *); omega) | (intro h1; exfalso; have h4 := h1.2; (try dsimp only at *); omega) | (intro x h1 h2; exfalso; have h4 := h2.2; (try dsimp only at *); omega) | (intro x h1 h2; exact ⟨_, rfl, h2⟩) | (intro x h1 h2; have h4 := h2.1; have h5 := h2.2; exfalso; omega) | (intro x h1 h2; exact h2.1) | (intro x h1 h2; rcases h2.1 with h3 | h3; exact h3; exfalso; omega) | (intro x h1 h2; rcases h2 with h3 | h3; exact h3; exfalso; omega))
          replace hB := hn_2
          refine WL.nil (WX.then_normal (WC.seq (WC.region (WL.assign rfl rfl (WL.nil (WX.then_normal (WC.ret (?_))))))))
          refine WX.ret1 (.inl rfl) Tryd.results45 rfl ?_
          first
            | (exfalso; cases hc20; done)
            | (exfalso; rw [hb7] at hc24; cases hc24; done)
            | (refine ⟨_, rfl, ?_, ⟨aR, hsok, m, ga, gc, wa, wc, ws, ls, Eq.mp (congrArg (Blk _ R 86) ?_) hB, ?_, ?_, ?_⟩, hw, by omega⟩
               ·
                 congr 1
                 simp [offS, *]
               ·
                 simp [rcells, spendS, offS, *]
               ·
                 refine (show (spendS s).gone = s.gone from ?_) ▸ hI.mono (fun b hb => hb.1)
                 unfold spendS
                 split <;> rfl
               ·
                 rw [← hls]
                 unfold spendS
                 split <;> rfl
               ·
                 rw [← hws]
                 unfold spendS
                 split <;> rfl)
        ·
          refine WC.skip (WX.then_normal (WC.seq (WC.region (WL.assign rfl rfl (WL.nil (WX.then_normal (WC.ret (?_))))))))
          refine WX.ret1 (.inl rfl) Tryd.results45 rfl ?_
          first
            | (exfalso; cases hc20; done)
            | (exfalso; rw [hb7] at hc24; cases hc24; done)
            | (refine ⟨_, rfl, ?_, ⟨aR, hsok, m, ga, gc, wa, wc, ws, ls, Eq.mp (congrArg (Blk _ R 86) ?_) hB, ?_, ?_, ?_⟩, hw, by omega⟩
               ·
                 congr 1
                 simp [offS, *]
               ·
                 simp [rcells, spendS, offS, *]
               ·
                 refine (show (spendS s).gone = s.gone from ?_) ▸ hI.mono (fun b hb => hb.1)
                 unfold spendS
                 split <;> rfl
               ·
                 rw [← hls]
                 unfold spendS
                 split <;> rfl
               ·
                 rw [← hws]
                 unfold spendS
                 split <;> rfl)
    ·
      refine WL.pickT rfl rfl rfl (WL.nil (WX.then_normal (WC.cond_false rfl (WC.skip (WX.then_normal (WC.seq (WC.seq (?_))))))))
      refine WC.region (WL.move rfl rfl (WL.nilCheck rfl rfl (WL.fieldAddr (fld_86_5) rfl rfl (WL.loadB Tryd.isAgg4 hB rfl rfl rfl (WL.nil (WX.then_normal (?_)))))))
      first | refine WC.cond_dec rfl (fun hc20 => ?_) (fun hc20 => ?_) | refine WC.cond_split rfl (fun hc20 => ?_) (fun hc20 => ?_)
      ·
        refine WC.seq (WC.region (WL.assign rfl rfl (WL.nil (WX.then_normal (WC.ret (WX.then_ret (?_)))))))
        refine WX.ret1 (.inl rfl) Tryd.results45 rfl ?_
        first
          | (exfalso; cases hc20; done)
          | (exfalso; rw [hb7] at hc24; cases hc24; done)
          | (refine ⟨_, rfl, ?_, ⟨aR, hsok, m, ga, gc, wa, wc, ws, ls, Eq.mp (congrArg (Blk _ R 86) ?_) hB, ?_, ?_, ?_⟩, hw, by omega⟩
             ·
               congr 1
               simp [offS, *]
             ·
               simp [rcells, spendS, offS, *]
             ·
               refine (show (spendS s).gone = s.gone from ?_) ▸ hI.mono (fun b hb => hb.1)
               unfold spendS
               split <;> rfl
             ·
               rw [← hls]
               unfold spendS
               split <;> rfl
             ·
               rw [← hws]
               unfold spendS
               split <;> rfl)
      ·
        refine WC.skip (WX.then_normal (WC.seq (WC.seq (WC.region (WL.move rfl rfl (WL.nilCheck rfl rfl (WL.fieldAddr (fld_86_6) rfl rfl (?_))))))))
        refine WL.loadB Tryd.isAgg4 hB rfl rfl rfl (WL.nil (WX.then_normal (?_)))
        first | refine WC.cond_dec rfl (fun hc24 => ?_) (fun hc24 => ?_) | refine WC.cond_split rfl (fun hc24 => ?_) (fun hc24 => ?_)
        ·
          refine WC.region (WL.move rfl rfl (WL.nilCheck rfl rfl (WL.fieldAddr (fld_86_7) rfl rfl (WL.loadB Tryd.isAgg3 hB rfl rfl rfl (?_)))))
          have hl0 := hok.lf.1 hc24
          have hl1 := hok.lf.2.2
          refine WL.sub64 rfl rfl (by constructor <;> omega) rfl ?_
          refine WL.nilCheck rfl rfl (WL.fieldAddr (fld_86_7) rfl rfl (?_))
          refine WL.store Tryd.sizeOf3 hB rfl rfl rfl rfl ?_
          intro w_1 hs_1 hn_1 k_1
          have zs_k_1 := k_1.size
          replace hI := hI.chg k_1 (by first | (intro x h1 h2; exact h2) | (intro x h0 h1 h2; exact hS x h1 h2) | (intro x h0 h1 h2; have h3 : _ = _ := h2; subst h3; exact hSR h1.1) | (intro x h1 h2; have h3 : _ = _ := h2; subst h3; assumption) | (intro x h1 h2; have h3 : _ = _ := h2; exfalso; omega) | (intro b h1 h2 h3; have h4 : _ = _ := h3; (try dsimp only at h2); exfalso; omega) | (intro h1; have h2 : _ = _ := h1; exfalso; omega) | (intro h1; have h2 : _ ≤ _ := h1; exfalso; omega) | (intros; exfalso; (try dsimp only at *); omega) | (intro b h1 h2 h3; exfalso; have h4 := h3.2; (try dsimp only at *); omega) | (intro h1; exfalso; have h4 := h1.2; (try dsimp only at *); omega) | (intro x h1 h2; exfalso; have h4 := h2.2; (try dsimp only at *); omega) | (intro x h1 h2; exact ⟨_, rfl, h2⟩) | (intro x h1 h2; have h4 := h2.1; have h5 := h2.2; exfalso; omega) | (intro x h1 h2; exact h2.1) | (intro x h1 h2; rcases h2.1 with h3 | h3; exact h3; exfalso; omega) | (intro x h1 h2; rcases h2 with h3 | h3; exact h3; exfalso; omega))
          replace hw := hw.chg k_1 (by first | (intro x h1 h2; exact h2) | (intro x h0 h1 h2; exact hS x h1 h2) | (intro x h0 h1 h2; have h3 : _ = _ := h2; subst h3; exact hSR h1.1) | (intro x h1 h2; have h3 : _ = _ := h2; subst h3; assumption) | (intro x h1 h2; have h3 : _ = _ := h2; exfalso; omega) | (intro b h1 h2 h3; have h4 : _ = _ := h3; (try dsimp only at h2); exfalso; omega) | (intro h1; have h2 : _ = _ := h1; exfalso; omega) | (intro h1; have h2 : _ ≤ _ := h1; exfalso; omega) | (intros; exfalso; (try dsimp only at *); omega) | (intro b h1 h2 h3; exfalso; have h4 := h3.2; (try dsimp only at *); omega) | (intro h1; exfalso; have h4 := h1.2; (try dsimp only at *); omega) | (intro x h1 h2; exfalso; have h4 := h2.2; (try dsimp only at *); omega) | (intro x h1 h2; exact ⟨_, rfl, h2⟩) | (intro x h1 h2; have h4 := h2.1; have h5 := h2.2; exfalso; omega) | (intro x h1 h2; exact h2.1) | (intro x h1 h2; rcases h2.1 with h3 | h3; exact h3; exfalso; omega) | (intro x h1 h2; rcases h2 with h3 | h3; exact h3; exfalso; omega))
          replace hB := hn_1
          refine WL.nil (WX.then_normal (WC.seq (WC.region (WL.assign rfl rfl (WL.nil (WX.then_normal (WC.ret (?_))))))))
          refine WX.ret1 (.inl rfl) Tryd.results45 rfl ?_
          first
            | (exfalso; cases hc20; done)
            | (exfalso; rw [hb7] at hc24; cases hc24; done)
            | (refine ⟨_, rfl, ?_, ⟨aR, hsok, m, ga, gc, wa, wc, ws, ls, Eq.mp (congrArg (Blk _ R 86) ?_) hB, ?_, ?_, ?_⟩, hw, by omega⟩
               ·
                 congr 1
                 simp [offS, *]
               ·
                 simp [rcells, spendS, offS, *]
               ·
                 refine (show (spendS s).gone = s.gone from ?_) ▸ hI.mono (fun b hb => hb.1)
                 unfold spendS
                 split <;> rfl
               ·
                 rw [← hls]
                 unfold spendS
                 split <;> rfl
               ·
                 rw [← hws]
                 unfold spendS
                 split <;> rfl)
        ·
          refine WC.skip (WX.then_normal (WC.seq (WC.region (WL.assign rfl rfl (WL.nil (WX.then_normal (WC.ret (?_))))))))
          refine WX.ret1 (.inl rfl) Tryd.results45 rfl ?_
          first
            | (exfalso; cases hc20; done)
            | (exfalso; rw [hb7] at hc24; cases hc24; done)
            | (refine ⟨_, rfl, ?_, ⟨aR, hsok, m, ga, gc, wa, wc, ws, ls, Eq.mp (congrArg (Blk _ R 86) ?_) hB, ?_, ?_, ?_⟩, hw, by omega⟩
               ·
                 congr 1
                 simp [offS, *]
               ·
                 simp [rcells, spendS, offS, *]
               ·
                 refine (show (spendS s).gone = s.gone from ?_) ▸ hI.mono (fun b hb => hb.1)
                 unfold spendS
                 split <;> rfl
               ·
                 rw [← hls]
                 unfold spendS
                 split <;> rfl
               ·
                 rw [← hws]
                 unfold spendS
                 split <;> rfl)
  ·
    refine WL.pass rfl rfl rfl rfl (WL.pass rfl rfl rfl rfl (WL.pass rfl rfl rfl rfl (WL.pass rfl rfl rfl rfl (WL.pass rfl rfl rfl rfl (WL.pickF rfl rfl rfl (WL.nil (WX.then_normal (?_))))))))
    refine WC.cond_false rfl (WC.skip (WX.then_normal (WC.seq (WC.seq (WC.region (WL.move rfl rfl (WL.nilCheck rfl rfl (?_))))))))
    refine WL.fieldAddr (fld_86_5) rfl rfl (WL.loadB Tryd.isAgg4 hB rfl rfl rfl (WL.nil (WX.then_normal (?_))))
    first | refine WC.cond_dec rfl (fun hc20 => ?_) (fun hc20 => ?_) | refine WC.cond_split rfl (fun hc20 => ?_) (fun hc20 => ?_)
    ·
      refine WC.seq (WC.region (WL.assign rfl rfl (WL.nil (WX.then_normal (WC.ret (WX.then_ret (?_)))))))
      refine WX.ret1 (.inl rfl) Tryd.results45 rfl ?_
      first
        | (exfalso; cases hc20; done)
        | (exfalso; rw [hb7] at hc24; cases hc24; done)
        | (refine ⟨_, rfl, ?_, ⟨aR, hsok, m, ga, gc, wa, wc, ws, ls, Eq.mp (congrArg (Blk _ R 86) ?_) hB, ?_, ?_, ?_⟩, hw, by omega⟩
           ·
             congr 1
             simp [offS, *]
           ·
             simp [rcells, spendS, offS, *]
           ·
             refine (show (spendS s).gone = s.gone from ?_) ▸ hI.mono (fun b hb => hb.1)
             unfold spendS
             split <;> rfl
           ·
             rw [← hls]
             unfold spendS
             split <;> rfl
           ·
             rw [← hws]
             unfold spendS
             split <;> rfl)
    ·
      refine WC.skip (WX.then_normal (WC.seq (WC.seq (WC.region (WL.move rfl rfl (WL.nilCheck rfl rfl (WL.fieldAddr (fld_86_6) rfl rfl (?_))))))))
      refine WL.loadB Tryd.isAgg4 hB rfl rfl rfl (WL.nil (WX.then_normal (?_)))
      first | refine WC.cond_dec rfl (fun hc24 => ?_) (fun hc24 => ?_) | refine WC.cond_split rfl (fun hc24 => ?_) (fun hc24 => ?_)
      ·
        refine WC.region (WL.move rfl rfl (WL.nilCheck rfl rfl (WL.fieldAddr (fld_86_7) rfl rfl (WL.loadB Tryd.isAgg3 hB rfl rfl rfl (?_)))))
        have hl0 := hok.lf.1 hc24
        have hl1 := hok.lf.2.2
        refine WL.sub64 rfl rfl (by constructor <;> omega) rfl ?_
        refine WL.nilCheck rfl rfl (WL.fieldAddr (fld_86_7) rfl rfl (?_))
        refine WL.store Tryd.sizeOf3 hB rfl rfl rfl rfl ?_
        intro w_1 hs_1 hn_1 k_1
        have zs_k_1 := k_1.size
        replace hI := hI.chg k_1 (by first | (intro x h1 h2; exact h2) | (intro x h0 h1 h2; exact hS x h1 h2) | (intro x h0 h1 h2; have h3 : _ = _ := h2; subst h3; exact hSR h1.1) | (intro x h1 h2; have h3 : _ = _ := h2; subst h3; assumption) | (intro x h1 h2; have h3 : _ = _ := h2; exfalso; omega) | (intro b h1 h2 h3; have h4 : _ = _ := h3; (try dsimp only at h2); exfalso; omega) | (intro h1; have h2 : _ = _ := h1; exfalso; omega) | (intro h1; have h2 : _ ≤ _ := h1; exfalso; omega) | (intros; exfalso; (try dsimp only at *); omega) | (intro b h1 h2 h3; exfalso; have h4 := h3.2; (try dsimp only at *); omega) | (intro h1; exfalso; have h4 := h1.2; (try dsimp only at *); omega) | (intro x h1 h2; exfalso; have h4 := h2.2; (try dsimp only at *); omega) | (intro x h1 h2; exact ⟨_, rfl, h2⟩) | (intro x h1 h2; have h4 := h2.1; have h5 := h2.2; exfalso; omega) | (intro x h1 h2; exact h2.1) | (intro x h1 h2; rcases h2.1 with h3 | h3; exact h3; exfalso; omega) | (intro x h1 h2; rcases h2 with h3 | h3; exact h3; exfalso; omega))
        replace hw := hw.chg k_1 (by first | (intro x h1 h2; exact h2) | (intro x h0 h1 h2; exact hS x h1 h2) | (intro x h0 h1 h2; have h3 : _ = _ := h2; subst h3; exact hSR h1.1) | (intro x h1 h2; have h3 : _ = _ := h2; subst h3; assumption) | (intro x h1 h2; have h3 : _ = _ := h2; exfalso; omega) | (intro b h1 h2 h3; have h4 : _ = _ := h3; (try dsimp only at h2); exfalso; omega) | (intro h1; have h2 : _ = _ := h1; exfalso; omega) | (intro h1; have h2 : _ ≤ _ := h1; exfalso; omega) | (intros; exfalso; (try dsimp only at *); omega) | (intro b h1 h2 h3; exfalso; have h4 := h3.2; (try dsimp only at *); omega) | (intro h1; exfalso; have h4 := h1.2; (try dsimp only at *); omega) | (intro x h1 h2; exfalso; have h4 := h2.2; (try dsimp only at *); omega) | (intro x h1 h2; exact ⟨_, rfl, h2⟩) | (intro x h1 h2; have h4 := h2.1; have h5 := h2.2; exfalso; omega) | (intro x h1 h2; exact h2.1) | (intro x h1 h2; rcases h2.1 with h3 | h3; exact h3; exfalso; omega) | (intro x h1 h2; rcases h2 with h3 | h3; exact h3; exfalso; omega))
        replace hB := hn_1
        refine WL.nil (WX.then_normal (WC.seq (WC.region (WL.assign rfl rfl (WL.nil (WX.then_normal (WC.ret (?_))))))))
        refine WX.ret1 (.inl rfl) Tryd.results45 rfl ?_
        first
          | (exfalso; cases hc20; done)
          | (exfalso; rw [hb7] at hc24; cases hc24; done)
          | (refine ⟨_, rfl, ?_, ⟨aR, hsok, m, ga, gc, wa, wc, ws, ls, Eq.mp (congrArg (Blk _ R 86) ?_) hB, ?_, ?_, ?_⟩, hw, by omega⟩
             ·
               congr 1
               simp [offS, *]
             ·
               simp [rcells, spendS, offS, *]
             ·
               refine (show (spendS s).gone = s.gone from ?_) ▸ hI.mono (fun b hb => hb.1)
               unfold spendS
               split <;> rfl
             ·
               rw [← hls]
               unfold spendS
               split <;> rfl
             ·
               rw [← hws]
               unfold spendS
               split <;> rfl)
      ·
        refine WC.skip (WX.then_normal (WC.seq (WC.region (WL.assign rfl rfl (WL.nil (WX.then_normal (WC.ret (?_))))))))
        refine WX.ret1 (.inl rfl) Tryd.results45 rfl ?_
        first
          | (exfalso; cases hc20; done)
          | (exfalso; rw [hb7] at hc24; cases hc24; done)
          | (refine ⟨_, rfl, ?_, ⟨aR, hsok, m, ga, gc, wa, wc, ws, ls, Eq.mp (congrArg (Blk _ R 86) ?_) hB, ?_, ?_, ?_⟩, hw, by omega⟩
             ·
               congr 1
               simp [offS, *]
             ·
               simp [rcells, spendS, offS, *]
             ·
               refine (show (spendS s).gone = s.gone from ?_) ▸ hI.mono (fun b hb => hb.1)
               unfold spendS
               split <;> rfl
             ·
               rw [← hls]
               unfold spendS
               split <;> rfl
             ·
               rw [← hws]
               unfold spendS
               split <;> rfl)
end Go.Proofs.YtjeldcjchipdgaaDoor
namespace Go.Proofs.YtjeldcjchipdgaaDoor
open Go.RowKit Go.HL
set_option maxRecDepth 100000

/-! a write -/
theorem spendS_dn (s : RA) : (spendS s).dn = s.dn := by unfold spendS; split <;> rfl
theorem spendS_sn (s : RA) : (spendS s).sn = s.sn := by unfold spendS; split <;> rfl
theorem spendS_gone (s : RA) : (spendS s).gone = s.gone := by unfold spendS; split <;> rfl
theorem spendS_waits (s : RA) : (spendS s).waits = s.waits := by unfold spendS; split <;> rfl
theorem spendS_last (s : RA) : (spendS s).last = s.last := by unfold spendS; split <;> rfl
def writeE (s : RA) (d a : Int) (n : Nat) : Int := if ¬ inS s d a ∨ n ≠ 128 then 1 else if goneS s d = true then 3 else if offS s = true then 16 else 0
def writeS (s : RA) (d a : Int) (b : List UInt8) : RA := if writeE s d a b.length = 0 then { spendS s with waits := s.waits ++ [((d, a), b)] } else if writeE s d a b.length = 16 then spendS s else s
theorem writeE_0 {s : RA} {d a : Int} {n : Nat} : writeE s d a n = 0 ↔ inS s d a ∧ n = 128 ∧ goneS s d = false ∧ offS s = false := by
  unfold writeE
  by_cases h1 : inS s d a <;> by_cases h2 : n = 128 <;> cases h3 : goneS s d <;> cases h4 : offS s <;> simp [h1, h2]
theorem writeS_ok {s : RA} (h : s.ok) (d a : Int) (b : List UInt8) : (writeS s d a b).ok := by
  have h1 := spendS_ok h
  unfold writeS
  split
  · rename_i h2
    have hb := (writeE_0.1 h2).2.1
    refine ⟨h1.dn, h1.sn, h1.gl, h1.ll, fun p hp => ?_, h1.lf, h1.nd⟩
    rcases List.mem_append.1 hp with h3 | h3
    · exact h.lw p h3
    · simp at h3
      rw [h3]
      exact hb
  · split
    · exact h1
    · exact h
theorem Write_calls {A S : Nat → Prop} {w : World} {R : Nat} {s : RA} (h : RK A w R s) (d a : Int) {ao : Option Addr} {c : Nat} {b : List UInt8} (hb : RSl S w eb ao c b) (hS : ∀ x, S x → x = R → False) (hn : s.waits.length ≤ 100000) :
    Calls Tryd.prog 44 [ptr R, vi d, vi a, .slice ao b.length c].toArray w (Ret fun v w' => v = vi (writeE s d a b.length) ∧ RK (fun x => A x ∨ w.heap.size ≤ x) w' R (writeS s d a b) ∧ Chg A w w') := by
  have aR := h.aR
  have hok := h.ok
  have hwok := writeS_ok h.ok d a b
  have hcap := hb.cap
  have hlen : b.length ≤ 140737488355328 ∨ 140737488355328 < b.length := by omega
  have hw := Chg.refl A w
  refine Calls.of_WC Tryd.func44 rfl Tryd.ntmps44 (by simp) ?_
  refine WC.seq (WC.region (WL.assign rfl rfl (WL.nil (WX.then_normal (WC.seq (WC.block (WC.seq (?_))))))))
  refine WC.region (WL.move rfl rfl (WL.move rfl rfl (WL.move rfl rfl (?_))))
  refine WL.call eg_46 rfl rfl (in_calls h d a) ?_
  rintro v w1 ⟨rfl, k1⟩
  have zs_k1 := k1.size
  replace h := h.pure k1
  replace hb := hb.pure k1
  replace hw := hw.pure k1
  by_cases h12 : inS s d a
  ·
    rw [show decide (0 ≤ d ∧ d < (s.dn : Int) ∧ 0 ≤ a ∧ a < (s.sn : Int)) = true from decide_eq_true h12]
    refine WL.not rfl rfl (WL.move rfl rfl (WL.want rfl rfl rfl (WL.move rfl rfl (WL.want rfl rfl rfl (WL.len Tryd.underlying26 rfl rfl (WL.want rfl rfl rfl (?_)))))))
    refine WL.neq? rfl rfl rfl (fun h18 => ?_) (fun h18 => ?_)
    ·
      refine WL.pickF rfl rfl rfl (WL.assign rfl rfl (WL.nil (WX.then_normal (WC.cond_true rfl (WC.seq (WC.region (WL.assign rfl rfl (?_))))))))
      refine WL.nil (WX.then_normal (WC.ret (WX.block_ret (WX.then_ret (?_)))))
      refine WX.ret1 (.inl rfl) Tryd.results44 rfl ?_
      first
        | (have hh : (b.length : Int) ≠ 128 := h18
           have hh2 : b.length ≠ 128 := by omega
           exact ⟨_, rfl, by simp [writeE, hh2], by rw [show writeS s d a b = s from by simp [writeS, writeE, hh2]]; exact h.mono (fun x hx => .inl hx), hw⟩)
        | (have hh : ¬ inS s d a := h12
           exact ⟨_, rfl, by simp [writeE, h12], by rw [show writeS s d a b = s from by simp [writeS, writeE, h12]]; exact h.mono (fun x hx => .inl hx), hw⟩)
        | (have hh : goneS s d = true := hg
           have hh2 : b.length = 128 := by omega
           exact ⟨_, rfl, by simp [writeE, h12, hh2, hg], by rw [show writeS s d a b = s from by simp [writeS, writeE, h12, hh2, hg]]; exact h.mono (fun x hx => .inl hx), hw⟩)
        | (have hh : offS s = true := ho
           have hh2 : b.length = 128 := by omega
           exact ⟨_, rfl, by simp [writeE, h12, hh2, hg, ho], by rw [show writeS s d a b = spendS s from by simp [writeS, writeE, h12, hh2, hg, ho]]; exact h2.mono (fun x hx => .inl hx), hw⟩)
        | (have hh2 : b.length = 128 := by omega
           have e0 : writeE s d a b.length = 0 := by simp [writeE, h12, hh2, hg, ho]
           refine ⟨_, rfl, by rw [e0], ⟨aR2, hwok, m, ga, gc, ao9, c9, ws ++ [((d, a), ⟨some ⟨gq, 0, none⟩, cq, b⟩)], ls, Eq.mp (congrArg (Blk _ R 86) ?_) hB, ?_, ?_, ?_⟩, hw⟩
           ·
             simp [writeS, e0]
           ·
             simp only [writeS, e0, if_true]
             exact hI9.mono (fun x hx => hx.1)
           ·
             simp only [writeS, e0, if_true]
             exact hls
           ·
             simp only [writeS, e0, if_true]
             rw [spendS_waits] at hws
             rw [hws]
             simp [xsm])
    ·
      refine WL.pickF rfl rfl rfl (WL.assign rfl rfl (WL.nil (WX.then_normal (WC.cond_false rfl (WC.seq (WC.region (WL.move rfl rfl (?_))))))))
      refine WL.nilCheck rfl rfl (WL.fieldAddr (fld_86_3) rfl rfl (?_))
      obtain ⟨m, ga, gc, wa, wc, ws, ls, hB, hI, -⟩ := h.ex
      refine WL.loadB Tryd.isAgg67 hB rfl rfl rfl ?_
      refine WL.move rfl rfl (?_)
      have hgd := goneS_at h.ok (d := d) ⟨h12.1, h12.2.1⟩
      refine WL.indexT (e := ebool) Tryd.underlying67 Tryd.sizeOf4 hI.gone.rsl rfl rfl ⟨hgd, by have := h12.1; omega⟩ rfl ?_
      intro bb oo hcc
      refine WL.load Tryd.isAgg4 rfl (hcc 0 _ rfl) rfl ?_
      rcases hg : goneS s d with _ | _
      ·
        refine WL.assign rfl rfl (WL.nil (WX.then_normal (WC.cond_false rfl (WC.seq (WC.region (WL.move rfl rfl (?_)))))))
        clear hB hI hcc
        refine WL.call eg_45 rfl rfl (spend_calls h) ?_
        rintro v w2 ⟨rfl, h2, k2, z2⟩
        have zs_k2 := k2.size
        replace hb := hb.chg k2 (by first | (intro x h1 h2; exact h2) | (intro x h0 h1 h2; exact hS x h1 h2) | (intro x h0 h1 h2; have h3 : _ = _ := h2; subst h3; exact hSR h1.1) | (intro x h1 h2; have h3 : _ = _ := h2; subst h3; assumption) | (intro x h1 h2; have h3 : _ = _ := h2; exfalso; omega) | (intro b h1 h2 h3; have h4 : _ = _ := h3; (try dsimp only at h2); exfalso; omega) | (intro h1; have h2 : _ = _ := h1; exfalso; omega) | (intro h1; have h2 : _ ≤ _ := h1; exfalso; omega) | (intros; exfalso; (try dsimp only at *); omega) | (intro b h1 h2 h3; exfalso; have h4 := h3.2; (try dsimp only at *); omega) | (intro h1; exfalso; have h4 := h1.2; (try dsimp only at *); omega) | (intro x h1 h2; exfalso; have h4 := h2.2; (try dsimp only at *); omega) | (intro x h1 h2; exact ⟨_, rfl, h2⟩) | (intro x h1 h2; have h4 := h2.1; have h5 := h2.2; exfalso; omega) | (intro x h1 h2; exact h2.1) | (intro x h1 h2; rcases h2.1 with h3 | h3; exact h3; exfalso; omega) | (intro x h1 h2; rcases h2 with h3 | h3; exact h3; exfalso; omega))
        replace hw := hw.chg k2 (by first | (intro x h1 h2; exact h2) | (intro x h0 h1 h2; exact hS x h1 h2) | (intro x h0 h1 h2; have h3 : _ = _ := h2; subst h3; exact hSR h1.1) | (intro x h1 h2; have h3 : _ = _ := h2; subst h3; assumption) | (intro x h1 h2; have h3 : _ = _ := h2; exfalso; omega) | (intro b h1 h2 h3; have h4 : _ = _ := h3; (try dsimp only at h2); exfalso; omega) | (intro h1; have h2 : _ = _ := h1; exfalso; omega) | (intro h1; have h2 : _ ≤ _ := h1; exfalso; omega) | (intros; exfalso; (try dsimp only at *); omega) | (intro b h1 h2 h3; exfalso; have h4 := h3.2; (try dsimp only at *); omega) | (intro h1; exfalso; have h4 := h1.2; (try dsimp only at *); omega) | (intro x h1 h2; exfalso; have h4 := h2.2; (try dsimp only at *); omega) | (intro x h1 h2; exact ⟨_, rfl, h2⟩) | (intro x h1 h2; have h4 := h2.1; have h5 := h2.2; exfalso; omega) | (intro x h1 h2; exact h2.1) | (intro x h1 h2; rcases h2.1 with h3 | h3; exact h3; exfalso; omega) | (intro x h1 h2; rcases h2 with h3 | h3; exact h3; exfalso; omega))
        rcases ho : offS s with _ | _
        ·
          refine WL.not rfl rfl (WL.assign rfl rfl (WL.nil (WX.then_normal (WC.cond_false rfl (WC.skip (WX.block_normal (WX.then_normal (?_))))))))
          refine WC.seq (?_)
          obtain ⟨m, ga, gc, wa, wc, ws, ls, hB, hI, hls, hws⟩ := h2.ex
          replace hI := (hI.open hB).mono (S' := fun x => (A x ∨ w.heap.size ≤ x) ∧ x ≠ R) (fun x hx => ⟨.inl hx.1, hx.2⟩)
          have aR2 : A R ∨ w.heap.size ≤ R := .inl aR
          have lR := hB.lt
          have zw := hw.size
          have hwl : ws.length ≤ 100000 := by rw [← xsm_len, ← hws, spendS_waits]; exact hn
          refine WC.drawM ((fun x => A x ∨ w.heap.size ≤ x)) [0, 1, 2, 3, 5, 6, 7, 8, 13, 14] [4, 9, 10, 11, 12, 15] mixed rfl rfl (fun wd_1 kd_1 zd_1 => ?_)
          have zs_kd_1 := kd_1.size
          replace hb := hb.pure kd_1
          replace hw := hw.pure kd_1
          replace hB := hB.pure kd_1
          replace hI := hI.pure kd_1
          apply DQT.step (E' := [(0, _)])
          case ho => rfl
          case hs => exact ⟨rfl, trivial⟩
          case hk => rfl
          case h1 =>
            intro wq_3 kq_3
            refine WL.move rfl rfl (?_)
            refine WL.nil ?_
            exact WX.one ⟨rfl, by first | exact Chg.refl _ _ | assumption⟩
          apply DQT.step (E' := [(0, _)])
          case ho => rfl
          case hs => exact ⟨rfl, trivial⟩
          case hk => rfl
          case h1 =>
            intro wq_4 kq_4
            refine WL.move rfl rfl (?_)
            refine WL.nil ?_
            exact WX.one ⟨rfl, by first | exact Chg.refl _ _ | assumption⟩
          apply DQT.step (E' := [(33, _)])
          case ho => rfl
          case hs => exact ⟨rfl, trivial⟩
          case hk => rfl
          case h1 =>
            intro wq_5 kq_5
            refine WL.nilCheck rfl rfl (?_)
            refine WL.nil ?_
            exact WX.one ⟨rfl, by first | exact Chg.refl _ _ | assumption⟩
          apply DQT.step (E' := [(34, _)])
          case ho => rfl
          case hs => exact ⟨rfl, trivial⟩
          case hk => rfl
          case h1 =>
            intro wq_6 kq_6
            refine WL.fieldAddr (fld_86_4) rfl rfl (?_)
            refine WL.nil ?_
            exact WX.one ⟨rfl, by first | exact Chg.refl _ _ | assumption⟩
          apply DQT.step (E' := [(1, _)])
          case ho => rfl
          case hs => exact ⟨rfl, trivial⟩
          case hk => rfl
          case h1 =>
            intro wq_7 kq_7
            refine WL.move rfl rfl (?_)
            refine WL.nil ?_
            exact WX.one ⟨rfl, by first | exact Chg.refl _ _ | assumption⟩
          apply DQT.step (E' := [(2, _)])
          case ho => rfl
          case hs => exact ⟨rfl, trivial⟩
          case hk => rfl
          case h1 =>
            intro wq_8 kq_8
            refine WL.move rfl rfl (?_)
            refine WL.nil ?_
            exact WX.one ⟨rfl, by first | exact Chg.refl _ _ | assumption⟩
          apply DQT.step (E' := [(37, _), (38, _)])
          case ho => rfl
          case hs => exact ⟨rfl, rfl, trivial⟩
          case hk => rfl
          case h1 =>
            intro wq_9 kq_9
            refine WL.bld rfl (bld_90_0_1 _ _) rfl (?_)
            refine WL.nil ?_
            exact WX.one ⟨rfl, by first | exact Chg.refl _ _ | assumption⟩
          apply DQT.step (E' := [(3, _)])
          case ho => rfl
          case hs => exact ⟨rfl, trivial⟩
          case hk => rfl
          case h1 =>
            intro wq_10 kq_10
            refine WL.move rfl rfl (?_)
            refine WL.nil ?_
            exact WX.one ⟨rfl, by first | exact Chg.refl _ _ | assumption⟩
          apply DQT.step (E' := [(32, _)])
          case ho => rfl
          case hs => exact ⟨rfl, trivial⟩
          case hk => rfl
          case h1 =>
            intro wq_11 kq_11
            refine WL.nilCheck rfl rfl (?_)
            refine WL.nil ?_
            exact WX.one ⟨rfl, by first | exact Chg.refl _ _ | assumption⟩
          apply DQT.step (E' := [(45, _)])
          case ho => rfl
          case hs => exact ⟨rfl, trivial⟩
          case hk => rfl
          case h1 =>
            intro wq_12 kq_12
            refine WL.fieldAddr (fld_86_4) rfl rfl (?_)
            refine WL.nil ?_
            exact WX.one ⟨rfl, by first | exact Chg.refl _ _ | assumption⟩
          refine DQT.done (fun hd_2 => ?_)
          refine ⟨?_, ?_, trivial, trivial, trivial, trivial, trivial⟩
          refine DT.step [(35, _)] rfl ⟨rfl, trivial⟩ rfl (fun wq_13 kq_13 => ?_)
          have zs_kq_13 := kq_13.size
          replace hb := hb.pure kq_13
          replace hw := hw.pure kq_13
          replace hB := hB.pure kq_13
          replace hI := hI.pure kq_13
          replace hd_2 := hd_2.pure kq_13
          refine WL.loadB Tryd.isAgg84 hB rfl rfl rfl (?_)
          refine WL.nil (WX.one ⟨hd_2, ?_⟩)
          refine ⟨?_, trivial, trivial, trivial, trivial, trivial⟩
          refine DT.step [(40, _)] rfl ⟨rfl, trivial⟩ rfl (fun wq_14 kq_14 => ?_)
          have zs_kq_14 := kq_14.size
          replace hb := hb.pure kq_14
          replace hw := hw.pure kq_14
          replace hB := hB.pure kq_14
          replace hI := hI.pure kq_14
          replace hd_2 := hd_2.pure kq_14
          refine WL.call eg_47 rfl rfl (bclone_calls hb (by omega)) ?_
          rintro v w3 ⟨⟨gq, cq, rfl, hq, hq1, hq2⟩, k3⟩
          have zs_k3 := k3.size
          replace hb := hb.pure k3
          replace hw := hw.pure k3
          replace hB := hB.pure k3
          replace hI := hI.pure k3
          replace hd_2 := hd_2.pure k3
          refine WL.nil (WX.one ⟨hd_2, ?_⟩)
          refine ⟨?_, trivial, trivial, trivial, trivial⟩
          refine DT.step [(39, _), (41, _)] rfl ⟨rfl, rfl, trivial⟩ rfl (fun wq_15 kq_15 => ?_)
          have zs_kq_15 := kq_15.size
          replace hb := hb.pure kq_15
          replace hw := hw.pure kq_15
          replace hB := hB.pure kq_15
          replace hI := hI.pure kq_15
          replace hd_2 := hd_2.pure kq_15
          replace hq := hq.pure kq_15
          refine WL.bld rfl (bld_92_0_1 _ _ _ _ _) rfl (?_)
          refine WL.nil (WX.one ⟨hd_2, ?_⟩)
          refine ⟨?_, trivial, trivial, trivial⟩
          refine DT.step [(42, _)] rfl ⟨rfl, trivial⟩ rfl (fun wq_16 kq_16 => ?_)
          have zs_kq_16 := kq_16.size
          replace hb := hb.pure kq_16
          replace hw := hw.pure kq_16
          replace hB := hB.pure kq_16
          replace hI := hI.pure kq_16
          replace hd_2 := hd_2.pure kq_16
          replace hq := hq.pure kq_16
          refine WL.build (e := ewr) [((d, a), ⟨some ⟨gq, 0, none⟩, cq, b⟩)] Tryd.underlying84 Tryd.sizeOf92 Tryd.zeroValue92 rfl rfl rfl (by first | (simp [Value.cells]; done) | (simp [Value.cells] <;> rfl) | (simp [Value.cells, eb, ei, es, ebool, e32, e64]; done) | (simp [Value.cells] <;> (repeat' apply And.intro) <;> rfl)) (by decide) rfl ?_
          intro a_b43 w_b43 b43 l_b43 z_b43 k_b43
          have zs_k_b43 := k_b43.size
          replace hb := hb.pure k_b43
          replace hw := hw.pure k_b43
          replace hB := hB.pure k_b43
          replace hI := hI.pure k_b43
          replace hd_2 := hd_2.pure k_b43
          replace hq := hq.pure k_b43
          refine WL.nil (WX.one ⟨hd_2, ?_⟩)
          refine ⟨?_, trivial, trivial⟩
          refine DT.step [(36, _), (43, _)] rfl ⟨rfl, rfl, trivial⟩ rfl (fun wq_17 kq_17 => ?_)
          have zs_kq_17 := kq_17.size
          replace hb := hb.pure kq_17
          replace hw := hw.pure kq_17
          replace hB := hB.pure kq_17
          replace hI := hI.pure kq_17
          replace hd_2 := hd_2.pure kq_17
          replace hq := hq.pure kq_17
          replace b43 := b43.pure kq_17
          refine WL.append (e := ewr) info_92 rfl Tryd.underlying84 rfl rfl hI.waits (b43.rsl.src Tryd.underlying84) (by constructor <;> (simp only [List.length_cons, List.length_nil]; omega)) (fun x hx => ⟨.inr (by omega), by omega⟩) rfl ?_
          intro ao9 c9 w9 hb9 gg9 n9
          have hq9 : Row (fun x => (A x ∨ w.heap.size ≤ x) ∧ x ≠ R) _ 5 eb (some ⟨gq, 0, none⟩) cq b := hq.mono (fun x hx => ⟨.inr (by omega), by omega⟩)
          have hI9 := hI.setWaits hb9 gg9.chg (fun x hx => hx.1) (fun p hp => by
            rcases List.mem_append.1 hp with h3 | h3
            ·
              exact .inl ⟨p, h3, rfl⟩
            ·
              simp at h3
              right
              rw [h3]
              exact hq9)
          have gk : Chg (fun x => (A x ∨ w.heap.size ≤ x) ∧ x ≠ R) _ w9 := gg9.chg.mono (fun x _ hx => hx.2)
          have zs_gk := gk.size
          replace hw := hw.chg gk (by first | (intro x h1 h2; exact h2) | (intro x h0 h1 h2; exact hS x h1 h2) | (intro x h0 h1 h2; have h3 : _ = _ := h2; subst h3; exact hSR h1.1) | (intro x h1 h2; have h3 : _ = _ := h2; subst h3; assumption) | (intro x h1 h2; have h3 : _ = _ := h2; exfalso; omega) | (intro b h1 h2 h3; have h4 : _ = _ := h3; (try dsimp only at h2); exfalso; omega) | (intro h1; have h2 : _ = _ := h1; exfalso; omega) | (intro h1; have h2 : _ ≤ _ := h1; exfalso; omega) | (intros; exfalso; (try dsimp only at *); omega) | (intro b h1 h2 h3; exfalso; have h4 := h3.2; (try dsimp only at *); omega) | (intro h1; exfalso; have h4 := h1.2; (try dsimp only at *); omega) | (intro x h1 h2; exfalso; have h4 := h2.2; (try dsimp only at *); omega) | (intro x h1 h2; exact ⟨_, rfl, h2⟩) | (intro x h1 h2; have h4 := h2.1; have h5 := h2.2; exfalso; omega) | (intro x h1 h2; exact h2.1) | (intro x h1 h2; rcases h2.1 with h3 | h3; exact h3; exfalso; omega) | (intro x h1 h2; rcases h2 with h3 | h3; exact h3; exfalso; omega))
          replace hB := hB.chg gk (by first | (intro x h1 h2; exact h2) | (intro x h0 h1 h2; exact hS x h1 h2) | (intro x h0 h1 h2; have h3 : _ = _ := h2; subst h3; exact hSR h1.1) | (intro x h1 h2; have h3 : _ = _ := h2; subst h3; assumption) | (intro x h1 h2; have h3 : _ = _ := h2; exfalso; omega) | (intro b h1 h2 h3; have h4 : _ = _ := h3; (try dsimp only at h2); exfalso; omega) | (intro h1; have h2 : _ = _ := h1; exfalso; omega) | (intro h1; have h2 : _ ≤ _ := h1; exfalso; omega) | (intros; exfalso; (try dsimp only at *); omega) | (intro b h1 h2 h3; exfalso; have h4 := h3.2; (try dsimp only at *); omega) | (intro h1; exfalso; have h4 := h1.2; (try dsimp only at *); omega) | (intro x h1 h2; exfalso; have h4 := h2.2; (try dsimp only at *); omega) | (intro x h1 h2; exact ⟨_, rfl, h2⟩) | (intro x h1 h2; have h4 := h2.1; have h5 := h2.2; exfalso; omega) | (intro x h1 h2; exact h2.1) | (intro x h1 h2; rcases h2.1 with h3 | h3; exact h3; exfalso; omega) | (intro x h1 h2; rcases h2 with h3 | h3; exact h3; exfalso; omega))
          replace hd_2 := hd_2.chg gk (by first | (intro x h1 h2; exact h2) | (intro x h0 h1 h2; exact hS x h1 h2) | (intro x h0 h1 h2; have h3 : _ = _ := h2; subst h3; exact hSR h1.1) | (intro x h1 h2; have h3 : _ = _ := h2; subst h3; assumption) | (intro x h1 h2; have h3 : _ = _ := h2; exfalso; omega) | (intro b h1 h2 h3; have h4 : _ = _ := h3; (try dsimp only at h2); exfalso; omega) | (intro h1; have h2 : _ = _ := h1; exfalso; omega) | (intro h1; have h2 : _ ≤ _ := h1; exfalso; omega) | (intros; exfalso; (try dsimp only at *); omega) | (intro b h1 h2 h3; exfalso; have h4 := h3.2; (try dsimp only at *); omega) | (intro h1; exfalso; have h4 := h1.2; (try dsimp only at *); omega) | (intro x h1 h2; exfalso; have h4 := h2.2; (try dsimp only at *); omega) | (intro x h1 h2; exact ⟨_, rfl, h2⟩) | (intro x h1 h2; have h4 := h2.1; have h5 := h2.2; exfalso; omega) | (intro x h1 h2; exact h2.1) | (intro x h1 h2; rcases h2.1 with h3 | h3; exact h3; exfalso; omega) | (intro x h1 h2; rcases h2 with h3 | h3; exact h3; exfalso; omega))
          refine WL.nil (WX.one ⟨hd_2, ?_⟩)
          refine ⟨?_, trivial⟩
          refine DT.step [(46, _), (44, _)] rfl ⟨rfl, rfl, trivial⟩ rfl (fun wq_18 kq_18 => ?_)
          have zs_kq_18 := kq_18.size
          replace hw := hw.pure kq_18
          replace hB := hB.pure kq_18
          replace hd_2 := hd_2.pure kq_18
          replace hI9 := hI9.pure kq_18
          refine WL.store Tryd.sizeOf84 hB rfl rfl rfl rfl ?_
          intro w_19 hs_19 hn_19 k_19
          have zs_k_19 := k_19.size
          replace hw := hw.chg k_19 (by first | (intro x h1 h2; exact h2) | (intro x h0 h1 h2; exact hS x h1 h2) | (intro x h0 h1 h2; have h3 : _ = _ := h2; subst h3; exact hSR h1.1) | (intro x h1 h2; have h3 : _ = _ := h2; subst h3; assumption) | (intro x h1 h2; have h3 : _ = _ := h2; exfalso; omega) | (intro b h1 h2 h3; have h4 : _ = _ := h3; (try dsimp only at h2); exfalso; omega) | (intro h1; have h2 : _ = _ := h1; exfalso; omega) | (intro h1; have h2 : _ ≤ _ := h1; exfalso; omega) | (intros; exfalso; (try dsimp only at *); omega) | (intro b h1 h2 h3; exfalso; have h4 := h3.2; (try dsimp only at *); omega) | (intro h1; exfalso; have h4 := h1.2; (try dsimp only at *); omega) | (intro x h1 h2; exfalso; have h4 := h2.2; (try dsimp only at *); omega) | (intro x h1 h2; exact ⟨_, rfl, h2⟩) | (intro x h1 h2; have h4 := h2.1; have h5 := h2.2; exfalso; omega) | (intro x h1 h2; exact h2.1) | (intro x h1 h2; rcases h2.1 with h3 | h3; exact h3; exfalso; omega) | (intro x h1 h2; rcases h2 with h3 | h3; exact h3; exfalso; omega))
          replace hd_2 := hd_2.chg k_19 (by first | (intro x h1 h2; exact h2) | (intro x h0 h1 h2; exact hS x h1 h2) | (intro x h0 h1 h2; have h3 : _ = _ := h2; subst h3; exact hSR h1.1) | (intro x h1 h2; have h3 : _ = _ := h2; subst h3; assumption) | (intro x h1 h2; have h3 : _ = _ := h2; exfalso; omega) | (intro b h1 h2 h3; have h4 : _ = _ := h3; (try dsimp only at h2); exfalso; omega) | (intro h1; have h2 : _ = _ := h1; exfalso; omega) | (intro h1; have h2 : _ ≤ _ := h1; exfalso; omega) | (intros; exfalso; (try dsimp only at *); omega) | (intro b h1 h2 h3; exfalso; have h4 := h3.2; (try dsimp only at *); omega) | (intro h1; exfalso; have h4 := h1.2; (try dsimp only at *); omega) | (intro x h1 h2; exfalso; have h4 := h2.2; (try dsimp only at *); omega) | (intro x h1 h2; exact ⟨_, rfl, h2⟩) | (intro x h1 h2; have h4 := h2.1; have h5 := h2.2; exfalso; omega) | (intro x h1 h2; exact h2.1) | (intro x h1 h2; rcases h2.1 with h3 | h3; exact h3; exfalso; omega) | (intro x h1 h2; rcases h2 with h3 | h3; exact h3; exfalso; omega))
          replace hI9 := hI9.chg k_19 (by first | (intro x h1 h2; exact h2) | (intro x h0 h1 h2; exact hS x h1 h2) | (intro x h0 h1 h2; have h3 : _ = _ := h2; subst h3; exact hSR h1.1) | (intro x h1 h2; have h3 : _ = _ := h2; subst h3; assumption) | (intro x h1 h2; have h3 : _ = _ := h2; exfalso; omega) | (intro b h1 h2 h3; have h4 : _ = _ := h3; (try dsimp only at h2); exfalso; omega) | (intro h1; have h2 : _ = _ := h1; exfalso; omega) | (intro h1; have h2 : _ ≤ _ := h1; exfalso; omega) | (intros; exfalso; (try dsimp only at *); omega) | (intro b h1 h2 h3; exfalso; have h4 := h3.2; (try dsimp only at *); omega) | (intro h1; exfalso; have h4 := h1.2; (try dsimp only at *); omega) | (intro x h1 h2; exfalso; have h4 := h2.2; (try dsimp only at *); omega) | (intro x h1 h2; exact ⟨_, rfl, h2⟩) | (intro x h1 h2; have h4 := h2.1; have h5 := h2.2; exfalso; omega) | (intro x h1 h2; exact h2.1) | (intro x h1 h2; rcases h2.1 with h3 | h3; exact h3; exfalso; omega) | (intro x h1 h2; rcases h2 with h3 | h3; exact h3; exfalso; omega))
          replace hB := hn_19
          refine WL.nil (WX.one0 (v := undef) ⟨hd_2, ?_⟩)
          refine DT.done (fun we_20 ke_20 => ?_) _
          have zs_ke_20 := ke_20.size
          replace hw := hw.pure ke_20
          replace hB := hB.pure ke_20
          replace hd_2 := hd_2.pure ke_20
          replace hI9 := hI9.pure ke_20
          rotate_left
          refine DT.step [(40, _)] rfl ⟨rfl, trivial⟩ rfl (fun wq_13 kq_13 => ?_)
          have zs_kq_13 := kq_13.size
          replace hb := hb.pure kq_13
          replace hw := hw.pure kq_13
          replace hB := hB.pure kq_13
          replace hI := hI.pure kq_13
          replace hd_2 := hd_2.pure kq_13
          refine WL.call eg_47 rfl rfl (bclone_calls hb (by omega)) ?_
          rintro v w3 ⟨⟨gq, cq, rfl, hq, hq1, hq2⟩, k3⟩
          have zs_k3 := k3.size
          replace hb := hb.pure k3
          replace hw := hw.pure k3
          replace hB := hB.pure k3
          replace hI := hI.pure k3
          replace hd_2 := hd_2.pure k3
          refine WL.nil (WX.one ⟨hd_2, ?_⟩)
          refine ⟨?_, ?_, trivial, trivial, trivial, trivial⟩
          refine DT.step [(35, _)] rfl ⟨rfl, trivial⟩ rfl (fun wq_14 kq_14 => ?_)
          have zs_kq_14 := kq_14.size
          replace hb := hb.pure kq_14
          replace hw := hw.pure kq_14
          replace hB := hB.pure kq_14
          replace hI := hI.pure kq_14
          replace hd_2 := hd_2.pure kq_14
          replace hq := hq.pure kq_14
          refine WL.loadB Tryd.isAgg84 hB rfl rfl rfl (?_)
          refine WL.nil (WX.one ⟨hd_2, ?_⟩)
          refine ⟨?_, trivial, trivial, trivial, trivial⟩
          refine DT.step [(39, _), (41, _)] rfl ⟨rfl, rfl, trivial⟩ rfl (fun wq_15 kq_15 => ?_)
          have zs_kq_15 := kq_15.size
          replace hb := hb.pure kq_15
          replace hw := hw.pure kq_15
          replace hB := hB.pure kq_15
          replace hI := hI.pure kq_15
          replace hd_2 := hd_2.pure kq_15
          replace hq := hq.pure kq_15
          refine WL.bld rfl (bld_92_0_1 _ _ _ _ _) rfl (?_)
          refine WL.nil (WX.one ⟨hd_2, ?_⟩)
          refine ⟨?_, trivial, trivial, trivial⟩
          refine DT.step [(42, _)] rfl ⟨rfl, trivial⟩ rfl (fun wq_16 kq_16 => ?_)
          have zs_kq_16 := kq_16.size
          replace hb := hb.pure kq_16
          replace hw := hw.pure kq_16
          replace hB := hB.pure kq_16
          replace hI := hI.pure kq_16
          replace hd_2 := hd_2.pure kq_16
          replace hq := hq.pure kq_16
          refine WL.build (e := ewr) [((d, a), ⟨some ⟨gq, 0, none⟩, cq, b⟩)] Tryd.underlying84 Tryd.sizeOf92 Tryd.zeroValue92 rfl rfl rfl (by first | (simp [Value.cells]; done) | (simp [Value.cells] <;> rfl) | (simp [Value.cells, eb, ei, es, ebool, e32, e64]; done) | (simp [Value.cells] <;> (repeat' apply And.intro) <;> rfl)) (by decide) rfl ?_
          intro a_b43 w_b43 b43 l_b43 z_b43 k_b43
          have zs_k_b43 := k_b43.size
          replace hb := hb.pure k_b43
          replace hw := hw.pure k_b43
          replace hB := hB.pure k_b43
          replace hI := hI.pure k_b43
          replace hd_2 := hd_2.pure k_b43
          replace hq := hq.pure k_b43
          refine WL.nil (WX.one ⟨hd_2, ?_⟩)
          refine ⟨?_, trivial, trivial⟩
          refine DT.step [(36, _), (43, _)] rfl ⟨rfl, rfl, trivial⟩ rfl (fun wq_17 kq_17 => ?_)
          have zs_kq_17 := kq_17.size
          replace hb := hb.pure kq_17
          replace hw := hw.pure kq_17
          replace hB := hB.pure kq_17
          replace hI := hI.pure kq_17
          replace hd_2 := hd_2.pure kq_17
          replace hq := hq.pure kq_17
          replace b43 := b43.pure kq_17
          refine WL.append (e := ewr) info_92 rfl Tryd.underlying84 rfl rfl hI.waits (b43.rsl.src Tryd.underlying84) (by constructor <;> (simp only [List.length_cons, List.length_nil]; omega)) (fun x hx => ⟨.inr (by omega), by omega⟩) rfl ?_
          intro ao9 c9 w9 hb9 gg9 n9
          have hq9 : Row (fun x => (A x ∨ w.heap.size ≤ x) ∧ x ≠ R) _ 5 eb (some ⟨gq, 0, none⟩) cq b := hq.mono (fun x hx => ⟨.inr (by omega), by omega⟩)
          have hI9 := hI.setWaits hb9 gg9.chg (fun x hx => hx.1) (fun p hp => by
            rcases List.mem_append.1 hp with h3 | h3
            ·
              exact .inl ⟨p, h3, rfl⟩
            ·
              simp at h3
              right
              rw [h3]
              exact hq9)
          have gk : Chg (fun x => (A x ∨ w.heap.size ≤ x) ∧ x ≠ R) _ w9 := gg9.chg.mono (fun x _ hx => hx.2)
          have zs_gk := gk.size
          replace hw := hw.chg gk (by first | (intro x h1 h2; exact h2) | (intro x h0 h1 h2; exact hS x h1 h2) | (intro x h0 h1 h2; have h3 : _ = _ := h2; subst h3; exact hSR h1.1) | (intro x h1 h2; have h3 : _ = _ := h2; subst h3; assumption) | (intro x h1 h2; have h3 : _ = _ := h2; exfalso; omega) | (intro b h1 h2 h3; have h4 : _ = _ := h3; (try dsimp only at h2); exfalso; omega) | (intro h1; have h2 : _ = _ := h1; exfalso; omega) | (intro h1; have h2 : _ ≤ _ := h1; exfalso; omega) | (intros; exfalso; (try dsimp only at *); omega) | (intro b h1 h2 h3; exfalso; have h4 := h3.2; (try dsimp only at *); omega) | (intro h1; exfalso; have h4 := h1.2; (try dsimp only at *); omega) | (intro x h1 h2; exfalso; have h4 := h2.2; (try dsimp only at *); omega) | (intro x h1 h2; exact ⟨_, rfl, h2⟩) | (intro x h1 h2; have h4 := h2.1; have h5 := h2.2; exfalso; omega) | (intro x h1 h2; exact h2.1) | (intro x h1 h2; rcases h2.1 with h3 | h3; exact h3; exfalso; omega) | (intro x h1 h2; rcases h2 with h3 | h3; exact h3; exfalso; omega))
          replace hB := hB.chg gk (by first | (intro x h1 h2; exact h2) | (intro x h0 h1 h2; exact hS x h1 h2) | (intro x h0 h1 h2; have h3 : _ = _ := h2; subst h3; exact hSR h1.1) | (intro x h1 h2; have h3 : _ = _ := h2; subst h3; assumption) | (intro x h1 h2; have h3 : _ = _ := h2; exfalso; omega) | (intro b h1 h2 h3; have h4 : _ = _ := h3; (try dsimp only at h2); exfalso; omega) | (intro h1; have h2 : _ = _ := h1; exfalso; omega) | (intro h1; have h2 : _ ≤ _ := h1; exfalso; omega) | (intros; exfalso; (try dsimp only at *); omega) | (intro b h1 h2 h3; exfalso; have h4 := h3.2; (try dsimp only at *); omega) | (intro h1; exfalso; have h4 := h1.2; (try dsimp only at *); omega) | (intro x h1 h2; exfalso; have h4 := h2.2; (try dsimp only at *); omega) | (intro x h1 h2; exact ⟨_, rfl, h2⟩) | (intro x h1 h2; have h4 := h2.1; have h5 := h2.2; exfalso; omega) | (intro x h1 h2; exact h2.1) | (intro x h1 h2; rcases h2.1 with h3 | h3; exact h3; exfalso; omega) | (intro x h1 h2; rcases h2 with h3 | h3; exact h3; exfalso; omega))
          replace hd_2 := hd_2.chg gk (by first | (intro x h1 h2; exact h2) | (intro x h0 h1 h2; exact hS x h1 h2) | (intro x h0 h1 h2; have h3 : _ = _ := h2; subst h3; exact hSR h1.1) | (intro x h1 h2; have h3 : _ = _ := h2; subst h3; assumption) | (intro x h1 h2; have h3 : _ = _ := h2; exfalso; omega) | (intro b h1 h2 h3; have h4 : _ = _ := h3; (try dsimp only at h2); exfalso; omega) | (intro h1; have h2 : _ = _ := h1; exfalso; omega) | (intro h1; have h2 : _ ≤ _ := h1; exfalso; omega) | (intros; exfalso; (try dsimp only at *); omega) | (intro b h1 h2 h3; exfalso; have h4 := h3.2; (try dsimp only at *); omega) | (intro h1; exfalso; have h4 := h1.2; (try dsimp only at *); omega) | (intro x h1 h2; exfalso; have h4 := h2.2; (try dsimp only at *); omega) | (intro x h1 h2; exact ⟨_, rfl, h2⟩) | (intro x h1 h2; have h4 := h2.1; have h5 := h2.2; exfalso; omega) | (intro x h1 h2; exact h2.1) | (intro x h1 h2; rcases h2.1 with h3 | h3; exact h3; exfalso; omega) | (intro x h1 h2; rcases h2 with h3 | h3; exact h3; exfalso; omega))
          refine WL.nil (WX.one ⟨hd_2, ?_⟩)
          refine ⟨?_, trivial⟩
          refine DT.step [(46, _), (44, _)] rfl ⟨rfl, rfl, trivial⟩ rfl (fun wq_18 kq_18 => ?_)
          have zs_kq_18 := kq_18.size
          replace hw := hw.pure kq_18
          replace hB := hB.pure kq_18
          replace hd_2 := hd_2.pure kq_18
          replace hI9 := hI9.pure kq_18
          refine WL.store Tryd.sizeOf84 hB rfl rfl rfl rfl ?_
          intro w_19 hs_19 hn_19 k_19
          have zs_k_19 := k_19.size
          replace hw := hw.chg k_19 (by first | (intro x h1 h2; exact h2) | (intro x h0 h1 h2; exact hS x h1 h2) | (intro x h0 h1 h2; have h3 : _ = _ := h2; subst h3; exact hSR h1.1) | (intro x h1 h2; have h3 : _ = _ := h2; subst h3; assumption) | (intro x h1 h2; have h3 : _ = _ := h2; exfalso; omega) | (intro b h1 h2 h3; have h4 : _ = _ := h3; (try dsimp only at h2); exfalso; omega) | (intro h1; have h2 : _ = _ := h1; exfalso; omega) | (intro h1; have h2 : _ ≤ _ := h1; exfalso; omega) | (intros; exfalso; (try dsimp only at *); omega) | (intro b h1 h2 h3; exfalso; have h4 := h3.2; (try dsimp only at *); omega) | (intro h1; exfalso; have h4 := h1.2; (try dsimp only at *); omega) | (intro x h1 h2; exfalso; have h4 := h2.2; (try dsimp only at *); omega) | (intro x h1 h2; exact ⟨_, rfl, h2⟩) | (intro x h1 h2; have h4 := h2.1; have h5 := h2.2; exfalso; omega) | (intro x h1 h2; exact h2.1) | (intro x h1 h2; rcases h2.1 with h3 | h3; exact h3; exfalso; omega) | (intro x h1 h2; rcases h2 with h3 | h3; exact h3; exfalso; omega))
          replace hd_2 := hd_2.chg k_19 (by first | (intro x h1 h2; exact h2) | (intro x h0 h1 h2; exact hS x h1 h2) | (intro x h0 h1 h2; have h3 : _ = _ := h2; subst h3; exact hSR h1.1) | (intro x h1 h2; have h3 : _ = _ := h2; subst h3; assumption) | (intro x h1 h2; have h3 : _ = _ := h2; exfalso; omega) | (intro b h1 h2 h3; have h4 : _ = _ := h3; (try dsimp only at h2); exfalso; omega) | (intro h1; have h2 : _ = _ := h1; exfalso; omega) | (intro h1; have h2 : _ ≤ _ := h1; exfalso; omega) | (intros; exfalso; (try dsimp only at *); omega) | (intro b h1 h2 h3; exfalso; have h4 := h3.2; (try dsimp only at *); omega) | (intro h1; exfalso; have h4 := h1.2; (try dsimp only at *); omega) | (intro x h1 h2; exfalso; have h4 := h2.2; (try dsimp only at *); omega) | (intro x h1 h2; exact ⟨_, rfl, h2⟩) | (intro x h1 h2; have h4 := h2.1; have h5 := h2.2; exfalso; omega) | (intro x h1 h2; exact h2.1) | (intro x h1 h2; rcases h2.1 with h3 | h3; exact h3; exfalso; omega) | (intro x h1 h2; rcases h2 with h3 | h3; exact h3; exfalso; omega))
          replace hI9 := hI9.chg k_19 (by first | (intro x h1 h2; exact h2) | (intro x h0 h1 h2; exact hS x h1 h2) | (intro x h0 h1 h2; have h3 : _ = _ := h2; subst h3; exact hSR h1.1) | (intro x h1 h2; have h3 : _ = _ := h2; subst h3; assumption) | (intro x h1 h2; have h3 : _ = _ := h2; exfalso; omega) | (intro b h1 h2 h3; have h4 : _ = _ := h3; (try dsimp only at h2); exfalso; omega) | (intro h1; have h2 : _ = _ := h1; exfalso; omega) | (intro h1; have h2 : _ ≤ _ := h1; exfalso; omega) | (intros; exfalso; (try dsimp only at *); omega) | (intro b h1 h2 h3; exfalso; have h4 := h3.2; (try dsimp only at *); omega) | (intro h1; exfalso; have h4 := h1.2; (try dsimp only at *); omega) | (intro x h1 h2; exfalso; have h4 := h2.2; (try dsimp only at *); omega) | (intro x h1 h2; exact ⟨_, rfl, h2⟩) | (intro x h1 h2; have h4 := h2.1; have h5 := h2.2; exfalso; omega) | (intro x h1 h2; exact h2.1) | (intro x h1 h2; rcases h2.1 with h3 | h3; exact h3; exfalso; omega) | (intro x h1 h2; rcases h2 with h3 | h3; exact h3; exfalso; omega))
          replace hB := hn_19
          refine WL.nil (WX.one0 (v := undef) ⟨hd_2, ?_⟩)
          refine DT.done (fun we_20 ke_20 => ?_) _
          have zs_ke_20 := ke_20.size
          replace hw := hw.pure ke_20
          replace hB := hB.pure ke_20
          replace hd_2 := hd_2.pure ke_20
          replace hI9 := hI9.pure ke_20
          rotate_left
          refine DT.step [(39, _), (41, _)] rfl ⟨rfl, rfl, trivial⟩ rfl (fun wq_14 kq_14 => ?_)
          have zs_kq_14 := kq_14.size
          replace hb := hb.pure kq_14
          replace hw := hw.pure kq_14
          replace hB := hB.pure kq_14
          replace hI := hI.pure kq_14
          replace hd_2 := hd_2.pure kq_14
          replace hq := hq.pure kq_14
          refine WL.bld rfl (bld_92_0_1 _ _ _ _ _) rfl (?_)
          refine WL.nil (WX.one ⟨hd_2, ?_⟩)
          refine ⟨?_, ?_, trivial, trivial, trivial⟩
          refine DT.step [(35, _)] rfl ⟨rfl, trivial⟩ rfl (fun wq_15 kq_15 => ?_)
          have zs_kq_15 := kq_15.size
          replace hb := hb.pure kq_15
          replace hw := hw.pure kq_15
          replace hB := hB.pure kq_15
          replace hI := hI.pure kq_15
          replace hd_2 := hd_2.pure kq_15
          replace hq := hq.pure kq_15
          refine WL.loadB Tryd.isAgg84 hB rfl rfl rfl (?_)
          refine WL.nil (WX.one ⟨hd_2, ?_⟩)
          refine ⟨?_, trivial, trivial, trivial⟩
          refine DT.step [(42, _)] rfl ⟨rfl, trivial⟩ rfl (fun wq_16 kq_16 => ?_)
          have zs_kq_16 := kq_16.size
          replace hb := hb.pure kq_16
          replace hw := hw.pure kq_16
          replace hB := hB.pure kq_16
          replace hI := hI.pure kq_16
          replace hd_2 := hd_2.pure kq_16
          replace hq := hq.pure kq_16
          refine WL.build (e := ewr) [((d, a), ⟨some ⟨gq, 0, none⟩, cq, b⟩)] Tryd.underlying84 Tryd.sizeOf92 Tryd.zeroValue92 rfl rfl rfl (by first | (simp [Value.cells]; done) | (simp [Value.cells] <;> rfl) | (simp [Value.cells, eb, ei, es, ebool, e32, e64]; done) | (simp [Value.cells] <;> (repeat' apply And.intro) <;> rfl)) (by decide) rfl ?_
          intro a_b43 w_b43 b43 l_b43 z_b43 k_b43
          have zs_k_b43 := k_b43.size
          replace hb := hb.pure k_b43
          replace hw := hw.pure k_b43
          replace hB := hB.pure k_b43
          replace hI := hI.pure k_b43
          replace hd_2 := hd_2.pure k_b43
          replace hq := hq.pure k_b43
          refine WL.nil (WX.one ⟨hd_2, ?_⟩)
          refine ⟨?_, trivial, trivial⟩
          refine DT.step [(36, _), (43, _)] rfl ⟨rfl, rfl, trivial⟩ rfl (fun wq_17 kq_17 => ?_)
          have zs_kq_17 := kq_17.size
          replace hb := hb.pure kq_17
          replace hw := hw.pure kq_17
          replace hB := hB.pure kq_17
          replace hI := hI.pure kq_17
          replace hd_2 := hd_2.pure kq_17
          replace hq := hq.pure kq_17
          replace b43 := b43.pure kq_17
          refine WL.append (e := ewr) info_92 rfl Tryd.underlying84 rfl rfl hI.waits (b43.rsl.src Tryd.underlying84) (by constructor <;> (simp only [List.length_cons, List.length_nil]; omega)) (fun x hx => ⟨.inr (by omega), by omega⟩) rfl ?_
          intro ao9 c9 w9 hb9 gg9 n9
          have hq9 : Row (fun x => (A x ∨ w.heap.size ≤ x) ∧ x ≠ R) _ 5 eb (some ⟨gq, 0, none⟩) cq b := hq.mono (fun x hx => ⟨.inr (by omega), by omega⟩)
          have hI9 := hI.setWaits hb9 gg9.chg (fun x hx => hx.1) (fun p hp => by
            rcases List.mem_append.1 hp with h3 | h3
            ·
              exact .inl ⟨p, h3, rfl⟩
            ·
              simp at h3
              right
              rw [h3]
              exact hq9)
          have gk : Chg (fun x => (A x ∨ w.heap.size ≤ x) ∧ x ≠ R) _ w9 := gg9.chg.mono (fun x _ hx => hx.2)
          have zs_gk := gk.size
          replace hw := hw.chg gk (by first | (intro x h1 h2; exact h2) | (intro x h0 h1 h2; exact hS x h1 h2) | (intro x h0 h1 h2; have h3 : _ = _ := h2; subst h3; exact hSR h1.1) | (intro x h1 h2; have h3 : _ = _ := h2; subst h3; assumption) | (intro x h1 h2; have h3 : _ = _ := h2; exfalso; omega) | (intro b h1 h2 h3; have h4 : _ = _ := h3; (try dsimp only at h2); exfalso; omega) | (intro h1; have h2 : _ = _ := h1; exfalso; omega) | (intro h1; have h2 : _ ≤ _ := h1; exfalso; omega) | (intros; exfalso; (try dsimp only at *); omega) | (intro b h1 h2 h3; exfalso; have h4 := h3.2; (try dsimp only at *); omega) | (intro h1; exfalso; have h4 := h1.2; (try dsimp only at *); omega) | (intro x h1 h2; exfalso; have h4 := h2.2; (try dsimp only at *); omega) | (intro x h1 h2; exact ⟨_, rfl, h2⟩) | (intro x h1 h2; have h4 := h2.1; have h5 := h2.2; exfalso; omega) | (intro x h1 h2; exact h2.1) | (intro x h1 h2; rcases h2.1 with h3 | h3; exact h3; exfalso; omega) | (intro x h1 h2; rcases h2 with h3 | h3; exact h3; exfalso; omega))
          replace hB := hB.chg gk (by first | (intro x h1 h2; exact h2) | (intro x h0 h1 h2; exact hS x h1 h2) | (intro x h0 h1 h2; have h3 : _ = _ := h2; subst h3; exact hSR h1.1) | (intro x h1 h2; have h3 : _ = _ := h2; subst h3; assumption) | (intro x h1 h2; have h3 : _ = _ := h2; exfalso; omega) | (intro b h1 h2 h3; have h4 : _ = _ := h3; (try dsimp only at h2); exfalso; omega) | (intro h1; have h2 : _ = _ := h1; exfalso; omega) | (intro h1; have h2 : _ ≤ _ := h1; exfalso; omega) | (intros; exfalso; (try dsimp only at *); omega) | (intro b h1 h2 h3; exfalso; have h4 := h3.2; (try dsimp only at *); omega) | (intro h1; exfalso; have h4 := h1.2; (try dsimp only at *); omega) | (intro x h1 h2; exfalso; have h4 := h2.2; (try dsimp only at *); omega) | (intro x h1 h2; exact ⟨_, rfl, h2⟩) | (intro x h1 h2; have h4 := h2.1; have h5 := h2.2; exfalso; omega) | (intro x h1 h2; exact h2.1) | (intro x h1 h2; rcases h2.1 with h3 | h3; exact h3; exfalso; omega) | (intro x h1 h2; rcases h2 with h3 | h3; exact h3; exfalso; omega))
          replace hd_2 := hd_2.chg gk (by first | (intro x h1 h2; exact h2) | (intro x h0 h1 h2; exact hS x h1 h2) | (intro x h0 h1 h2; have h3 : _ = _ := h2; subst h3; exact hSR h1.1) | (intro x h1 h2; have h3 : _ = _ := h2; subst h3; assumption) | (intro x h1 h2; have h3 : _ = _ := h2; exfalso; omega) | (intro b h1 h2 h3; have h4 : _ = _ := h3; (try dsimp only at h2); exfalso; omega) | (intro h1; have h2 : _ = _ := h1; exfalso; omega) | (intro h1; have h2 : _ ≤ _ := h1; exfalso; omega) | (intros; exfalso; (try dsimp only at *); omega) | (intro b h1 h2 h3; exfalso; have h4 := h3.2; (try dsimp only at *); omega) | (intro h1; exfalso; have h4 := h1.2; (try dsimp only at *); omega) | (intro x h1 h2; exfalso; have h4 := h2.2; (try dsimp only at *); omega) | (intro x h1 h2; exact ⟨_, rfl, h2⟩) | (intro x h1 h2; have h4 := h2.1; have h5 := h2.2; exfalso; omega) | (intro x h1 h2; exact h2.1) | (intro x h1 h2; rcases h2.1 with h3 | h3; exact h3; exfalso; omega) | (intro x h1 h2; rcases h2 with h3 | h3; exact h3; exfalso; omega))
          refine WL.nil (WX.one ⟨hd_2, ?_⟩)
          refine ⟨?_, trivial⟩
          refine DT.step [(46, _), (44, _)] rfl ⟨rfl, rfl, trivial⟩ rfl (fun wq_18 kq_18 => ?_)
          have zs_kq_18 := kq_18.size
          replace hw := hw.pure kq_18
          replace hB := hB.pure kq_18
          replace hd_2 := hd_2.pure kq_18
          replace hI9 := hI9.pure kq_18
          refine WL.store Tryd.sizeOf84 hB rfl rfl rfl rfl ?_
          intro w_19 hs_19 hn_19 k_19
          have zs_k_19 := k_19.size
          replace hw := hw.chg k_19 (by first | (intro x h1 h2; exact h2) | (intro x h0 h1 h2; exact hS x h1 h2) | (intro x h0 h1 h2; have h3 : _ = _ := h2; subst h3; exact hSR h1.1) | (intro x h1 h2; have h3 : _ = _ := h2; subst h3; assumption) | (intro x h1 h2; have h3 : _ = _ := h2; exfalso; omega) | (intro b h1 h2 h3; have h4 : _ = _ := h3; (try dsimp only at h2); exfalso; omega) | (intro h1; have h2 : _ = _ := h1; exfalso; omega) | (intro h1; have h2 : _ ≤ _ := h1; exfalso; omega) | (intros; exfalso; (try dsimp only at *); omega) | (intro b h1 h2 h3; exfalso; have h4 := h3.2; (try dsimp only at *); omega) | (intro h1; exfalso; have h4 := h1.2; (try dsimp only at *); omega) | (intro x h1 h2; exfalso; have h4 := h2.2; (try dsimp only at *); omega) | (intro x h1 h2; exact ⟨_, rfl, h2⟩) | (intro x h1 h2; have h4 := h2.1; have h5 := h2.2; exfalso; omega) | (intro x h1 h2; exact h2.1) | (intro x h1 h2; rcases h2.1 with h3 | h3; exact h3; exfalso; omega) | (intro x h1 h2; rcases h2 with h3 | h3; exact h3; exfalso; omega))
          replace hd_2 := hd_2.chg k_19 (by first | (intro x h1 h2; exact h2) | (intro x h0 h1 h2; exact hS x h1 h2) | (intro x h0 h1 h2; have h3 : _ = _ := h2; subst h3; exact hSR h1.1) | (intro x h1 h2; have h3 : _ = _ := h2; subst h3; assumption) | (intro x h1 h2; have h3 : _ = _ := h2; exfalso; omega) | (intro b h1 h2 h3; have h4 : _ = _ := h3; (try dsimp only at h2); exfalso; omega) | (intro h1; have h2 : _ = _ := h1; exfalso; omega) | (intro h1; have h2 : _ ≤ _ := h1; exfalso; omega) | (intros; exfalso; (try dsimp only at *); omega) | (intro b h1 h2 h3; exfalso; have h4 := h3.2; (try dsimp only at *); omega) | (intro h1; exfalso; have h4 := h1.2; (try dsimp only at *); omega) | (intro x h1 h2; exfalso; have h4 := h2.2; (try dsimp only at *); omega) | (intro x h1 h2; exact ⟨_, rfl, h2⟩) | (intro x h1 h2; have h4 := h2.1; have h5 := h2.2; exfalso; omega) | (intro x h1 h2; exact h2.1) | (intro x h1 h2; rcases h2.1 with h3 | h3; exact h3; exfalso; omega) | (intro x h1 h2; rcases h2 with h3 | h3; exact h3; exfalso; omega))
          replace hI9 := hI9.chg k_19 (by first | (intro x h1 h2; exact h2) | (intro x h0 h1 h2; exact hS x h1 h2) | (intro x h0 h1 h2; have h3 : _ = _ := h2; subst h3; exact hSR h1.1) | (intro x h1 h2; have h3 : _ = _ := h2; subst h3; assumption) | (intro x h1 h2; have h3 : _ = _ := h2; exfalso; omega) | (intro b h1 h2 h3; have h4 : _ = _ := h3; (try dsimp only at h2); exfalso; omega) | (intro h1; have h2 : _ = _ := h1; exfalso; omega) | (intro h1; have h2 : _ ≤ _ := h1; exfalso; omega) | (intros; exfalso; (try dsimp only at *); omega) | (intro b h1 h2 h3; exfalso; have h4 := h3.2; (try dsimp only at *); omega) | (intro h1; exfalso; have h4 := h1.2; (try dsimp only at *); omega) | (intro x h1 h2; exfalso; have h4 := h2.2; (try dsimp only at *); omega) | (intro x h1 h2; exact ⟨_, rfl, h2⟩) | (intro x h1 h2; have h4 := h2.1; have h5 := h2.2; exfalso; omega) | (intro x h1 h2; exact h2.1) | (intro x h1 h2; rcases h2.1 with h3 | h3; exact h3; exfalso; omega) | (intro x h1 h2; rcases h2 with h3 | h3; exact h3; exfalso; omega))
          replace hB := hn_19
          refine WL.nil (WX.one0 (v := undef) ⟨hd_2, ?_⟩)
          refine DT.done (fun we_20 ke_20 => ?_) _
          have zs_ke_20 := ke_20.size
          replace hw := hw.pure ke_20
          replace hB := hB.pure ke_20
          replace hd_2 := hd_2.pure ke_20
          replace hI9 := hI9.pure ke_20
          rotate_left
          refine DT.step [(42, _)] rfl ⟨rfl, trivial⟩ rfl (fun wq_15 kq_15 => ?_)
          have zs_kq_15 := kq_15.size
          replace hb := hb.pure kq_15
          replace hw := hw.pure kq_15
          replace hB := hB.pure kq_15
          replace hI := hI.pure kq_15
          replace hd_2 := hd_2.pure kq_15
          replace hq := hq.pure kq_15
          refine WL.build (e := ewr) [((d, a), ⟨some ⟨gq, 0, none⟩, cq, b⟩)] Tryd.underlying84 Tryd.sizeOf92 Tryd.zeroValue92 rfl rfl rfl (by first | (simp [Value.cells]; done) | (simp [Value.cells] <;> rfl) | (simp [Value.cells, eb, ei, es, ebool, e32, e64]; done) | (simp [Value.cells] <;> (repeat' apply And.intro) <;> rfl)) (by decide) rfl ?_
          intro a_b43 w_b43 b43 l_b43 z_b43 k_b43
          have zs_k_b43 := k_b43.size
          replace hb := hb.pure k_b43
          replace hw := hw.pure k_b43
          replace hB := hB.pure k_b43
          replace hI := hI.pure k_b43
          replace hd_2 := hd_2.pure k_b43
          replace hq := hq.pure k_b43
          refine WL.nil (WX.one ⟨hd_2, ?_⟩)
          refine ⟨?_, trivial, trivial, trivial⟩
          refine DT.step [(35, _)] rfl ⟨rfl, trivial⟩ rfl (fun wq_16 kq_16 => ?_)
          have zs_kq_16 := kq_16.size
          replace hb := hb.pure kq_16
          replace hw := hw.pure kq_16
          replace hB := hB.pure kq_16
          replace hI := hI.pure kq_16
          replace hd_2 := hd_2.pure kq_16
          replace hq := hq.pure kq_16
          replace b43 := b43.pure kq_16
          refine WL.loadB Tryd.isAgg84 hB rfl rfl rfl (?_)
          refine WL.nil (WX.one ⟨hd_2, ?_⟩)
          refine ⟨?_, trivial, trivial⟩
          refine DT.step [(36, _), (43, _)] rfl ⟨rfl, rfl, trivial⟩ rfl (fun wq_17 kq_17 => ?_)
          have zs_kq_17 := kq_17.size
          replace hb := hb.pure kq_17
          replace hw := hw.pure kq_17
          replace hB := hB.pure kq_17
          replace hI := hI.pure kq_17
          replace hd_2 := hd_2.pure kq_17
          replace hq := hq.pure kq_17
          replace b43 := b43.pure kq_17
          refine WL.append (e := ewr) info_92 rfl Tryd.underlying84 rfl rfl hI.waits (b43.rsl.src Tryd.underlying84) (by constructor <;> (simp only [List.length_cons, List.length_nil]; omega)) (fun x hx => ⟨.inr (by omega), by omega⟩) rfl ?_
          intro ao9 c9 w9 hb9 gg9 n9
          have hq9 : Row (fun x => (A x ∨ w.heap.size ≤ x) ∧ x ≠ R) _ 5 eb (some ⟨gq, 0, none⟩) cq b := hq.mono (fun x hx => ⟨.inr (by omega), by omega⟩)
          have hI9 := hI.setWaits hb9 gg9.chg (fun x hx => hx.1) (fun p hp => by
            rcases List.mem_append.1 hp with h3 | h3
            ·
              exact .inl ⟨p, h3, rfl⟩
            ·
              simp at h3
              right
              rw [h3]
              exact hq9)
          have gk : Chg (fun x => (A x ∨ w.heap.size ≤ x) ∧ x ≠ R) _ w9 := gg9.chg.mono (fun x _ hx => hx.2)
          have zs_gk := gk.size
          replace hw := hw.chg gk (by first | (intro x h1 h2; exact h2) | (intro x h0 h1 h2; exact hS x h1 h2) | (intro x h0 h1 h2; have h3 : _ = _ := h2; subst h3; exact hSR h1.1) | (intro x h1 h2; have h3 : _ = _ := h2; subst h3; assumption) | (intro x h1 h2; have h3 : _ = _ := h2; exfalso; omega) | (intro b h1 h2 h3; have h4 : _ = _ := h3; (try dsimp only at h2); exfalso; omega) | (intro h1; have h2 : _ = _ := h1; exfalso; omega) | (intro h1; have h2 : _ ≤ _ := h1; exfalso; omega) | (intros; exfalso; (try dsimp only at *); omega) | (intro b h1 h2 h3; exfalso; have h4 := h3.2; (try dsimp only at *); omega) | (intro h1; exfalso; have h4 := h1.2; (try dsimp only at *); omega) | (intro x h1 h2; exfalso; have h4 := h2.2; (try dsimp only at *); omega) | (intro x h1 h2; exact ⟨_, rfl, h2⟩) | (intro x h1 h2; have h4 := h2.1; have h5 := h2.2; exfalso; omega) | (intro x h1 h2; exact h2.1) | (intro x h1 h2; rcases h2.1 with h3 | h3; exact h3; exfalso; omega) | (intro x h1 h2; rcases h2 with h3 | h3; exact h3; exfalso; omega))
          replace hB := hB.chg gk (by first | (intro x h1 h2; exact h2) | (intro x h0 h1 h2; exact hS x h1 h2) | (intro x h0 h1 h2; have h3 : _ = _ := h2; subst h3; exact hSR h1.1) | (intro x h1 h2; have h3 : _ = _ := h2; subst h3; assumption) | (intro x h1 h2; have h3 : _ = _ := h2; exfalso; omega) | (intro b h1 h2 h3; have h4 : _ = _ := h3; (try dsimp only at h2); exfalso; omega) | (intro h1; have h2 : _ = _ := h1; exfalso; omega) | (intro h1; have h2 : _ ≤ _ := h1; exfalso; omega) | (intros; exfalso; (try dsimp only at *); omega) | (intro b h1 h2 h3; exfalso; have h4 := h3.2; (try dsimp only at *); omega) | (intro h1; exfalso; have h4 := h1.2; (try dsimp only at *); omega) | (intro x h1 h2; exfalso; have h4 := h2.2; (try dsimp only at *); omega) | (intro x h1 h2; exact ⟨_, rfl, h2⟩) | (intro x h1 h2; have h4 := h2.1; have h5 := h2.2; exfalso; omega) | (intro x h1 h2; exact h2.1) | (intro x h1 h2; rcases h2.1 with h3 | h3; exact h3; exfalso; omega) | (intro x h1 h2; rcases h2 with h3 | h3; exact h3; exfalso; omega))
          replace hd_2 := hd_2.chg gk (by first | (intro x h1 h2; exact h2) | (intro x h0 h1 h2; exact hS x h1 h2) | (intro x h0 h1 h2; have h3 : _ = _ := h2; subst h3; exact hSR h1.1) | (intro x h1 h2; have h3 : _ = _ := h2; subst h3; assumption) | (intro x h1 h2; have h3 : _ = _ := h2; exfalso; omega) | (intro b h1 h2 h3; have h4 : _ = _ := h3; (try dsimp only at h2); exfalso; omega) | (intro h1; have h2 : _ = _ := h1; exfalso; omega) | (intro h1; have h2 : _ ≤ _ := h1; exfalso; omega) | (intros; exfalso; (try dsimp only at *); omega) | (intro b h1 h2 h3; exfalso; have h4 := h3.2; (try dsimp only at *); omega) | (intro h1; exfalso; have h4 := h1.2; (try dsimp only at *); omega) | (intro x h1 h2; exfalso; have h4 := h2.2; (try dsimp only at *); omega) | (intro x h1 h2; exact ⟨_, rfl, h2⟩) | (intro x h1 h2; have h4 := h2.1; have h5 := h2.2; exfalso; omega) | (intro x h1 h2; exact h2.1) | (intro x h1 h2; rcases h2.1 with h3 | h3; exact h3; exfalso; omega) | (intro x h1 h2; rcases h2 with h3 | h3; exact h3; exfalso; omega))
          refine WL.nil (WX.one ⟨hd_2, ?_⟩)
          refine ⟨?_, trivial⟩
          refine DT.step [(46, _), (44, _)] rfl ⟨rfl, rfl, trivial⟩ rfl (fun wq_18 kq_18 => ?_)
          have zs_kq_18 := kq_18.size
          replace hw := hw.pure kq_18
          replace hB := hB.pure kq_18
          replace hd_2 := hd_2.pure kq_18
          replace hI9 := hI9.pure kq_18
          refine WL.store Tryd.sizeOf84 hB rfl rfl rfl rfl ?_
          intro w_19 hs_19 hn_19 k_19
          have zs_k_19 := k_19.size
          replace hw := hw.chg k_19 (by first | (intro x h1 h2; exact h2) | (intro x h0 h1 h2; exact hS x h1 h2) | (intro x h0 h1 h2; have h3 : _ = _ := h2; subst h3; exact hSR h1.1) | (intro x h1 h2; have h3 : _ = _ := h2; subst h3; assumption) | (intro x h1 h2; have h3 : _ = _ := h2; exfalso; omega) | (intro b h1 h2 h3; have h4 : _ = _ := h3; (try dsimp only at h2); exfalso; omega) | (intro h1; have h2 : _ = _ := h1; exfalso; omega) | (intro h1; have h2 : _ ≤ _ := h1; exfalso; omega) | (intros; exfalso; (try dsimp only at *); omega) | (intro b h1 h2 h3; exfalso; have h4 := h3.2; (try dsimp only at *); omega) | (intro h1; exfalso; have h4 := h1.2; (try dsimp only at *); omega) | (intro x h1 h2; exfalso; have h4 := h2.2; (try dsimp only at *); omega) | (intro x h1 h2; exact ⟨_, rfl, h2⟩) | (intro x h1 h2; have h4 := h2.1; have h5 := h2.2; exfalso; omega) | (intro x h1 h2; exact h2.1) | (intro x h1 h2; rcases h2.1 with h3 | h3; exact h3; exfalso; omega) | (intro x h1 h2; rcases h2 with h3 | h3; exact h3; exfalso; omega))
          replace hd_2 := hd_2.chg k_19 (by first | (intro x h1 h2; exact h2) | (intro x h0 h1 h2; exact hS x h1 h2) | (intro x h0 h1 h2; have h3 : _ = _ := h2; subst h3; exact hSR h1.1) | (intro x h1 h2; have h3 : _ = _ := h2; subst h3; assumption) | (intro x h1 h2; have h3 : _ = _ := h2; exfalso; omega) | (intro b h1 h2 h3; have h4 : _ = _ := h3; (try dsimp only at h2); exfalso; omega) | (intro h1; have h2 : _ = _ := h1; exfalso; omega) | (intro h1; have h2 : _ ≤ _ := h1; exfalso; omega) | (intros; exfalso; (try dsimp only at *); omega) | (intro b h1 h2 h3; exfalso; have h4 := h3.2; (try dsimp only at *); omega) | (intro h1; exfalso; have h4 := h1.2; (try dsimp only at *); omega) | (intro x h1 h2; exfalso; have h4 := h2.2; (try dsimp only at *); omega) | (intro x h1 h2; exact ⟨_, rfl, h2⟩) | (intro x h1 h2; have h4 := h2.1; have h5 := h2.2; exfalso; omega) | (intro x h1 h2; exact h2.1) | (intro x h1 h2; rcases h2.1 with h3 | h3; exact h3; exfalso; omega) | (intro x h1 h2; rcases h2 with h3 | h3; exact h3; exfalso; omega))
          replace hI9 := hI9.chg k_19 (by first | (intro x h1 h2; exact h2) | (intro x h0 h1 h2; exact hS x h1 h2) | (intro x h0 h1 h2; have h3 : _ = _ := h2; subst h3; exact hSR h1.1) | (intro x h1 h2; have h3 : _ = _ := h2; subst h3; assumption) | (intro x h1 h2; have h3 : _ = _ := h2; exfalso; omega) | (intro b h1 h2 h3; have h4 : _ = _ := h3; (try dsimp only at h2); exfalso; omega) | (intro h1; have h2 : _ = _ := h1; exfalso; omega) | (intro h1; have h2 : _ ≤ _ := h1; exfalso; omega) | (intros; exfalso; (try dsimp only at *); omega) | (intro b h1 h2 h3; exfalso; have h4 := h3.2; (try dsimp only at *); omega) | (intro h1; exfalso; have h4 := h1.2; (try dsimp only at *); omega) | (intro x h1 h2; exfalso; have h4 := h2.2; (try dsimp only at *); omega) | (intro x h1 h2; exact ⟨_, rfl, h2⟩) | (intro x h1 h2; have h4 := h2.1; have h5 := h2.2; exfalso; omega) | (intro x h1 h2; exact h2.1) | (intro x h1 h2; rcases h2.1 with h3 | h3; exact h3; exfalso; omega) | (intro x h1 h2; rcases h2 with h3 | h3; exact h3; exfalso; omega))
          replace hB := hn_19
          refine WL.nil (WX.one0 (v := undef) ⟨hd_2, ?_⟩)
          refine DT.done (fun we_20 ke_20 => ?_) _
          have zs_ke_20 := ke_20.size
          replace hw := hw.pure ke_20
          replace hB := hB.pure ke_20
          replace hd_2 := hd_2.pure ke_20
          replace hI9 := hI9.pure ke_20
          rotate_left
          all_goals
            refine WX.then_normal (WC.seq (WC.region (WL.assign rfl rfl (WL.nil (WX.then_normal (WC.ret (?_)))))))
            refine WX.ret1 (.inl rfl) Tryd.results44 rfl ?_
            first
              | (have hh : (b.length : Int) ≠ 128 := h18
                 have hh2 : b.length ≠ 128 := by omega
                 exact ⟨_, rfl, by simp [writeE, hh2], by rw [show writeS s d a b = s from by simp [writeS, writeE, hh2]]; exact h.mono (fun x hx => .inl hx), hw⟩)
              | (have hh : ¬ inS s d a := h12
                 exact ⟨_, rfl, by simp [writeE, h12], by rw [show writeS s d a b = s from by simp [writeS, writeE, h12]]; exact h.mono (fun x hx => .inl hx), hw⟩)
              | (have hh : goneS s d = true := hg
                 have hh2 : b.length = 128 := by omega
                 exact ⟨_, rfl, by simp [writeE, h12, hh2, hg], by rw [show writeS s d a b = s from by simp [writeS, writeE, h12, hh2, hg]]; exact h.mono (fun x hx => .inl hx), hw⟩)
              | (have hh : offS s = true := ho
                 have hh2 : b.length = 128 := by omega
                 exact ⟨_, rfl, by simp [writeE, h12, hh2, hg, ho], by rw [show writeS s d a b = spendS s from by simp [writeS, writeE, h12, hh2, hg, ho]]; exact h2.mono (fun x hx => .inl hx), hw⟩)
              | (have hh2 : b.length = 128 := by omega
                 have e0 : writeE s d a b.length = 0 := by simp [writeE, h12, hh2, hg, ho]
                 refine ⟨_, rfl, by rw [e0], ⟨aR2, hwok, m, ga, gc, ao9, c9, ws ++ [((d, a), ⟨some ⟨gq, 0, none⟩, cq, b⟩)], ls, Eq.mp (congrArg (Blk _ R 86) ?_) hB, ?_, ?_, ?_⟩, hw⟩
                 ·
                   simp [writeS, e0]
                 ·
                   simp only [writeS, e0, if_true]
                   exact hI9.mono (fun x hx => hx.1)
                 ·
                   simp only [writeS, e0, if_true]
                   exact hls
                 ·
                   simp only [writeS, e0, if_true]
                   rw [spendS_waits] at hws
                   rw [hws]
                   simp [xsm])
        ·
          refine WL.not rfl rfl (WL.assign rfl rfl (WL.nil (WX.then_normal (WC.cond_true rfl (WC.seq (WC.region (WL.assign rfl rfl (?_))))))))
          refine WL.nil (WX.then_normal (WC.ret (WX.block_ret (WX.then_ret (?_)))))
          refine WX.ret1 (.inl rfl) Tryd.results44 rfl ?_
          first
            | (have hh : (b.length : Int) ≠ 128 := h18
               have hh2 : b.length ≠ 128 := by omega
               exact ⟨_, rfl, by simp [writeE, hh2], by rw [show writeS s d a b = s from by simp [writeS, writeE, hh2]]; exact h.mono (fun x hx => .inl hx), hw⟩)
            | (have hh : ¬ inS s d a := h12
               exact ⟨_, rfl, by simp [writeE, h12], by rw [show writeS s d a b = s from by simp [writeS, writeE, h12]]; exact h.mono (fun x hx => .inl hx), hw⟩)
            | (have hh : goneS s d = true := hg
               have hh2 : b.length = 128 := by omega
               exact ⟨_, rfl, by simp [writeE, h12, hh2, hg], by rw [show writeS s d a b = s from by simp [writeS, writeE, h12, hh2, hg]]; exact h.mono (fun x hx => .inl hx), hw⟩)
            | (have hh : offS s = true := ho
               have hh2 : b.length = 128 := by omega
               exact ⟨_, rfl, by simp [writeE, h12, hh2, hg, ho], by rw [show writeS s d a b = spendS s from by simp [writeS, writeE, h12, hh2, hg, ho]]; exact h2.mono (fun x hx => .inl hx), hw⟩)
            | (have hh2 : b.length = 128 := by omega
               have e0 : writeE s d a b.length = 0 := by simp [writeE, h12, hh2, hg, ho]
               refine ⟨_, rfl, by rw [e0], ⟨aR2, hwok, m, ga, gc, ao9, c9, ws ++ [((d, a), ⟨some ⟨gq, 0, none⟩, cq, b⟩)], ls, Eq.mp (congrArg (Blk _ R 86) ?_) hB, ?_, ?_, ?_⟩, hw⟩
               ·
                 simp [writeS, e0]
               ·
                 simp only [writeS, e0, if_true]
                 exact hI9.mono (fun x hx => hx.1)
               ·
                 simp only [writeS, e0, if_true]
                 exact hls
               ·
                 simp only [writeS, e0, if_true]
                 rw [spendS_waits] at hws
                 rw [hws]
                 simp [xsm])
      ·
        refine WL.assign rfl rfl (WL.nil (WX.then_normal (WC.cond_true rfl (WC.seq (WC.region (WL.assign rfl rfl (WL.nil (?_))))))))
        refine WX.then_normal (WC.ret (WX.block_ret (WX.then_ret (?_))))
        refine WX.ret1 (.inl rfl) Tryd.results44 rfl ?_
        first
          | (have hh : (b.length : Int) ≠ 128 := h18
             have hh2 : b.length ≠ 128 := by omega
             exact ⟨_, rfl, by simp [writeE, hh2], by rw [show writeS s d a b = s from by simp [writeS, writeE, hh2]]; exact h.mono (fun x hx => .inl hx), hw⟩)
          | (have hh : ¬ inS s d a := h12
             exact ⟨_, rfl, by simp [writeE, h12], by rw [show writeS s d a b = s from by simp [writeS, writeE, h12]]; exact h.mono (fun x hx => .inl hx), hw⟩)
          | (have hh : goneS s d = true := hg
             have hh2 : b.length = 128 := by omega
             exact ⟨_, rfl, by simp [writeE, h12, hh2, hg], by rw [show writeS s d a b = s from by simp [writeS, writeE, h12, hh2, hg]]; exact h.mono (fun x hx => .inl hx), hw⟩)
          | (have hh : offS s = true := ho
             have hh2 : b.length = 128 := by omega
             exact ⟨_, rfl, by simp [writeE, h12, hh2, hg, ho], by rw [show writeS s d a b = spendS s from by simp [writeS, writeE, h12, hh2, hg, ho]]; exact h2.mono (fun x hx => .inl hx), hw⟩)
          | (have hh2 : b.length = 128 := by omega
             have e0 : writeE s d a b.length = 0 := by simp [writeE, h12, hh2, hg, ho]
             refine ⟨_, rfl, by rw [e0], ⟨aR2, hwok, m, ga, gc, ao9, c9, ws ++ [((d, a), ⟨some ⟨gq, 0, none⟩, cq, b⟩)], ls, Eq.mp (congrArg (Blk _ R 86) ?_) hB, ?_, ?_, ?_⟩, hw⟩
             ·
               simp [writeS, e0]
             ·
               simp only [writeS, e0, if_true]
               exact hI9.mono (fun x hx => hx.1)
             ·
               simp only [writeS, e0, if_true]
               exact hls
             ·
               simp only [writeS, e0, if_true]
               rw [spendS_waits] at hws
               rw [hws]
               simp [xsm])
  ·
    rw [show decide (0 ≤ d ∧ d < (s.dn : Int) ∧ 0 ≤ a ∧ a < (s.sn : Int)) = false from decide_eq_false h12]
    refine WL.not rfl rfl (WL.move rfl rfl (WL.pass rfl rfl rfl rfl (WL.pass rfl rfl rfl rfl (WL.pass rfl rfl rfl rfl (WL.pickT rfl rfl rfl (WL.assign rfl rfl (WL.nil (?_))))))))
    refine WX.then_normal (WC.cond_true rfl (WC.seq (WC.region (WL.assign rfl rfl (WL.nil (WX.then_normal (WC.ret (?_))))))))
    refine WX.block_ret (WX.then_ret (?_))
    refine WX.ret1 (.inl rfl) Tryd.results44 rfl ?_
    first
      | (have hh : (b.length : Int) ≠ 128 := h18
         have hh2 : b.length ≠ 128 := by omega
         exact ⟨_, rfl, by simp [writeE, hh2], by rw [show writeS s d a b = s from by simp [writeS, writeE, hh2]]; exact h.mono (fun x hx => .inl hx), hw⟩)
      | (have hh : ¬ inS s d a := h12
         exact ⟨_, rfl, by simp [writeE, h12], by rw [show writeS s d a b = s from by simp [writeS, writeE, h12]]; exact h.mono (fun x hx => .inl hx), hw⟩)
      | (have hh : goneS s d = true := hg
         have hh2 : b.length = 128 := by omega
         exact ⟨_, rfl, by simp [writeE, h12, hh2, hg], by rw [show writeS s d a b = s from by simp [writeS, writeE, h12, hh2, hg]]; exact h.mono (fun x hx => .inl hx), hw⟩)
      | (have hh : offS s = true := ho
         have hh2 : b.length = 128 := by omega
         exact ⟨_, rfl, by simp [writeE, h12, hh2, hg, ho], by rw [show writeS s d a b = spendS s from by simp [writeS, writeE, h12, hh2, hg, ho]]; exact h2.mono (fun x hx => .inl hx), hw⟩)
      | (have hh2 : b.length = 128 := by omega
         have e0 : writeE s d a b.length = 0 := by simp [writeE, h12, hh2, hg, ho]
         refine ⟨_, rfl, by rw [e0], ⟨aR2, hwok, m, ga, gc, ao9, c9, ws ++ [((d, a), ⟨some ⟨gq, 0, none⟩, cq, b⟩)], ls, Eq.mp (congrArg (Blk _ R 86) ?_) hB, ?_, ?_, ?_⟩, hw⟩
         ·
           simp [writeS, e0]
         ·
           simp only [writeS, e0, if_true]
           exact hI9.mono (fun x hx => hx.1)
         ·
           simp only [writeS, e0, if_true]
           exact hls
         ·
           simp only [writeS, e0, if_true]
           rw [spendS_waits] at hws
           rw [hws]
           simp [xsm])
end Go.Proofs.YtjeldcjchipdgaaDoor
namespace Go.Proofs.YtjeldcjchipdgaaDoor
open Go.RowKit Go.HL
set_option maxRecDepth 100000

/-! writes that come to last, those that kp tells -/
def puts {V : Type} (kp : Nat → Bool) (ws l : List (Pl × V)) : Nat → List (Pl × V)
  | 0 => l
  | i + 1 => match ws[i]? with
    | some x => if kp i = true then mput (puts kp ws l i) x.1 x.2 else puts kp ws l i
    | none => puts kp ws l i
theorem puts_yes {V : Type} {kp : Nat → Bool} {ws l : List (Pl × V)} {i : Nat} {x : Pl × V} (hx : ws[i]? = some x) (hk : kp i = true) : puts kp ws l (i + 1) = mput (puts kp ws l i) x.1 x.2 := by simp [puts, hx, hk]
theorem puts_not {V : Type} {kp : Nat → Bool} {ws l : List (Pl × V)} {i : Nat} {x : Pl × V} (hx : ws[i]? = some x) (hk : kp i = false) : puts kp ws l (i + 1) = puts kp ws l i := by simp [puts, hx, hk]
theorem xsm_at (l : List (Pl × Rw)) (i : Nat) : (xsm l)[i]? = (l[i]?).map fun p => (p.1, p.2.xs) := by simp [xsm]
theorem xsm_puts (kp : Nat → Bool) (ws l : List (Pl × Rw)) (i : Nat) : xsm (puts kp ws l i) = puts kp (xsm ws) (xsm l) i := by
  induction i with
  | zero => rfl
  | succ i ih =>
    simp only [puts, xsm_at]
    cases h : ws[i]? with
    | none => simpa using ih
    | some x =>
      simp only [Option.map_some]
      split
      · rw [xsm_put, ih]
      · exact ih
theorem puts_nodup {V : Type} {kp : Nat → Bool} {ws l : List (Pl × V)} (h : (l.map (·.1)).Nodup) (i : Nat) : ((puts kp ws l i).map (·.1)).Nodup := by
  induction i with
  | zero => exact h
  | succ i ih =>
    simp only [puts]
    split
    · split
      · exact mput_nodup ih
      · exact ih
    · exact ih
theorem puts_mem {V : Type} {kp : Nat → Bool} {ws l : List (Pl × V)} {i : Nat} {x : Pl × V} (h : x ∈ puts kp ws l i) : x ∈ l ∨ x ∈ ws := by
  induction i with
  | zero => exact .inl h
  | succ i ih =>
    simp only [puts] at h
    split at h
    · rename_i y hy
      split at h
      · rcases mput_mem h with h1 | h1
        · exact ih h1
        · subst h1
          exact .inr (List.mem_of_getElem? hy)
      · exact ih h
    · exact ih h
theorem RI.noWaits {S : Nat → Prop} {w : World} {m : Nat} {ga : Option Addr} {gc : Nat} {wa : Option Addr} {wc : Nat} {gl : List Bool} {ws ls : List (Pl × Rw)} (h : RI S w m ga gc wa wc gl ws ls) : RI S w m ga gc none 0 gl [] ls :=
  ⟨h.sm, h.map, h.gone, Row.nil _ _ _ _, h.byl, fun p hp => by simp at hp⟩
/-- all that waits comes to last -/
def flushS (s : RA) : RA := if offS s = true then spendS s else { spendS s with last := puts (fun _ => true) s.waits s.last s.waits.length, waits := [] }
theorem flushS_ok {s : RA} (h : s.ok) : (flushS s).ok := by
  have h1 := spendS_ok h
  unfold flushS
  split
  · exact h1
  · refine ⟨h1.dn, h1.sn, h1.gl, fun p hp => ?_, fun p hp => by simp at hp, h1.lf, puts_nodup h.nd _⟩
    rcases puts_mem hp with h2 | h2
    · exact h.ll p h2
    · exact h.lw p h2
theorem Flush_calls {A : Nat → Prop} {w : World} {R : Nat} {s : RA} (h : RK A w R s) :
    Calls Tryd.prog 18 [ptr R].toArray w (Ret fun v w' => v = vi (if offS s = true then 16 else 0) ∧ RK A w' R (flushS s) ∧ Chg A w w') := by
  have aR := h.aR
  have hok := h.ok
  have hfok := flushS_ok h.ok
  have hw := Chg.refl A w
  refine Calls.of_WC Tryd.func18 rfl Tryd.ntmps18 (by simp) ?_
  refine WC.seq (WC.region (WL.assign rfl rfl (WL.nil (WX.then_normal (WC.seq (WC.block (WC.seq (?_))))))))
  refine WC.region (WL.move rfl rfl (?_))
  refine WL.ptrNil Tryd.underlying41 rfl rfl rfl ?_
  refine WL.assign rfl rfl (WL.nil (WX.then_normal (WC.cond_false rfl (WC.seq (WC.region (WL.move rfl rfl (?_)))))))
  refine WL.call eg_45 rfl rfl (spend_calls h) ?_
  rintro v w2 ⟨rfl, h2, k2, z2⟩
  have zs_k2 := k2.size
  replace hw := hw.chg k2 (by first | (intro x h1 h2; exact h2) | (intro x h0 h1 h2; exact hS x h1 h2) | (intro x h0 h1 h2; have h3 : _ = _ := h2; subst h3; exact hSR h1.1) | (intro x h1 h2; have h3 : _ = _ := h2; subst h3; assumption) | (intro x h1 h2; have h3 : _ = _ := h2; exfalso; omega) | (intro b h1 h2 h3; have h4 : _ = _ := h3; (try dsimp only at h2); exfalso; omega) | (intro h1; have h2 : _ = _ := h1; exfalso; omega) | (intro h1; have h2 : _ ≤ _ := h1; exfalso; omega) | (intros; exfalso; (try dsimp only at *); omega) | (intro b h1 h2 h3; exfalso; have h4 := h3.2; (try dsimp only at *); omega) | (intro h1; exfalso; have h4 := h1.2; (try dsimp only at *); omega) | (intro x h1 h2; exfalso; have h4 := h2.2; (try dsimp only at *); omega) | (intro x h1 h2; exact ⟨_, rfl, h2⟩) | (intro x h1 h2; have h4 := h2.1; have h5 := h2.2; exfalso; omega) | (intro x h1 h2; exact h2.1) | (intro x h1 h2; rcases h2.1 with h3 | h3; exact h3; exfalso; omega) | (intro x h1 h2; rcases h2 with h3 | h3; exact h3; exfalso; omega))
  rcases ho : offS s with _ | _
  ·
    obtain ⟨m, ga, gc, wa, wc, ws, ls, hB, hI, hls, hws⟩ := h2.old.ex
    have am : A m := hI.sm.1
    replace hI := hI.open hB
    have hmR : m ≠ R := hI.sm.2
    have lR := hB.lt
    have lm := hI.map.lt
    have hcap := hI.waits.own.cap
    have hwl : ws.length ≤ 9223372036854775807 := by
      rcases hI.waits.own.2.2 with ⟨_, h⟩ | ⟨_, _, _, _, _, _, h, _⟩
      ·
        omega
      ·
        simp only [maxLen] at h; omega
    refine WL.not rfl rfl (WL.assign rfl rfl (WL.nil (WX.then_normal (WC.cond_false rfl (WC.skip (WX.block_normal (WX.then_normal (?_))))))))
    refine WC.seq (WC.seq (WC.region (WL.move rfl rfl (WL.nilCheck rfl rfl (WL.fieldAddr (fld_86_4) rfl rfl (WL.loadB Tryd.isAgg84 hB rfl rfl rfl (WL.len Tryd.underlying84 rfl rfl (?_))))))))
    refine WL.move rfl rfl (WL.nil (WX.then_normal (WC.block (?_))))
    have zw := hw.size
    refine WC.loop (σ := Nat) (fun i => [(0, ptr R), (15, .slice wa ws.length wc), (16, vi ws.length), (17, vi (i : Int))]) (fun i w' => i ≤ ws.length ∧ Blk w' R 86 (rcells (spendS s) m ga gc wa wc ws.length) ∧ RI (fun b => (A b ∧ b < w2.heap.size) ∧ b ≠ R) w' m ga gc wa wc (spendS s).gone ws (puts (fun _ => true) ws ls i) ∧ Chg A w w' ∧ w2.heap.size ≤ w'.heap.size) (fun i => ws.length - i) 0 ⟨rfl, rfl, rfl, rfl, trivial⟩ ⟨Nat.zero_le _, hB, hI, hw, Nat.le_refl _⟩ ?_
    clear hB hI hw
    rintro i w1 ⟨hi, hB, hI, hw, z1⟩
    refine WC.seq (WC.region (?_))
    refine WL.lss? rfl rfl rfl (fun h18 => ?_) (fun h18 => ?_)
    ·
      refine WL.nil (WX.then_normal (WC.seq (WC.cond_true rfl (WC.skip (WX.then_normal (WC.seq (WC.block (?_))))))))
      refine WC.seq (WC.region (?_))
      have hi2 : i < ws.length := by omega
      have hx : ws[i]? = some ws[i] := List.getElem?_eq_getElem hi2
      obtain ⟨x, ex⟩ : ∃ x, x = ws[i] := ⟨_, rfl⟩
      rw [← ex] at hx
      refine WL.indexT (e := ewr) Tryd.underlying84 Tryd.sizeOf92 hI.waits.rsl rfl rfl ⟨hx, rfl⟩ rfl ?_
      intro bb oo hcc
      refine WL.loads _ Tryd.isAgg92 Tryd.sizeOf92 rfl hcc rfl rfl (?_)
      refine WL.alloc Tryd.zeroValue92 rfl ?_
      intro g_1 w_1 hge_1 hlt_1 hb_1 k_1
      have zs_k_1 := k_1.size
      replace hw := hw.pure k_1
      replace hB := hB.pure k_1
      replace hI := hI.pure k_1
      refine WL.stores Tryd.sizeOf92 hb_1 rfl rfl (by first | (simp; done) | (simp; omega) | rfl) (by first | exact Enc.one _ _ | (intro u hu; obtain ⟨x, _, rfl⟩ := List.mem_map.1 hu; rfl) | (simp [Value.oneCell']; done) | (simp [Value.oneCell', Value.cells]; done)) (by first | (simp; done) | (simp; omega) | (simp [Value.cells]; done) | (simp [Value.cells]; omega) | exact Nat.le_of_ble_eq_true rfl) rfl ?_
      intro w_2 hs_2 hn_2 k_2
      have zs_k_2 := k_2.size
      replace hw := hw.chg k_2 (by first | (intro x h1 h2; exact h2) | (intro x h0 h1 h2; exact hS x h1 h2) | (intro x h0 h1 h2; have h3 : _ = _ := h2; subst h3; exact hSR h1.1) | (intro x h1 h2; have h3 : _ = _ := h2; subst h3; assumption) | (intro x h1 h2; have h3 : _ = _ := h2; exfalso; omega) | (intro b h1 h2 h3; have h4 : _ = _ := h3; (try dsimp only at h2); exfalso; omega) | (intro h1; have h2 : _ = _ := h1; exfalso; omega) | (intro h1; have h2 : _ ≤ _ := h1; exfalso; omega) | (intros; exfalso; (try dsimp only at *); omega) | (intro b h1 h2 h3; exfalso; have h4 := h3.2; (try dsimp only at *); omega) | (intro h1; exfalso; have h4 := h1.2; (try dsimp only at *); omega) | (intro x h1 h2; exfalso; have h4 := h2.2; (try dsimp only at *); omega) | (intro x h1 h2; exact ⟨_, rfl, h2⟩) | (intro x h1 h2; have h4 := h2.1; have h5 := h2.2; exfalso; omega) | (intro x h1 h2; exact h2.1) | (intro x h1 h2; rcases h2.1 with h3 | h3; exact h3; exfalso; omega) | (intro x h1 h2; rcases h2 with h3 | h3; exact h3; exfalso; omega))
      replace hB := hB.chg k_2 (by first | (intro x h1 h2; exact h2) | (intro x h0 h1 h2; exact hS x h1 h2) | (intro x h0 h1 h2; have h3 : _ = _ := h2; subst h3; exact hSR h1.1) | (intro x h1 h2; have h3 : _ = _ := h2; subst h3; assumption) | (intro x h1 h2; have h3 : _ = _ := h2; exfalso; omega) | (intro b h1 h2 h3; have h4 : _ = _ := h3; (try dsimp only at h2); exfalso; omega) | (intro h1; have h2 : _ = _ := h1; exfalso; omega) | (intro h1; have h2 : _ ≤ _ := h1; exfalso; omega) | (intros; exfalso; (try dsimp only at *); omega) | (intro b h1 h2 h3; exfalso; have h4 := h3.2; (try dsimp only at *); omega) | (intro h1; exfalso; have h4 := h1.2; (try dsimp only at *); omega) | (intro x h1 h2; exfalso; have h4 := h2.2; (try dsimp only at *); omega) | (intro x h1 h2; exact ⟨_, rfl, h2⟩) | (intro x h1 h2; have h4 := h2.1; have h5 := h2.2; exfalso; omega) | (intro x h1 h2; exact h2.1) | (intro x h1 h2; rcases h2.1 with h3 | h3; exact h3; exfalso; omega) | (intro x h1 h2; rcases h2 with h3 | h3; exact h3; exfalso; omega))
      replace hI := hI.chg k_2 (by first | (intro x h1 h2; exact h2) | (intro x h0 h1 h2; exact hS x h1 h2) | (intro x h0 h1 h2; have h3 : _ = _ := h2; subst h3; exact hSR h1.1) | (intro x h1 h2; have h3 : _ = _ := h2; subst h3; assumption) | (intro x h1 h2; have h3 : _ = _ := h2; exfalso; omega) | (intro b h1 h2 h3; have h4 : _ = _ := h3; (try dsimp only at h2); exfalso; omega) | (intro h1; have h2 : _ = _ := h1; exfalso; omega) | (intro h1; have h2 : _ ≤ _ := h1; exfalso; omega) | (intros; exfalso; (try dsimp only at *); omega) | (intro b h1 h2 h3; exfalso; have h4 := h3.2; (try dsimp only at *); omega) | (intro h1; exfalso; have h4 := h1.2; (try dsimp only at *); omega) | (intro x h1 h2; exfalso; have h4 := h2.2; (try dsimp only at *); omega) | (intro x h1 h2; exact ⟨_, rfl, h2⟩) | (intro x h1 h2; have h4 := h2.1; have h5 := h2.2; exfalso; omega) | (intro x h1 h2; exact h2.1) | (intro x h1 h2; rcases h2.1 with h3 | h3; exact h3; exfalso; omega) | (intro x h1 h2; rcases h2 with h3 | h3; exact h3; exfalso; omega))
      replace hb_1 := hn_2
      refine WL.nil (WX.then_normal (?_))
      have hb8 : Blk _ g_1 92 [vi x.1.1, vi x.1.2, vsl x.2] := hb_1
      refine WC.draw ((fun x => x = m)) [0, 1, 2, 3, 4, 5, 6, 7] [8] mixed rfl rfl (fun wd_3 kd_3 zd_3 => ?_)
      have zs_kd_3 := kd_3.size
      replace hw := hw.pure kd_3
      replace hB := hB.pure kd_3
      replace hI := hI.pure kd_3
      replace hb8 := hb8.pure kd_3
      apply DQ.step (E' := [(0, _)])
      case ho => rfl
      case hs => exact ⟨rfl, trivial⟩
      case hk => rfl
      case h1 =>
        intro wq_5 kq_5
        refine WL.move rfl rfl (?_)
        refine WL.nil ?_
        exact WX.one ⟨rfl, by first | exact Chg.refl _ _ | assumption⟩
      apply DQ.step (E' := [(21, _)])
      case ho => rfl
      case hs => exact ⟨rfl, trivial⟩
      case hk => rfl
      case h1 =>
        intro wq_6 kq_6
        refine WL.nilCheck rfl rfl (?_)
        refine WL.nil ?_
        exact WX.one ⟨rfl, by first | exact Chg.refl _ _ | assumption⟩
      apply DQ.step (E' := [(22, _)])
      case ho => rfl
      case hs => exact ⟨rfl, trivial⟩
      case hk => rfl
      case h1 =>
        intro wq_7 kq_7
        refine WL.fieldAddr (fld_86_2) rfl rfl (?_)
        refine WL.nil ?_
        exact WX.one ⟨rfl, by first | exact Chg.refl _ _ | assumption⟩
      apply DQ.step (E' := [(23, _)])
      case ho => rfl
      case hs => exact ⟨rfl, trivial⟩
      case hk => rfl
      case h1 =>
        intro wq_8 kq_8
        have zs_kq_8 := kq_8.size
        replace hw := hw.chg kq_8 (by first | (intro x h1 h2; exact h2) | (intro x h0 h1 h2; exact hS x h1 h2) | (intro x h0 h1 h2; have h3 : _ = _ := h2; subst h3; exact hSR h1.1) | (intro x h1 h2; have h3 : _ = _ := h2; subst h3; assumption) | (intro x h1 h2; have h3 : _ = _ := h2; exfalso; omega) | (intro b h1 h2 h3; have h4 : _ = _ := h3; (try dsimp only at h2); exfalso; omega) | (intro h1; have h2 : _ = _ := h1; exfalso; omega) | (intro h1; have h2 : _ ≤ _ := h1; exfalso; omega) | (intros; exfalso; (try dsimp only at *); omega) | (intro b h1 h2 h3; exfalso; have h4 := h3.2; (try dsimp only at *); omega) | (intro h1; exfalso; have h4 := h1.2; (try dsimp only at *); omega) | (intro x h1 h2; exfalso; have h4 := h2.2; (try dsimp only at *); omega) | (intro x h1 h2; exact ⟨_, rfl, h2⟩) | (intro x h1 h2; have h4 := h2.1; have h5 := h2.2; exfalso; omega) | (intro x h1 h2; exact h2.1) | (intro x h1 h2; rcases h2.1 with h3 | h3; exact h3; exfalso; omega) | (intro x h1 h2; rcases h2 with h3 | h3; exact h3; exfalso; omega))
        replace hB := hB.chg kq_8 (by first | (intro x h1 h2; exact h2) | (intro x h0 h1 h2; exact hS x h1 h2) | (intro x h0 h1 h2; have h3 : _ = _ := h2; subst h3; exact hSR h1.1) | (intro x h1 h2; have h3 : _ = _ := h2; subst h3; assumption) | (intro x h1 h2; have h3 : _ = _ := h2; exfalso; omega) | (intro b h1 h2 h3; have h4 : _ = _ := h3; (try dsimp only at h2); exfalso; omega) | (intro h1; have h2 : _ = _ := h1; exfalso; omega) | (intro h1; have h2 : _ ≤ _ := h1; exfalso; omega) | (intros; exfalso; (try dsimp only at *); omega) | (intro b h1 h2 h3; exfalso; have h4 := h3.2; (try dsimp only at *); omega) | (intro h1; exfalso; have h4 := h1.2; (try dsimp only at *); omega) | (intro x h1 h2; exfalso; have h4 := h2.2; (try dsimp only at *); omega) | (intro x h1 h2; exact ⟨_, rfl, h2⟩) | (intro x h1 h2; have h4 := h2.1; have h5 := h2.2; exfalso; omega) | (intro x h1 h2; exact h2.1) | (intro x h1 h2; rcases h2.1 with h3 | h3; exact h3; exfalso; omega) | (intro x h1 h2; rcases h2 with h3 | h3; exact h3; exfalso; omega))
        replace hb8 := hb8.chg kq_8 (by first | (intro x h1 h2; exact h2) | (intro x h0 h1 h2; exact hS x h1 h2) | (intro x h0 h1 h2; have h3 : _ = _ := h2; subst h3; exact hSR h1.1) | (intro x h1 h2; have h3 : _ = _ := h2; subst h3; assumption) | (intro x h1 h2; have h3 : _ = _ := h2; exfalso; omega) | (intro b h1 h2 h3; have h4 : _ = _ := h3; (try dsimp only at h2); exfalso; omega) | (intro h1; have h2 : _ = _ := h1; exfalso; omega) | (intro h1; have h2 : _ ≤ _ := h1; exfalso; omega) | (intros; exfalso; (try dsimp only at *); omega) | (intro b h1 h2 h3; exfalso; have h4 := h3.2; (try dsimp only at *); omega) | (intro h1; exfalso; have h4 := h1.2; (try dsimp only at *); omega) | (intro x h1 h2; exfalso; have h4 := h2.2; (try dsimp only at *); omega) | (intro x h1 h2; exact ⟨_, rfl, h2⟩) | (intro x h1 h2; have h4 := h2.1; have h5 := h2.2; exfalso; omega) | (intro x h1 h2; exact h2.1) | (intro x h1 h2; rcases h2.1 with h3 | h3; exact h3; exfalso; omega) | (intro x h1 h2; rcases h2 with h3 | h3; exact h3; exfalso; omega))
        refine WL.loadB Tryd.isAgg83 hB rfl rfl rfl (?_)
        refine WL.nil ?_
        exact WX.one ⟨rfl, by first | exact Chg.refl _ _ | assumption⟩
      apply DQ.step (E' := [(4, _)])
      case ho => rfl
      case hs => exact ⟨rfl, trivial⟩
      case hk => rfl
      case h1 =>
        intro wq_9 kq_9
        refine WL.fieldAddr (fld_92_0) rfl rfl (?_)
        refine WL.nil ?_
        exact WX.one ⟨rfl, by first | exact Chg.refl _ _ | assumption⟩
      apply DQ.step (E' := [(25, _)])
      case ho => rfl
      case hs => exact ⟨rfl, trivial⟩
      case hk => rfl
      case h1 =>
        intro wq_10 kq_10
        have zs_kq_10 := kq_10.size
        replace hw := hw.chg kq_10 (by first | (intro x h1 h2; exact h2) | (intro x h0 h1 h2; exact hS x h1 h2) | (intro x h0 h1 h2; have h3 : _ = _ := h2; subst h3; exact hSR h1.1) | (intro x h1 h2; have h3 : _ = _ := h2; subst h3; assumption) | (intro x h1 h2; have h3 : _ = _ := h2; exfalso; omega) | (intro b h1 h2 h3; have h4 : _ = _ := h3; (try dsimp only at h2); exfalso; omega) | (intro h1; have h2 : _ = _ := h1; exfalso; omega) | (intro h1; have h2 : _ ≤ _ := h1; exfalso; omega) | (intros; exfalso; (try dsimp only at *); omega) | (intro b h1 h2 h3; exfalso; have h4 := h3.2; (try dsimp only at *); omega) | (intro h1; exfalso; have h4 := h1.2; (try dsimp only at *); omega) | (intro x h1 h2; exfalso; have h4 := h2.2; (try dsimp only at *); omega) | (intro x h1 h2; exact ⟨_, rfl, h2⟩) | (intro x h1 h2; have h4 := h2.1; have h5 := h2.2; exfalso; omega) | (intro x h1 h2; exact h2.1) | (intro x h1 h2; rcases h2.1 with h3 | h3; exact h3; exfalso; omega) | (intro x h1 h2; rcases h2 with h3 | h3; exact h3; exfalso; omega))
        replace hB := hB.chg kq_10 (by first | (intro x h1 h2; exact h2) | (intro x h0 h1 h2; exact hS x h1 h2) | (intro x h0 h1 h2; have h3 : _ = _ := h2; subst h3; exact hSR h1.1) | (intro x h1 h2; have h3 : _ = _ := h2; subst h3; assumption) | (intro x h1 h2; have h3 : _ = _ := h2; exfalso; omega) | (intro b h1 h2 h3; have h4 : _ = _ := h3; (try dsimp only at h2); exfalso; omega) | (intro h1; have h2 : _ = _ := h1; exfalso; omega) | (intro h1; have h2 : _ ≤ _ := h1; exfalso; omega) | (intros; exfalso; (try dsimp only at *); omega) | (intro b h1 h2 h3; exfalso; have h4 := h3.2; (try dsimp only at *); omega) | (intro h1; exfalso; have h4 := h1.2; (try dsimp only at *); omega) | (intro x h1 h2; exfalso; have h4 := h2.2; (try dsimp only at *); omega) | (intro x h1 h2; exact ⟨_, rfl, h2⟩) | (intro x h1 h2; have h4 := h2.1; have h5 := h2.2; exfalso; omega) | (intro x h1 h2; exact h2.1) | (intro x h1 h2; rcases h2.1 with h3 | h3; exact h3; exfalso; omega) | (intro x h1 h2; rcases h2 with h3 | h3; exact h3; exfalso; omega))
        replace hb8 := hb8.chg kq_10 (by first | (intro x h1 h2; exact h2) | (intro x h0 h1 h2; exact hS x h1 h2) | (intro x h0 h1 h2; have h3 : _ = _ := h2; subst h3; exact hSR h1.1) | (intro x h1 h2; have h3 : _ = _ := h2; subst h3; assumption) | (intro x h1 h2; have h3 : _ = _ := h2; exfalso; omega) | (intro b h1 h2 h3; have h4 : _ = _ := h3; (try dsimp only at h2); exfalso; omega) | (intro h1; have h2 : _ = _ := h1; exfalso; omega) | (intro h1; have h2 : _ ≤ _ := h1; exfalso; omega) | (intros; exfalso; (try dsimp only at *); omega) | (intro b h1 h2 h3; exfalso; have h4 := h3.2; (try dsimp only at *); omega) | (intro h1; exfalso; have h4 := h1.2; (try dsimp only at *); omega) | (intro x h1 h2; exfalso; have h4 := h2.2; (try dsimp only at *); omega) | (intro x h1 h2; exact ⟨_, rfl, h2⟩) | (intro x h1 h2; have h4 := h2.1; have h5 := h2.2; exfalso; omega) | (intro x h1 h2; exact h2.1) | (intro x h1 h2; rcases h2.1 with h3 | h3; exact h3; exfalso; omega) | (intro x h1 h2; rcases h2 with h3 | h3; exact h3; exfalso; omega))
        refine WL.loads [vi x.1.1, vi x.1.2] Tryd.isAgg90 Tryd.sizeOf90 rfl (fun q v hv => ?_) rfl rfl ?_
        ·
          refine hb8.cell (j := 0 + 0 + q) ?_
          match q, hv with
          | 0, hv => exact hv
          | 1, hv => exact hv
        refine WL.nil ?_
        exact WX.one ⟨rfl, by first | exact Chg.refl _ _ | assumption⟩
      apply DQ.step (E' := [(4, _)])
      case ho => rfl
      case hs => exact ⟨rfl, trivial⟩
      case hk => rfl
      case h1 =>
        intro wq_11 kq_11
        refine WL.fieldAddr (fld_92_1) rfl rfl (?_)
        refine WL.nil ?_
        exact WX.one ⟨rfl, by first | exact Chg.refl _ _ | assumption⟩
      apply DQ.step (E' := [(27, _)])
      case ho => rfl
      case hs => exact ⟨rfl, trivial⟩
      case hk => rfl
      case h1 =>
        intro wq_12 kq_12
        have zs_kq_12 := kq_12.size
        replace hw := hw.chg kq_12 (by first | (intro x h1 h2; exact h2) | (intro x h0 h1 h2; exact hS x h1 h2) | (intro x h0 h1 h2; have h3 : _ = _ := h2; subst h3; exact hSR h1.1) | (intro x h1 h2; have h3 : _ = _ := h2; subst h3; assumption) | (intro x h1 h2; have h3 : _ = _ := h2; exfalso; omega) | (intro b h1 h2 h3; have h4 : _ = _ := h3; (try dsimp only at h2); exfalso; omega) | (intro h1; have h2 : _ = _ := h1; exfalso; omega) | (intro h1; have h2 : _ ≤ _ := h1; exfalso; omega) | (intros; exfalso; (try dsimp only at *); omega) | (intro b h1 h2 h3; exfalso; have h4 := h3.2; (try dsimp only at *); omega) | (intro h1; exfalso; have h4 := h1.2; (try dsimp only at *); omega) | (intro x h1 h2; exfalso; have h4 := h2.2; (try dsimp only at *); omega) | (intro x h1 h2; exact ⟨_, rfl, h2⟩) | (intro x h1 h2; have h4 := h2.1; have h5 := h2.2; exfalso; omega) | (intro x h1 h2; exact h2.1) | (intro x h1 h2; rcases h2.1 with h3 | h3; exact h3; exfalso; omega) | (intro x h1 h2; rcases h2 with h3 | h3; exact h3; exfalso; omega))
        replace hB := hB.chg kq_12 (by first | (intro x h1 h2; exact h2) | (intro x h0 h1 h2; exact hS x h1 h2) | (intro x h0 h1 h2; have h3 : _ = _ := h2; subst h3; exact hSR h1.1) | (intro x h1 h2; have h3 : _ = _ := h2; subst h3; assumption) | (intro x h1 h2; have h3 : _ = _ := h2; exfalso; omega) | (intro b h1 h2 h3; have h4 : _ = _ := h3; (try dsimp only at h2); exfalso; omega) | (intro h1; have h2 : _ = _ := h1; exfalso; omega) | (intro h1; have h2 : _ ≤ _ := h1; exfalso; omega) | (intros; exfalso; (try dsimp only at *); omega) | (intro b h1 h2 h3; exfalso; have h4 := h3.2; (try dsimp only at *); omega) | (intro h1; exfalso; have h4 := h1.2; (try dsimp only at *); omega) | (intro x h1 h2; exfalso; have h4 := h2.2; (try dsimp only at *); omega) | (intro x h1 h2; exact ⟨_, rfl, h2⟩) | (intro x h1 h2; have h4 := h2.1; have h5 := h2.2; exfalso; omega) | (intro x h1 h2; exact h2.1) | (intro x h1 h2; rcases h2.1 with h3 | h3; exact h3; exfalso; omega) | (intro x h1 h2; rcases h2 with h3 | h3; exact h3; exfalso; omega))
        replace hb8 := hb8.chg kq_12 (by first | (intro x h1 h2; exact h2) | (intro x h0 h1 h2; exact hS x h1 h2) | (intro x h0 h1 h2; have h3 : _ = _ := h2; subst h3; exact hSR h1.1) | (intro x h1 h2; have h3 : _ = _ := h2; subst h3; assumption) | (intro x h1 h2; have h3 : _ = _ := h2; exfalso; omega) | (intro b h1 h2 h3; have h4 : _ = _ := h3; (try dsimp only at h2); exfalso; omega) | (intro h1; have h2 : _ = _ := h1; exfalso; omega) | (intro h1; have h2 : _ ≤ _ := h1; exfalso; omega) | (intros; exfalso; (try dsimp only at *); omega) | (intro b h1 h2 h3; exfalso; have h4 := h3.2; (try dsimp only at *); omega) | (intro h1; exfalso; have h4 := h1.2; (try dsimp only at *); omega) | (intro x h1 h2; exfalso; have h4 := h2.2; (try dsimp only at *); omega) | (intro x h1 h2; exact ⟨_, rfl, h2⟩) | (intro x h1 h2; have h4 := h2.1; have h5 := h2.2; exfalso; omega) | (intro x h1 h2; exact h2.1) | (intro x h1 h2; rcases h2.1 with h3 | h3; exact h3; exfalso; omega) | (intro x h1 h2; rcases h2 with h3 | h3; exact h3; exfalso; omega))
        refine WL.loadB Tryd.isAgg26 hb8 rfl rfl rfl (?_)
        refine WL.nil ?_
        exact WX.one ⟨rfl, by first | exact Chg.refl _ _ | assumption⟩
      refine DQ.done (fun hd_4 => ?_)
      refine DL.step [(24, _), (26, _), (28, _)] rfl ⟨rfl, rfl, rfl, trivial⟩ rfl (fun wq_13 kq_13 => ?_)
      have zs_kq_13 := kq_13.size
      replace hw := hw.pure kq_13
      replace hB := hB.pure kq_13
      replace hI := hI.pure kq_13
      replace hb8 := hb8.pure kq_13
      replace hd_4 := hd_4.pure kq_13
      refine WL.mput (v := x.2) plOk Tryd.underlying83 hI.map rfl (show _ = some (kpl x.1) from rfl) (show _ = some (vsl x.2) from rfl) ?_
      intro w9 z9 hM9 k9
      have hI9 := hI.putMap hM9 k9 (fun p hp => by
        rcases mput_mem hp with h3 | h3
        ·
          exact .inl ⟨p, h3, rfl⟩
        ·
          subst h3
          exact .inr ⟨x, List.mem_of_getElem? hx, rfl⟩)
      rw [← puts_yes (kp := fun _ => true) hx rfl] at hI9
      have zs_k9 := k9.size
      replace hw := hw.chg k9 (by first | (intro x h1 h2; exact h2) | (intro x h0 h1 h2; exact hS x h1 h2) | (intro x h0 h1 h2; have h3 : _ = _ := h2; subst h3; exact hSR h1.1) | (intro x h1 h2; have h3 : _ = _ := h2; subst h3; assumption) | (intro x h1 h2; have h3 : _ = _ := h2; exfalso; omega) | (intro b h1 h2 h3; have h4 : _ = _ := h3; (try dsimp only at h2); exfalso; omega) | (intro h1; have h2 : _ = _ := h1; exfalso; omega) | (intro h1; have h2 : _ ≤ _ := h1; exfalso; omega) | (intros; exfalso; (try dsimp only at *); omega) | (intro b h1 h2 h3; exfalso; have h4 := h3.2; (try dsimp only at *); omega) | (intro h1; exfalso; have h4 := h1.2; (try dsimp only at *); omega) | (intro x h1 h2; exfalso; have h4 := h2.2; (try dsimp only at *); omega) | (intro x h1 h2; exact ⟨_, rfl, h2⟩) | (intro x h1 h2; have h4 := h2.1; have h5 := h2.2; exfalso; omega) | (intro x h1 h2; exact h2.1) | (intro x h1 h2; rcases h2.1 with h3 | h3; exact h3; exfalso; omega) | (intro x h1 h2; rcases h2 with h3 | h3; exact h3; exfalso; omega))
      replace hB := hB.chg k9 (by first | (intro x h1 h2; exact h2) | (intro x h0 h1 h2; exact hS x h1 h2) | (intro x h0 h1 h2; have h3 : _ = _ := h2; subst h3; exact hSR h1.1) | (intro x h1 h2; have h3 : _ = _ := h2; subst h3; assumption) | (intro x h1 h2; have h3 : _ = _ := h2; exfalso; omega) | (intro b h1 h2 h3; have h4 : _ = _ := h3; (try dsimp only at h2); exfalso; omega) | (intro h1; have h2 : _ = _ := h1; exfalso; omega) | (intro h1; have h2 : _ ≤ _ := h1; exfalso; omega) | (intros; exfalso; (try dsimp only at *); omega) | (intro b h1 h2 h3; exfalso; have h4 := h3.2; (try dsimp only at *); omega) | (intro h1; exfalso; have h4 := h1.2; (try dsimp only at *); omega) | (intro x h1 h2; exfalso; have h4 := h2.2; (try dsimp only at *); omega) | (intro x h1 h2; exact ⟨_, rfl, h2⟩) | (intro x h1 h2; have h4 := h2.1; have h5 := h2.2; exfalso; omega) | (intro x h1 h2; exact h2.1) | (intro x h1 h2; rcases h2.1 with h3 | h3; exact h3; exfalso; omega) | (intro x h1 h2; rcases h2 with h3 | h3; exact h3; exfalso; omega))
      replace hb8 := hb8.chg k9 (by first | (intro x h1 h2; exact h2) | (intro x h0 h1 h2; exact hS x h1 h2) | (intro x h0 h1 h2; have h3 : _ = _ := h2; subst h3; exact hSR h1.1) | (intro x h1 h2; have h3 : _ = _ := h2; subst h3; assumption) | (intro x h1 h2; have h3 : _ = _ := h2; exfalso; omega) | (intro b h1 h2 h3; have h4 : _ = _ := h3; (try dsimp only at h2); exfalso; omega) | (intro h1; have h2 : _ = _ := h1; exfalso; omega) | (intro h1; have h2 : _ ≤ _ := h1; exfalso; omega) | (intros; exfalso; (try dsimp only at *); omega) | (intro b h1 h2 h3; exfalso; have h4 := h3.2; (try dsimp only at *); omega) | (intro h1; exfalso; have h4 := h1.2; (try dsimp only at *); omega) | (intro x h1 h2; exfalso; have h4 := h2.2; (try dsimp only at *); omega) | (intro x h1 h2; exact ⟨_, rfl, h2⟩) | (intro x h1 h2; have h4 := h2.1; have h5 := h2.2; exfalso; omega) | (intro x h1 h2; exact h2.1) | (intro x h1 h2; rcases h2.1 with h3 | h3; exact h3; exfalso; omega) | (intro x h1 h2; rcases h2 with h3 | h3; exact h3; exfalso; omega))
      replace hd_4 := hd_4.chg k9 (by first | (intro x h1 h2; exact h2) | (intro x h0 h1 h2; exact hS x h1 h2) | (intro x h0 h1 h2; have h3 : _ = _ := h2; subst h3; exact hSR h1.1) | (intro x h1 h2; have h3 : _ = _ := h2; subst h3; assumption) | (intro x h1 h2; have h3 : _ = _ := h2; exfalso; omega) | (intro b h1 h2 h3; have h4 : _ = _ := h3; (try dsimp only at h2); exfalso; omega) | (intro h1; have h2 : _ = _ := h1; exfalso; omega) | (intro h1; have h2 : _ ≤ _ := h1; exfalso; omega) | (intros; exfalso; (try dsimp only at *); omega) | (intro b h1 h2 h3; exfalso; have h4 := h3.2; (try dsimp only at *); omega) | (intro h1; exfalso; have h4 := h1.2; (try dsimp only at *); omega) | (intro x h1 h2; exfalso; have h4 := h2.2; (try dsimp only at *); omega) | (intro x h1 h2; exact ⟨_, rfl, h2⟩) | (intro x h1 h2; have h4 := h2.1; have h5 := h2.2; exfalso; omega) | (intro x h1 h2; exact h2.1) | (intro x h1 h2; rcases h2.1 with h3 | h3; exact h3; exfalso; omega) | (intro x h1 h2; rcases h2 with h3 | h3; exact h3; exfalso; omega))
      refine WL.nil ?_
      refine WX.one0 (v := undef) ⟨hd_4, ?_⟩
      refine DL.done (fun we_14 ke_14 => ?_)
      have zs_ke_14 := ke_14.size
      replace hw := hw.pure ke_14
      replace hB := hB.pure ke_14
      replace hb8 := hb8.pure ke_14
      replace hd_4 := hd_4.pure ke_14
      replace hI9 := hI9.pure ke_14
      refine WX.block_normal (WX.then_normal (WC.region (WL.add64 rfl rfl (by first | omega | (constructor <;> omega)) rfl (WL.move rfl rfl (WL.nil (?_))))))
      exact WX.loop_next (i + 1) ⟨rfl, rfl, rfl, rfl, trivial⟩ ⟨by omega, hB, hI9, hw, by omega⟩ (by omega)
    ·
      refine WL.nil (WX.then_normal (WC.seq (WC.cond_false rfl (WC.exit (WX.then_exit (WX.then_exit (WX.block_here (?_))))))))
      refine WX.then_normal (WC.seq (WC.region (WL.move rfl rfl (WL.nilCheck rfl rfl (WL.fieldAddr (fld_86_4) rfl rfl (?_))))))
      refine WL.store Tryd.sizeOf84 hB rfl rfl rfl rfl ?_
      intro w_1 hs_1 hn_1 k_1
      have zs_k_1 := k_1.size
      replace hw := hw.chg k_1 (by first | (intro x h1 h2; exact h2) | (intro x h0 h1 h2; exact hS x h1 h2) | (intro x h0 h1 h2; have h3 : _ = _ := h2; subst h3; exact hSR h1.1) | (intro x h1 h2; have h3 : _ = _ := h2; subst h3; assumption) | (intro x h1 h2; have h3 : _ = _ := h2; exfalso; omega) | (intro b h1 h2 h3; have h4 : _ = _ := h3; (try dsimp only at h2); exfalso; omega) | (intro h1; have h2 : _ = _ := h1; exfalso; omega) | (intro h1; have h2 : _ ≤ _ := h1; exfalso; omega) | (intros; exfalso; (try dsimp only at *); omega) | (intro b h1 h2 h3; exfalso; have h4 := h3.2; (try dsimp only at *); omega) | (intro h1; exfalso; have h4 := h1.2; (try dsimp only at *); omega) | (intro x h1 h2; exfalso; have h4 := h2.2; (try dsimp only at *); omega) | (intro x h1 h2; exact ⟨_, rfl, h2⟩) | (intro x h1 h2; have h4 := h2.1; have h5 := h2.2; exfalso; omega) | (intro x h1 h2; exact h2.1) | (intro x h1 h2; rcases h2.1 with h3 | h3; exact h3; exfalso; omega) | (intro x h1 h2; rcases h2 with h3 | h3; exact h3; exfalso; omega))
      replace hI := hI.chg k_1 (by first | (intro x h1 h2; exact h2) | (intro x h0 h1 h2; exact hS x h1 h2) | (intro x h0 h1 h2; have h3 : _ = _ := h2; subst h3; exact hSR h1.1) | (intro x h1 h2; have h3 : _ = _ := h2; subst h3; assumption) | (intro x h1 h2; have h3 : _ = _ := h2; exfalso; omega) | (intro b h1 h2 h3; have h4 : _ = _ := h3; (try dsimp only at h2); exfalso; omega) | (intro h1; have h2 : _ = _ := h1; exfalso; omega) | (intro h1; have h2 : _ ≤ _ := h1; exfalso; omega) | (intros; exfalso; (try dsimp only at *); omega) | (intro b h1 h2 h3; exfalso; have h4 := h3.2; (try dsimp only at *); omega) | (intro h1; exfalso; have h4 := h1.2; (try dsimp only at *); omega) | (intro x h1 h2; exfalso; have h4 := h2.2; (try dsimp only at *); omega) | (intro x h1 h2; exact ⟨_, rfl, h2⟩) | (intro x h1 h2; have h4 := h2.1; have h5 := h2.2; exfalso; omega) | (intro x h1 h2; exact h2.1) | (intro x h1 h2; rcases h2.1 with h3 | h3; exact h3; exfalso; omega) | (intro x h1 h2; rcases h2 with h3 | h3; exact h3; exfalso; omega))
      replace hB := hn_1
      refine WL.nil (WX.then_normal (WC.seq (WC.region (WL.assign rfl rfl (WL.nil (WX.then_normal (WC.ret (?_))))))))
      refine WX.ret1 (.inl rfl) Tryd.results18 rfl ?_
      first
        | (have hh : offS s = true := ho
           refine ⟨_, rfl, rfl, ?_, hw⟩
           rw [show flushS s = spendS s from by simp [flushS, ho]]
           exact h2)
        | (have hil : i = ws.length := by omega
           subst hil
           rw [spendS_waits] at hws
           rw [spendS_last] at hls
           refine ⟨_, rfl, rfl, ⟨aR, hfok, m, ga, gc, none, 0, [], puts (fun _ => true) ws ls ws.length, Eq.mp (congrArg (Blk _ R 86) ?_) hB, ?_, ?_, ?_⟩, hw⟩
           ·
             simp [flushS, ho]
           ·
             simp only [flushS, ho]
             exact (hI.mono (fun x hx => hx.1.1)).noWaits
           ·
             simp only [flushS, ho]
             rw [xsm_puts, hls, hws, xsm_len]
             rfl
           ·
             simp [flushS, ho, xsm])
  ·
    refine WL.not rfl rfl (WL.assign rfl rfl (WL.nil (WX.then_normal (WC.cond_true rfl (WC.seq (WC.region (WL.assign rfl rfl (?_))))))))
    refine WL.nil (WX.then_normal (WC.ret (WX.block_ret (WX.then_ret (?_)))))
    refine WX.ret1 (.inl rfl) Tryd.results18 rfl ?_
    first
      | (have hh : offS s = true := ho
         refine ⟨_, rfl, rfl, ?_, hw⟩
         rw [show flushS s = spendS s from by simp [flushS, ho]]
         exact h2)
      | (have hil : i = ws.length := by omega
         subst hil
         rw [spendS_waits] at hws
         rw [spendS_last] at hls
         refine ⟨_, rfl, rfl, ⟨aR, hfok, m, ga, gc, none, 0, [], puts (fun _ => true) ws ls ws.length, Eq.mp (congrArg (Blk _ R 86) ?_) hB, ?_, ?_, ?_⟩, hw⟩
         ·
           simp [flushS, ho]
         ·
           simp only [flushS, ho]
           exact (hI.mono (fun x hx => hx.1.1)).noWaits
         ·
           simp only [flushS, ho]
           rw [xsm_puts, hls, hws, xsm_len]
           rfl
         ·
           simp [flushS, ho, xsm])
end Go.Proofs.YtjeldcjchipdgaaDoor
