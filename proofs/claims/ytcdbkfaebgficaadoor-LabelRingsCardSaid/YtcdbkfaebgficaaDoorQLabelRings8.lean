import Derived.Test.YtcdbkfaebgficaaDoorQLabelRings7
namespace Go.Proofs.YtcdbkfaebgficaaDoor
open Go.RowKit Go.HL
set_option maxRecDepth 100000

theorem RK.old {A : Nat → Prop} {w : World} {R : Nat} {s : RA} (h : RK A w R s) : RK (fun b => A b ∧ b < w.heap.size) w R s := by
  obtain ⟨m, ga, gc, wa, wc, ws, ls, hB, hI, hl⟩ := h.ex
  exact ⟨⟨h.aR, hB.lt⟩, h.ok, m, ga, gc, wa, wc, ws, ls, hB, ⟨⟨hI.sm, hI.map.lt⟩, hI.map, hI.gone.lt, hI.waits.lt, fun p hp => (hI.byl p hp).lt, fun p hp => (hI.byw p hp).lt⟩, hl⟩
def inS (s : RA) (d a : Int) : Prop := 0 ≤ d ∧ d < s.dn ∧ 0 ≤ a ∧ a < s.sn
instance (s : RA) (d a : Int) : Decidable (inS s d a) := inferInstanceAs (Decidable (0 ≤ d ∧ d < s.dn ∧ 0 ≤ a ∧ a < s.sn))
def isS (s : RA) (d : Int) : Prop := 0 ≤ d ∧ d < s.dn
instance (s : RA) (d : Int) : Decidable (isS s d) := inferInstanceAs (Decidable (0 ≤ d ∧ d < s.dn))
def goneS (s : RA) (d : Int) : Bool := s.gone.getD d.toNat false
theorem goneS_at {s : RA} (h : s.ok) {d : Int} (hd : isS s d) : s.gone[d.toNat]? = some (goneS s d) := by
  have : d.toNat < s.gone.length := by rw [h.gl]; have h1 := hd.1; have h2 := hd.2; omega
  rw [goneS, List.getD_eq_getElem?_getD, List.getElem?_eq_getElem this]
  rfl
theorem Drives_calls {A : Nat → Prop} {w : World} {R : Nat} {s : RA} (h : RK A w R s) : Calls Tryd.prog 59 [ptr R].toArray w (Ret fun v w' => v = vi s.dn ∧ Chg Nob w w') := by
  obtain ⟨m, ga, gc, wa, wc, ws, ls, hB, -⟩ := h.ex
  have hw := Chg.refl Nob w
  refine Calls.of_WC Tryd.func59 rfl Tryd.ntmps59 (by simp) ?_
  refine WC.seq (WC.region (WL.assign rfl rfl (WL.nil (WX.then_normal (WC.seq (WC.seq (WC.region (?_))))))))
  refine WL.move rfl rfl (?_)
  refine WL.ptrNil Tryd.underlying38 rfl rfl rfl ?_
  refine WL.nil (WX.then_normal (WC.cond_false rfl (WC.skip (WX.then_normal (WC.seq (WC.region (WL.move rfl rfl (?_))))))))
  refine WL.nilCheck rfl rfl (WL.fieldAddr (fld_100_0) rfl rfl (WL.loadB Tryd.isAgg3 hB rfl rfl rfl (WL.assign rfl rfl (WL.nil (WX.then_normal (WC.ret (?_)))))))
  refine WX.ret1 (.inl rfl) Tryd.results59 rfl ?_
  exact ⟨_, rfl, rfl, hw⟩
theorem Sectors_calls {A : Nat → Prop} {w : World} {R : Nat} {s : RA} (h : RK A w R s) : Calls Tryd.prog 73 [ptr R].toArray w (Ret fun v w' => v = vi s.sn ∧ Chg Nob w w') := by
  obtain ⟨m, ga, gc, wa, wc, ws, ls, hB, -⟩ := h.ex
  have hw := Chg.refl Nob w
  refine Calls.of_WC Tryd.func73 rfl Tryd.ntmps73 (by simp) ?_
  refine WC.seq (WC.region (WL.assign rfl rfl (WL.nil (WX.then_normal (WC.seq (WC.seq (WC.region (?_))))))))
  refine WL.move rfl rfl (?_)
  refine WL.ptrNil Tryd.underlying38 rfl rfl rfl ?_
  refine WL.nil (WX.then_normal (WC.cond_false rfl (WC.skip (WX.then_normal (WC.seq (WC.region (WL.move rfl rfl (?_))))))))
  refine WL.nilCheck rfl rfl (WL.fieldAddr (fld_100_1) rfl rfl (WL.loadB Tryd.isAgg3 hB rfl rfl rfl (WL.assign rfl rfl (WL.nil (WX.then_normal (WC.ret (?_)))))))
  refine WX.ret1 (.inl rfl) Tryd.results73 rfl ?_
  exact ⟨_, rfl, rfl, hw⟩
/-- why a sector isn't to be had: 0: it is -/
def errS (s : RA) (d a : Int) : Int := if ¬ inS s d a then 1 else if goneS s d = true then 3 else if s.off = true then 16 else 0
theorem Read_calls {A : Nat → Prop} {w : World} {R : Nat} {s : RA} (h : RK A w R s) (d a : Int) :
    Calls Tryd.prog 41 [ptr R, vi d, vi a].toArray w (Ret fun v w' => (∃ (r : Rw) (e : Int), v = .tuple #[vsl r, vi e] ∧ e = errS s d a ∧ (e = 0 → r.xs = heldS s (d, a)) ∧ (e ≠ 0 → r = ⟨none, 0, []⟩) ∧ Row (w.heap.size ≤ ·) w' 5 eb r.ao r.cap r.xs) ∧ Chg Nob w w') := by
  have hw := Chg.refl Nob w
  refine Calls.of_WC Tryd.func41 rfl Tryd.ntmps41 (by simp) ?_
  refine WC.seq (WC.region (WL.assign rfl rfl (WL.assign rfl rfl (WL.nil (WX.then_normal (WC.seq (WC.block (?_))))))))
  refine WC.seq (WC.region (WL.move rfl rfl (WL.move rfl rfl (WL.move rfl rfl (?_)))))
  refine WL.call eg_67 rfl rfl (in_calls h d a) ?_
  rintro v w1 ⟨rfl, k1⟩
  have zs_k1 := k1.size
  replace h := h.pure k1
  replace hw := hw.pure k1
  obtain ⟨m, ga, gc, wa, wc, ws, ls, hB, hI, -⟩ := h.ex
  by_cases h12 : inS s d a
  ·
    rw [show decide (0 ≤ d ∧ d < (s.dn : Int) ∧ 0 ≤ a ∧ a < (s.sn : Int)) = true from decide_eq_true h12]
    refine WL.not rfl rfl (WL.assign rfl rfl (WL.nil (WX.then_normal (WC.cond_false rfl (WC.seq (WC.region (WL.move rfl rfl (?_))))))))
    refine WL.nilCheck rfl rfl (WL.fieldAddr (fld_100_3) rfl rfl (WL.loadB Tryd.isAgg81 hB rfl rfl rfl (WL.move rfl rfl (?_))))
    have hgd := goneS_at h.ok (d := d) ⟨h12.1, h12.2.1⟩
    refine WL.indexT (e := ebool) Tryd.underlying81 Tryd.sizeOf4 hI.gone.rsl rfl rfl ⟨hgd, by have := h12.1; omega⟩ rfl ?_
    intro bb oo hcc
    refine WL.load Tryd.isAgg4 rfl (hcc 0 _ rfl) rfl ?_
    rcases hg : goneS s d with _ | _
    ·
      refine WL.assign rfl rfl (WL.nil (WX.then_normal (WC.cond_false rfl (WC.seq (WC.region (WL.move rfl rfl (WL.nilCheck rfl rfl (?_))))))))
      refine WL.fieldAddr (fld_100_5) rfl rfl (?_)
      refine WL.loadB Tryd.isAgg4 hB rfl rfl rfl ?_
      rcases ho : s.off with _ | _
      ·
        refine WL.assign rfl rfl (WL.nil (WX.then_normal (WC.cond_false rfl (WC.skip (WX.block_normal (WX.then_normal (WC.seq (?_))))))))
        refine WC.region (WL.move rfl rfl (WL.move rfl rfl (WL.move rfl rfl (WL.bld rfl (bld_110_0_1 _ _) rfl (?_)))))
        refine WL.call eg_69 rfl rfl (held_calls h (d, a)) ?_
        rintro v w2 ⟨⟨r, rfl, hr, hx⟩, k2⟩
        have zs_k2 := k2.size
        replace h := h.pure k2
        replace hw := hw.pure k2
        replace hB := hB.pure k2
        replace hI := hI.pure k2
        refine WL.call eg_68 rfl rfl (bclone_calls hr (by rw [hx]; exact heldS_len h.ok _)) ?_
        rintro v w3 ⟨⟨g, c, rfl, hq, hq1, hq2⟩, k3⟩
        have zs_k3 := k3.size
        replace h := h.pure k3
        replace hw := hw.pure k3
        replace hB := hB.pure k3
        replace hI := hI.pure k3
        replace hr := hr.pure k3
        refine WL.assign rfl rfl (WL.assign rfl rfl (WL.nil (WX.then_normal (WC.ret (?_)))))
        refine WX.ret2 (.inl rfl) Tryd.results41 rfl rfl ?_
        first
          | exact ⟨_, rfl, ⟨⟨some ⟨g, 0, none⟩, c, r.xs⟩, 0, rfl, by simp [errS, h12, hg, ho], fun _ => hx, fun h0 => absurd rfl h0, hq.mono (fun b hb => by omega)⟩, hw⟩
          | exact ⟨_, rfl, ⟨⟨none, 0, []⟩, 16, rfl, by simp [errS, h12, hg, ho], fun h0 => absurd h0 (by decide), fun _ => rfl, Row.nil _ _ _ _⟩, hw⟩
          | exact ⟨_, rfl, ⟨⟨none, 0, []⟩, 3, rfl, by simp [errS, h12, hg], fun h0 => absurd h0 (by decide), fun _ => rfl, Row.nil _ _ _ _⟩, hw⟩
          | exact ⟨_, rfl, ⟨⟨none, 0, []⟩, 1, rfl, by simp [errS, h12], fun h0 => absurd h0 (by decide), fun _ => rfl, Row.nil _ _ _ _⟩, hw⟩
      ·
        refine WL.assign rfl rfl (WL.nil (WX.then_normal (WC.cond_true rfl (WC.seq (WC.region (WL.assign rfl rfl (WL.assign rfl rfl (?_))))))))
        refine WL.nil (WX.then_normal (WC.ret (WX.block_ret (WX.then_ret (?_)))))
        refine WX.ret2 (.inl rfl) Tryd.results41 rfl rfl ?_
        first
          | exact ⟨_, rfl, ⟨⟨some ⟨g, 0, none⟩, c, r.xs⟩, 0, rfl, by simp [errS, h12, hg, ho], fun _ => hx, fun h0 => absurd rfl h0, hq.mono (fun b hb => by omega)⟩, hw⟩
          | exact ⟨_, rfl, ⟨⟨none, 0, []⟩, 16, rfl, by simp [errS, h12, hg, ho], fun h0 => absurd h0 (by decide), fun _ => rfl, Row.nil _ _ _ _⟩, hw⟩
          | exact ⟨_, rfl, ⟨⟨none, 0, []⟩, 3, rfl, by simp [errS, h12, hg], fun h0 => absurd h0 (by decide), fun _ => rfl, Row.nil _ _ _ _⟩, hw⟩
          | exact ⟨_, rfl, ⟨⟨none, 0, []⟩, 1, rfl, by simp [errS, h12], fun h0 => absurd h0 (by decide), fun _ => rfl, Row.nil _ _ _ _⟩, hw⟩
    ·
      refine WL.assign rfl rfl (WL.nil (WX.then_normal (WC.cond_true rfl (WC.seq (WC.region (WL.assign rfl rfl (WL.assign rfl rfl (?_))))))))
      refine WL.nil (WX.then_normal (WC.ret (WX.block_ret (WX.then_ret (?_)))))
      refine WX.ret2 (.inl rfl) Tryd.results41 rfl rfl ?_
      first
        | exact ⟨_, rfl, ⟨⟨some ⟨g, 0, none⟩, c, r.xs⟩, 0, rfl, by simp [errS, h12, hg, ho], fun _ => hx, fun h0 => absurd rfl h0, hq.mono (fun b hb => by omega)⟩, hw⟩
        | exact ⟨_, rfl, ⟨⟨none, 0, []⟩, 16, rfl, by simp [errS, h12, hg, ho], fun h0 => absurd h0 (by decide), fun _ => rfl, Row.nil _ _ _ _⟩, hw⟩
        | exact ⟨_, rfl, ⟨⟨none, 0, []⟩, 3, rfl, by simp [errS, h12, hg], fun h0 => absurd h0 (by decide), fun _ => rfl, Row.nil _ _ _ _⟩, hw⟩
        | exact ⟨_, rfl, ⟨⟨none, 0, []⟩, 1, rfl, by simp [errS, h12], fun h0 => absurd h0 (by decide), fun _ => rfl, Row.nil _ _ _ _⟩, hw⟩
  ·
    rw [show decide (0 ≤ d ∧ d < (s.dn : Int) ∧ 0 ≤ a ∧ a < (s.sn : Int)) = false from decide_eq_false h12]
    refine WL.not rfl rfl (WL.assign rfl rfl (WL.nil (WX.then_normal (WC.cond_true rfl (WC.seq (WC.region (WL.assign rfl rfl (?_))))))))
    refine WL.assign rfl rfl (WL.nil (WX.then_normal (WC.ret (WX.block_ret (WX.then_ret (?_))))))
    refine WX.ret2 (.inl rfl) Tryd.results41 rfl rfl ?_
    first
      | exact ⟨_, rfl, ⟨⟨some ⟨g, 0, none⟩, c, r.xs⟩, 0, rfl, by simp [errS, h12, hg, ho], fun _ => hx, fun h0 => absurd rfl h0, hq.mono (fun b hb => by omega)⟩, hw⟩
      | exact ⟨_, rfl, ⟨⟨none, 0, []⟩, 16, rfl, by simp [errS, h12, hg, ho], fun h0 => absurd h0 (by decide), fun _ => rfl, Row.nil _ _ _ _⟩, hw⟩
      | exact ⟨_, rfl, ⟨⟨none, 0, []⟩, 3, rfl, by simp [errS, h12, hg], fun h0 => absurd h0 (by decide), fun _ => rfl, Row.nil _ _ _ _⟩, hw⟩
      | exact ⟨_, rfl, ⟨⟨none, 0, []⟩, 1, rfl, by simp [errS, h12], fun h0 => absurd h0 (by decide), fun _ => rfl, Row.nil _ _ _ _⟩, hw⟩
/-! a write or flush is counted -/
def offS (s : RA) : Bool := s.off || (s.armed && decide (s.left = 0))
def spendS (s : RA) : RA := if offS s = true then { s with off := true } else { s with left := if s.armed = true then s.left - 1 else s.left }
theorem spendS_ok {s : RA} (h : s.ok) : (spendS s).ok := by
  unfold spendS
  split
  · exact ⟨h.dn, h.sn, h.gl, h.ll, h.lw, h.lf, h.nd⟩
  · rename_i h1
    refine ⟨h.dn, h.sn, h.gl, h.ll, h.lw, ?_, h.nd⟩
    obtain ⟨l1, l2, l3⟩ := h.lf
    show (s.armed = true → 0 ≤ (if s.armed = true then s.left - 1 else s.left)) ∧ _ ≤ (if s.armed = true then s.left - 1 else s.left) ∧ (if s.armed = true then s.left - 1 else s.left) ≤ _
    by_cases h2 : s.armed = true
    · rw [if_pos h2]
      have := l1 h2
      simp [offS, h2] at h1
      have h3 := h1.2
      refine ⟨fun _ => ?_, ?_, ?_⟩ <;> omega
    · rw [if_neg h2]
      exact ⟨fun h3 => absurd h3 h2, l2, l3⟩
theorem spend_calls {A : Nat → Prop} {w : World} {R : Nat} {s : RA} (h : RK A w R s) :
    Calls Tryd.prog 66 [ptr R].toArray w (Ret fun v w' => v = .bool (!offS s) ∧ RK A w' R (spendS s) ∧ Chg (fun x => x = R) w w' ∧ w'.heap.size = w.heap.size) := by
  have aR := h.aR
  have hok := h.ok
  have hsok := spendS_ok h.ok
  obtain ⟨m, ga, gc, wa, wc, ws, ls, hB, hI, hls, hws⟩ := h.ex
  replace hI := hI.open hB
  have hw := Chg.refl (fun x => x = R) w
  have hsz : w.heap.size = w.heap.size := rfl
  refine Calls.of_WC Tryd.func66 rfl Tryd.ntmps66 (by simp) ?_
  refine WC.seq (WC.region (WL.assign rfl rfl (WL.nil (WX.then_normal (WC.seq (WC.seq (WC.region (?_))))))))
  refine WL.move rfl rfl (WL.nilCheck rfl rfl (WL.fieldAddr (fld_100_6) rfl rfl (WL.loadB Tryd.isAgg4 hB rfl rfl rfl (WL.move rfl rfl (?_)))))
  refine WL.caseB (t := 7) rfl (fun hb7 => ?_) (fun hb7 => ?_)
  ·
    refine WL.want rfl rfl rfl (WL.move rfl rfl (WL.want rfl rfl rfl (WL.nilCheck rfl rfl (WL.want rfl rfl rfl (WL.fieldAddr (fld_100_7) rfl rfl (WL.want rfl rfl rfl (WL.loadB Tryd.isAgg3 hB rfl rfl rfl (?_))))))))
    refine WL.want rfl rfl rfl (?_)
    refine WL.eql? rfl rfl rfl (fun h12 => ?_) (fun h12 => ?_)
    ·
      refine WL.pickT rfl rfl rfl (WL.nil (WX.then_normal (WC.cond_true rfl (WC.region (WL.move rfl rfl (WL.nilCheck rfl rfl (WL.fieldAddr (fld_100_5) rfl rfl (?_))))))))
      refine WL.store Tryd.sizeOf4 hB rfl rfl rfl rfl ?_
      intro w_1 hs_1 hn_1 k_1
      have zs_k_1 := k_1.size
      replace hI := hI.chg k_1 (by first | (intro x h1 h2; exact h2) | (intro x h0 h1 h2; exact hS x h1 h2) | (intro x h0 h1 h2; have h3 : _ = _ := h2; subst h3; exact hSR h1.1) | (intro x h1 h2; have h3 : _ = _ := h2; subst h3; assumption) | (intro x h1 h2; have h3 : _ = _ := h2; exfalso; omega) | (intro b h1 h2 h3; have h4 : _ = _ := h3; (try dsimp only at h2); exfalso; omega) | (intro h1; have h2 : _ = _ := h1; exfalso; omega) | (intro h1; have h2 : _ ≤ _ := h1; exfalso; omega) | (intros; exfalso; (try dsimp only at *); omega) | (intro b h1 h2 h3; exfalso; have h4 := h3.2; (try dsimp only at *); omega) | (intro h1; exfalso; have h4 := h1.2; (try dsimp only at *); omega) | (intro x h1 h2; exfalso; have h4 := h2.2; (try dsimp only at *); omega) | (intro x h1 h2; exact ⟨_, rfl, h2⟩) | (intro x h1 h2; have h4 := h2.1; have h5 := h2.2; exfalso; omega) | (intro x h1 h2; exact h2.1) | (intro x h1 h2; rcases h2.1 with h3 | h3; exact h3; exfalso; omega) | (intro x h1 h2; rcases h2 with h3 | h3; exact h3; exfalso; omega))
      replace hw := hw.chg k_1 (by first | (intro x h1 h2; exact h2) | (intro x h0 h1 h2; exact hS x h1 h2) | (intro x h0 h1 h2; have h3 : _ = _ := h2; subst h3; exact hSR h1.1) | (intro x h1 h2; have h3 : _ = _ := h2; subst h3; assumption) | (intro x h1 h2; have h3 : _ = _ := h2; exfalso; omega) | (intro b h1 h2 h3; have h4 : _ = _ := h3; (try dsimp only at h2); exfalso; omega) | (intro h1; have h2 : _ = _ := h1; exfalso; omega) | (intro h1; have h2 : _ ≤ _ := h1; exfalso; omega) | (intros; exfalso; (try dsimp only at *); omega) | (intro b h1 h2 h3; exfalso; have h4 := h3.2; (try dsimp only at *); omega) | (intro h1; exfalso; have h4 := h1.2; (try dsimp only at *); omega) | (intro x h1 h2; exfalso; have h4 := h2.2; (try dsimp only at *); omega) | (intro x h1 h2; exact ⟨_, rfl, h2⟩) | (intro x h1 h2; have h4 := h2.1; have h5 := h2.2; exfalso; omega) | (intro x h1 h2; exact h2.1) | (intro x h1 h2; rcases h2.1 with h3 | h3; exact h3; exfalso; omega) | (intro x h1 h2; rcases h2 with h3 | h3; exact h3; exfalso; omega))
      replace hB := hn_1
      refine WL.nil (WX.then_normal (WC.seq (WC.seq (WC.region (WL.move rfl rfl (WL.nilCheck rfl rfl (WL.fieldAddr (fld_100_5) rfl rfl (?_))))))))
      refine WL.loadB Tryd.isAgg4 hB rfl rfl rfl (WL.nil (WX.then_normal (?_)))
      first | refine WC.cond_dec rfl (fun hc20 => ?_) (fun hc20 => ?_) | refine WC.cond_split rfl (fun hc20 => ?_) (fun hc20 => ?_)
      ·
        refine WC.seq (WC.region (WL.assign rfl rfl (WL.nil (WX.then_normal (WC.ret (WX.then_ret (?_)))))))
        refine WX.ret1 (.inl rfl) Tryd.results66 rfl ?_
        first
          | (exfalso; cases hc20; done)
          | (exfalso; rw [hb7] at hc24; cases hc24; done)
          | (refine ⟨_, rfl, ?_, ⟨aR, hsok, m, ga, gc, wa, wc, ws, ls, Eq.mp (congrArg (Blk _ R 100) ?_) hB, ?_, ?_, ?_⟩, hw, by omega⟩
             ·
               congr 1
               simp [offS, *]
             ·
               simp [rcells, spendS, offS, *]
             ·
               refine (show (spendS s).gone = s.gone from ?_) ▸ hI.mono (fun b hb => hb.1)
               unfold spendS
               split <;> rfl
             ·
               rw [← hls]
               unfold spendS
               split <;> rfl
             ·
               rw [← hws]
               unfold spendS
               split <;> rfl)
      ·
        refine WC.skip (WX.then_normal (WC.seq (WC.seq (WC.region (WL.move rfl rfl (WL.nilCheck rfl rfl (WL.fieldAddr (fld_100_6) rfl rfl (?_))))))))
        refine WL.loadB Tryd.isAgg4 hB rfl rfl rfl (WL.nil (WX.then_normal (?_)))
        first | refine WC.cond_dec rfl (fun hc24 => ?_) (fun hc24 => ?_) | refine WC.cond_split rfl (fun hc24 => ?_) (fun hc24 => ?_)
        ·
          refine WC.region (WL.move rfl rfl (WL.nilCheck rfl rfl (WL.fieldAddr (fld_100_7) rfl rfl (WL.loadB Tryd.isAgg3 hB rfl rfl rfl (?_)))))
          have hl0 := hok.lf.1 hc24
          have hl1 := hok.lf.2.2
          refine WL.sub64 rfl rfl (by constructor <;> omega) rfl ?_
          refine WL.nilCheck rfl rfl (WL.fieldAddr (fld_100_7) rfl rfl (?_))
          refine WL.store Tryd.sizeOf3 hB rfl rfl rfl rfl ?_
          intro w_2 hs_2 hn_2 k_2
          have zs_k_2 := k_2.size
          replace hI := hI.chg k_2 (by first | (intro x h1 h2; exact h2) | (intro x h0 h1 h2; exact hS x h1 h2) | (intro x h0 h1 h2; have h3 : _ = _ := h2; subst h3; exact hSR h1.1) | (intro x h1 h2; have h3 : _ = _ := h2; subst h3; assumption) | (intro x h1 h2; have h3 : _ = _ := h2; exfalso; omega) | (intro b h1 h2 h3; have h4 : _ = _ := h3; (try dsimp only at h2); exfalso; omega) | (intro h1; have h2 : _ = _ := h1; exfalso; omega) | (intro h1; have h2 : _ ≤ _ := h1; exfalso; omega) | (intros; exfalso; (try dsimp only at *); omega) | (intro b h1 h2 h3; exfalso; have h4 := h3.2; (try dsimp only at *); omega) | (intro h1; exfalso; have h4 := h1.2; (try dsimp only at *); omega) | (intro x h1 h2; exfalso; have h4 := h2.2; (try dsimp only at *); omega) | (intro x h1 h2; exact ⟨_, rfl, h2⟩) | (intro x h1 h2; have h4 := h2.1; have h5 := h2.2; exfalso; omega) | (intro x h1 h2; exact h2.1) | (intro x h1 h2; rcases h2.1 with h3 | h3; exact h3; exfalso; omega) | (intro x h1 h2; rcases h2 with h3 | h3; exact h3; exfalso; omega))
          replace hw := hw.chg k_2 (by first | (intro x h1 h2; exact h2) | (intro x h0 h1 h2; exact hS x h1 h2) | (intro x h0 h1 h2; have h3 : _ = _ := h2; subst h3; exact hSR h1.1) | (intro x h1 h2; have h3 : _ = _ := h2; subst h3; assumption) | (intro x h1 h2; have h3 : _ = _ := h2; exfalso; omega) | (intro b h1 h2 h3; have h4 : _ = _ := h3; (try dsimp only at h2); exfalso; omega) | (intro h1; have h2 : _ = _ := h1; exfalso; omega) | (intro h1; have h2 : _ ≤ _ := h1; exfalso; omega) | (intros; exfalso; (try dsimp only at *); omega) | (intro b h1 h2 h3; exfalso; have h4 := h3.2; (try dsimp only at *); omega) | (intro h1; exfalso; have h4 := h1.2; (try dsimp only at *); omega) | (intro x h1 h2; exfalso; have h4 := h2.2; (try dsimp only at *); omega) | (intro x h1 h2; exact ⟨_, rfl, h2⟩) | (intro x h1 h2; have h4 := h2.1; have h5 := h2.2; exfalso; omega) | (intro x h1 h2; exact h2.1) | (intro x h1 h2; rcases h2.1 with h3 | h3; exact h3; exfalso; omega) | (intro x h1 h2; rcases h2 with h3 | h3; exact h3; exfalso; omega))
          replace hB := hn_2
          refine WL.nil (WX.then_normal (WC.seq (WC.region (WL.assign rfl rfl (WL.nil (WX.then_normal (WC.ret (?_))))))))
          refine WX.ret1 (.inl rfl) Tryd.results66 rfl ?_
          first
            | (exfalso; cases hc20; done)
            | (exfalso; rw [hb7] at hc24; cases hc24; done)
            | (refine ⟨_, rfl, ?_, ⟨aR, hsok, m, ga, gc, wa, wc, ws, ls, Eq.mp (congrArg (Blk _ R 100) ?_) hB, ?_, ?_, ?_⟩, hw, by omega⟩
               ·
                 congr 1
                 simp [offS, *]
               ·
                 simp [rcells, spendS, offS, *]
               ·
                 refine (show (spendS s).gone = s.gone from ?_) ▸ hI.mono (fun b hb => hb.1)
                 unfold spendS
                 split <;> rfl
               ·
                 rw [← hls]
                 unfold spendS
                 split <;> rfl
               ·
                 rw [← hws]
                 unfold spendS
                 split <;> rfl)
        ·
          refine WC.skip (WX.then_normal (WC.seq (WC.region (WL.assign rfl rfl (WL.nil (WX.then_normal (WC.ret (?_))))))))
          refine WX.ret1 (.inl rfl) Tryd.results66 rfl ?_
          first
            | (exfalso; cases hc20; done)
            | (exfalso; rw [hb7] at hc24; cases hc24; done)
            | (refine ⟨_, rfl, ?_, ⟨aR, hsok, m, ga, gc, wa, wc, ws, ls, Eq.mp (congrArg (Blk _ R 100) ?_) hB, ?_, ?_, ?_⟩, hw, by omega⟩
               ·
                 congr 1
                 simp [offS, *]
               ·
                 simp [rcells, spendS, offS, *]
               ·
                 refine (show (spendS s).gone = s.gone from ?_) ▸ hI.mono (fun b hb => hb.1)
                 unfold spendS
                 split <;> rfl
               ·
                 rw [← hls]
                 unfold spendS
                 split <;> rfl
               ·
                 rw [← hws]
                 unfold spendS
                 split <;> rfl)
    ·
      refine WL.pickT rfl rfl rfl (WL.nil (WX.then_normal (WC.cond_false rfl (WC.skip (WX.then_normal (WC.seq (WC.seq (?_))))))))
      refine WC.region (WL.move rfl rfl (WL.nilCheck rfl rfl (WL.fieldAddr (fld_100_5) rfl rfl (WL.loadB Tryd.isAgg4 hB rfl rfl rfl (WL.nil (WX.then_normal (?_)))))))
      first | refine WC.cond_dec rfl (fun hc20 => ?_) (fun hc20 => ?_) | refine WC.cond_split rfl (fun hc20 => ?_) (fun hc20 => ?_)
      ·
        refine WC.seq (WC.region (WL.assign rfl rfl (WL.nil (WX.then_normal (WC.ret (WX.then_ret (?_)))))))
        refine WX.ret1 (.inl rfl) Tryd.results66 rfl ?_
        first
          | (exfalso; cases hc20; done)
          | (exfalso; rw [hb7] at hc24; cases hc24; done)
          | (refine ⟨_, rfl, ?_, ⟨aR, hsok, m, ga, gc, wa, wc, ws, ls, Eq.mp (congrArg (Blk _ R 100) ?_) hB, ?_, ?_, ?_⟩, hw, by omega⟩
             ·
               congr 1
               simp [offS, *]
             ·
               simp [rcells, spendS, offS, *]
             ·
               refine (show (spendS s).gone = s.gone from ?_) ▸ hI.mono (fun b hb => hb.1)
               unfold spendS
               split <;> rfl
             ·
               rw [← hls]
               unfold spendS
               split <;> rfl
             ·
               rw [← hws]
               unfold spendS
               split <;> rfl)
      ·
        refine WC.skip (WX.then_normal (WC.seq (WC.seq (WC.region (WL.move rfl rfl (WL.nilCheck rfl rfl (WL.fieldAddr (fld_100_6) rfl rfl (?_))))))))
        refine WL.loadB Tryd.isAgg4 hB rfl rfl rfl (WL.nil (WX.then_normal (?_)))
        first | refine WC.cond_dec rfl (fun hc24 => ?_) (fun hc24 => ?_) | refine WC.cond_split rfl (fun hc24 => ?_) (fun hc24 => ?_)
        ·
          refine WC.region (WL.move rfl rfl (WL.nilCheck rfl rfl (WL.fieldAddr (fld_100_7) rfl rfl (WL.loadB Tryd.isAgg3 hB rfl rfl rfl (?_)))))
          have hl0 := hok.lf.1 hc24
          have hl1 := hok.lf.2.2
          refine WL.sub64 rfl rfl (by constructor <;> omega) rfl ?_
          refine WL.nilCheck rfl rfl (WL.fieldAddr (fld_100_7) rfl rfl (?_))
          refine WL.store Tryd.sizeOf3 hB rfl rfl rfl rfl ?_
          intro w_1 hs_1 hn_1 k_1
          have zs_k_1 := k_1.size
          replace hI := hI.chg k_1 (by first | (intro x h1 h2; exact h2) | (intro x h0 h1 h2; exact hS x h1 h2) | (intro x h0 h1 h2; have h3 : _ = _ := h2; subst h3; exact hSR h1.1) | (intro x h1 h2; have h3 : _ = _ := h2; subst h3; assumption) | (intro x h1 h2; have h3 : _ = _ := h2; exfalso; omega) | (intro b h1 h2 h3; have h4 : _ = _ := h3; (try dsimp only at h2); exfalso; omega) | (intro h1; have h2 : _ = _ := h1; exfalso; omega) | (intro h1; have h2 : _ ≤ _ := h1; exfalso; omega) | (intros; exfalso; (try dsimp only at *); omega) | (intro b h1 h2 h3; exfalso; have h4 := h3.2; (try dsimp only at *); omega) | (intro h1; exfalso; have h4 := h1.2; (try dsimp only at *); omega) | (intro x h1 h2; exfalso; have h4 := h2.2; (try dsimp only at *); omega) | (intro x h1 h2; exact ⟨_, rfl, h2⟩) | (intro x h1 h2; have h4 := h2.1; have h5 := h2.2; exfalso; omega) | (intro x h1 h2; exact h2.1) | (intro x h1 h2; rcases h2.1 with h3 | h3; exact h3; exfalso; omega) | (intro x h1 h2; rcases h2 with h3 | h3; exact h3; exfalso; omega))
          replace hw := hw.chg k_1 (by first | (intro x h1 h2; exact h2) | (intro x h0 h1 h2; exact hS x h1 h2) | (intro x h0 h1 h2; have h3 : _ = _ := h2; subst h3; exact hSR h1.1) | (intro x h1 h2; have h3 : _ = _ := h2; subst h3; assumption) | (intro x h1 h2; have h3 : _ = _ := h2; exfalso; omega) | (intro b h1 h2 h3; have h4 : _ = _ := h3; (try dsimp only at h2); exfalso; omega) | (intro h1; have h2 : _ = _ := h1; exfalso; omega) | (intro h1; have h2 : _ ≤ _ := h1; exfalso; omega) | (intros; exfalso; (try dsimp only at *); omega) | (intro b h1 h2 h3; exfalso; have h4 := h3.2; (try dsimp only at *); omega) | (intro h1; exfalso; have h4 := h1.2; (try dsimp only at *); omega) | (intro x h1 h2; exfalso; have h4 := h2.2; (try dsimp only at *); omega) | (intro x h1 h2; exact ⟨_, rfl, h2⟩) | (intro x h1 h2; have h4 := h2.1; have h5 := h2.2; exfalso; omega) | (intro x h1 h2; exact h2.1) | (intro x h1 h2; rcases h2.1 with h3 | h3; exact h3; exfalso; omega) | (intro x h1 h2; rcases h2 with h3 | h3; exact h3; exfalso; omega))
          replace hB := hn_1
          refine WL.nil (WX.then_normal (WC.seq (WC.region (WL.assign rfl rfl (WL.nil (WX.then_normal (WC.ret (?_))))))))
          refine WX.ret1 (.inl rfl) Tryd.results66 rfl ?_
          first
            | (exfalso; cases hc20; done)
            | (exfalso; rw [hb7] at hc24; cases hc24; done)
            | (refine ⟨_, rfl, ?_, ⟨aR, hsok, m, ga, gc, wa, wc, ws, ls, Eq.mp (congrArg (Blk _ R 100) ?_) hB, ?_, ?_, ?_⟩, hw, by omega⟩
               ·
                 congr 1
                 simp [offS, *]
               ·
                 simp [rcells, spendS, offS, *]
               ·
                 refine (show (spendS s).gone = s.gone from ?_) ▸ hI.mono (fun b hb => hb.1)
                 unfold spendS
                 split <;> rfl
               ·
                 rw [← hls]
                 unfold spendS
                 split <;> rfl
               ·
                 rw [← hws]
                 unfold spendS
                 split <;> rfl)
        ·
          refine WC.skip (WX.then_normal (WC.seq (WC.region (WL.assign rfl rfl (WL.nil (WX.then_normal (WC.ret (?_))))))))
          refine WX.ret1 (.inl rfl) Tryd.results66 rfl ?_
          first
            | (exfalso; cases hc20; done)
            | (exfalso; rw [hb7] at hc24; cases hc24; done)
            | (refine ⟨_, rfl, ?_, ⟨aR, hsok, m, ga, gc, wa, wc, ws, ls, Eq.mp (congrArg (Blk _ R 100) ?_) hB, ?_, ?_, ?_⟩, hw, by omega⟩
               ·
                 congr 1
                 simp [offS, *]
               ·
                 simp [rcells, spendS, offS, *]
               ·
                 refine (show (spendS s).gone = s.gone from ?_) ▸ hI.mono (fun b hb => hb.1)
                 unfold spendS
                 split <;> rfl
               ·
                 rw [← hls]
                 unfold spendS
                 split <;> rfl
               ·
                 rw [← hws]
                 unfold spendS
                 split <;> rfl)
  ·
    refine WL.pass rfl rfl rfl rfl (WL.pass rfl rfl rfl rfl (WL.pass rfl rfl rfl rfl (WL.pass rfl rfl rfl rfl (WL.pass rfl rfl rfl rfl (WL.pickF rfl rfl rfl (WL.nil (WX.then_normal (?_))))))))
    refine WC.cond_false rfl (WC.skip (WX.then_normal (WC.seq (WC.seq (WC.region (WL.move rfl rfl (WL.nilCheck rfl rfl (?_))))))))
    refine WL.fieldAddr (fld_100_5) rfl rfl (WL.loadB Tryd.isAgg4 hB rfl rfl rfl (WL.nil (WX.then_normal (?_))))
    first | refine WC.cond_dec rfl (fun hc20 => ?_) (fun hc20 => ?_) | refine WC.cond_split rfl (fun hc20 => ?_) (fun hc20 => ?_)
    ·
      refine WC.seq (WC.region (WL.assign rfl rfl (WL.nil (WX.then_normal (WC.ret (WX.then_ret (?_)))))))
      refine WX.ret1 (.inl rfl) Tryd.results66 rfl ?_
      first
        | (exfalso; cases hc20; done)
        | (exfalso; rw [hb7] at hc24; cases hc24; done)
        | (refine ⟨_, rfl, ?_, ⟨aR, hsok, m, ga, gc, wa, wc, ws, ls, Eq.mp (congrArg (Blk _ R 100) ?_) hB, ?_, ?_, ?_⟩, hw, by omega⟩
           ·
             congr 1
             simp [offS, *]
           ·
             simp [rcells, spendS, offS, *]
           ·
             refine (show (spendS s).gone = s.gone from ?_) ▸ hI.mono (fun b hb => hb.1)
             unfold spendS
             split <;> rfl
           ·
             rw [← hls]
             unfold spendS
             split <;> rfl
           ·
             rw [← hws]
             unfold spendS
             split <;> rfl)
    ·
      refine WC.skip (WX.then_normal (WC.seq (WC.seq (WC.region (WL.move rfl rfl (WL.nilCheck rfl rfl (WL.fieldAddr (fld_100_6) rfl rfl (?_))))))))
      refine WL.loadB Tryd.isAgg4 hB rfl rfl rfl (WL.nil (WX.then_normal (?_)))
      first | refine WC.cond_dec rfl (fun hc24 => ?_) (fun hc24 => ?_) | refine WC.cond_split rfl (fun hc24 => ?_) (fun hc24 => ?_)
      ·
        refine WC.region (WL.move rfl rfl (WL.nilCheck rfl rfl (WL.fieldAddr (fld_100_7) rfl rfl (WL.loadB Tryd.isAgg3 hB rfl rfl rfl (?_)))))
        have hl0 := hok.lf.1 hc24
        have hl1 := hok.lf.2.2
        refine WL.sub64 rfl rfl (by constructor <;> omega) rfl ?_
        refine WL.nilCheck rfl rfl (WL.fieldAddr (fld_100_7) rfl rfl (?_))
        refine WL.store Tryd.sizeOf3 hB rfl rfl rfl rfl ?_
        intro w_1 hs_1 hn_1 k_1
        have zs_k_1 := k_1.size
        replace hI := hI.chg k_1 (by first | (intro x h1 h2; exact h2) | (intro x h0 h1 h2; exact hS x h1 h2) | (intro x h0 h1 h2; have h3 : _ = _ := h2; subst h3; exact hSR h1.1) | (intro x h1 h2; have h3 : _ = _ := h2; subst h3; assumption) | (intro x h1 h2; have h3 : _ = _ := h2; exfalso; omega) | (intro b h1 h2 h3; have h4 : _ = _ := h3; (try dsimp only at h2); exfalso; omega) | (intro h1; have h2 : _ = _ := h1; exfalso; omega) | (intro h1; have h2 : _ ≤ _ := h1; exfalso; omega) | (intros; exfalso; (try dsimp only at *); omega) | (intro b h1 h2 h3; exfalso; have h4 := h3.2; (try dsimp only at *); omega) | (intro h1; exfalso; have h4 := h1.2; (try dsimp only at *); omega) | (intro x h1 h2; exfalso; have h4 := h2.2; (try dsimp only at *); omega) | (intro x h1 h2; exact ⟨_, rfl, h2⟩) | (intro x h1 h2; have h4 := h2.1; have h5 := h2.2; exfalso; omega) | (intro x h1 h2; exact h2.1) | (intro x h1 h2; rcases h2.1 with h3 | h3; exact h3; exfalso; omega) | (intro x h1 h2; rcases h2 with h3 | h3; exact h3; exfalso; omega))
        replace hw := hw.chg k_1 (by first | (intro x h1 h2; exact h2) | (intro x h0 h1 h2; exact hS x h1 h2) | (intro x h0 h1 h2; have h3 : _ = _ := h2; subst h3; exact hSR h1.1) | (intro x h1 h2; have h3 : _ = _ := h2; subst h3; assumption) | (intro x h1 h2; have h3 : _ = _ := h2; exfalso; omega) | (intro b h1 h2 h3; have h4 : _ = _ := h3; (try dsimp only at h2); exfalso; omega) | (intro h1; have h2 : _ = _ := h1; exfalso; omega) | (intro h1; have h2 : _ ≤ _ := h1; exfalso; omega) | (intros; exfalso; (try dsimp only at *); omega) | (intro b h1 h2 h3; exfalso; have h4 := h3.2; (try dsimp only at *); omega) | (intro h1; exfalso; have h4 := h1.2; (try dsimp only at *); omega) | (intro x h1 h2; exfalso; have h4 := h2.2; (try dsimp only at *); omega) | (intro x h1 h2; exact ⟨_, rfl, h2⟩) | (intro x h1 h2; have h4 := h2.1; have h5 := h2.2; exfalso; omega) | (intro x h1 h2; exact h2.1) | (intro x h1 h2; rcases h2.1 with h3 | h3; exact h3; exfalso; omega) | (intro x h1 h2; rcases h2 with h3 | h3; exact h3; exfalso; omega))
        replace hB := hn_1
        refine WL.nil (WX.then_normal (WC.seq (WC.region (WL.assign rfl rfl (WL.nil (WX.then_normal (WC.ret (?_))))))))
        refine WX.ret1 (.inl rfl) Tryd.results66 rfl ?_
        first
          | (exfalso; cases hc20; done)
          | (exfalso; rw [hb7] at hc24; cases hc24; done)
          | (refine ⟨_, rfl, ?_, ⟨aR, hsok, m, ga, gc, wa, wc, ws, ls, Eq.mp (congrArg (Blk _ R 100) ?_) hB, ?_, ?_, ?_⟩, hw, by omega⟩
             ·
               congr 1
               simp [offS, *]
             ·
               simp [rcells, spendS, offS, *]
             ·
               refine (show (spendS s).gone = s.gone from ?_) ▸ hI.mono (fun b hb => hb.1)
               unfold spendS
               split <;> rfl
             ·
               rw [← hls]
               unfold spendS
               split <;> rfl
             ·
               rw [← hws]
               unfold spendS
               split <;> rfl)
      ·
        refine WC.skip (WX.then_normal (WC.seq (WC.region (WL.assign rfl rfl (WL.nil (WX.then_normal (WC.ret (?_))))))))
        refine WX.ret1 (.inl rfl) Tryd.results66 rfl ?_
        first
          | (exfalso; cases hc20; done)
          | (exfalso; rw [hb7] at hc24; cases hc24; done)
          | (refine ⟨_, rfl, ?_, ⟨aR, hsok, m, ga, gc, wa, wc, ws, ls, Eq.mp (congrArg (Blk _ R 100) ?_) hB, ?_, ?_, ?_⟩, hw, by omega⟩
             ·
               congr 1
               simp [offS, *]
             ·
               simp [rcells, spendS, offS, *]
             ·
               refine (show (spendS s).gone = s.gone from ?_) ▸ hI.mono (fun b hb => hb.1)
               unfold spendS
               split <;> rfl
             ·
               rw [← hls]
               unfold spendS
               split <;> rfl
             ·
               rw [← hws]
               unfold spendS
               split <;> rfl)
end Go.Proofs.YtcdbkfaebgficaaDoor
namespace Go.Proofs.YtcdbkfaebgficaaDoor
open Go.RowKit Go.HL
set_option maxRecDepth 100000

/-! a write -/
theorem spendS_dn (s : RA) : (spendS s).dn = s.dn := by unfold spendS; split <;> rfl
theorem spendS_sn (s : RA) : (spendS s).sn = s.sn := by unfold spendS; split <;> rfl
theorem spendS_gone (s : RA) : (spendS s).gone = s.gone := by unfold spendS; split <;> rfl
theorem spendS_waits (s : RA) : (spendS s).waits = s.waits := by unfold spendS; split <;> rfl
def writeE (s : RA) (d a : Int) (n : Nat) : Int := if ¬ inS s d a ∨ n ≠ 128 then 1 else if goneS s d = true then 3 else if offS s = true then 16 else 0
def writeS (s : RA) (d a : Int) (b : List UInt8) : RA := if writeE s d a b.length = 0 then { spendS s with waits := s.waits ++ [((d, a), b)] } else if writeE s d a b.length = 16 then spendS s else s
theorem writeE_0 {s : RA} {d a : Int} {n : Nat} : writeE s d a n = 0 ↔ inS s d a ∧ n = 128 ∧ goneS s d = false ∧ offS s = false := by
  unfold writeE
  by_cases h1 : inS s d a <;> by_cases h2 : n = 128 <;> cases h3 : goneS s d <;> cases h4 : offS s <;> simp [h1, h2]
theorem writeS_ok {s : RA} (h : s.ok) (d a : Int) (b : List UInt8) : (writeS s d a b).ok := by
  have h1 := spendS_ok h
  unfold writeS
  split
  · rename_i h2
    have hb := (writeE_0.1 h2).2.1
    refine ⟨h1.dn, h1.sn, h1.gl, h1.ll, fun p hp => ?_, h1.lf, h1.nd⟩
    rcases List.mem_append.1 hp with h3 | h3
    · exact h.lw p h3
    · simp at h3
      rw [h3]
      exact hb
  · split
    · exact h1
    · exact h
theorem Write_calls {A S : Nat → Prop} {w : World} {R : Nat} {s : RA} (h : RK A w R s) (d a : Int) {ao : Option Addr} {c : Nat} {b : List UInt8} (hb : RSl S w eb ao c b) (hS : ∀ x, S x → x = R → False) (hn : s.waits.length ≤ 100000) :
    Calls Tryd.prog 60 [ptr R, vi d, vi a, .slice ao b.length c].toArray w (Ret fun v w' => v = vi (writeE s d a b.length) ∧ RK (fun x => A x ∨ w.heap.size ≤ x) w' R (writeS s d a b) ∧ Chg A w w') := by
  have aR := h.aR
  have hok := h.ok
  have hwok := writeS_ok h.ok d a b
  have hcap := hb.cap
  have hlen : b.length ≤ 140737488355328 ∨ 140737488355328 < b.length := by omega
  have hw := Chg.refl A w
  refine Calls.of_WC Tryd.func60 rfl Tryd.ntmps60 (by simp) ?_
  refine WC.seq (WC.region (WL.assign rfl rfl (WL.nil (WX.then_normal (WC.seq (WC.block (WC.seq (?_))))))))
  refine WC.region (WL.move rfl rfl (WL.move rfl rfl (WL.move rfl rfl (?_))))
  refine WL.call eg_67 rfl rfl (in_calls h d a) ?_
  rintro v w1 ⟨rfl, k1⟩
  have zs_k1 := k1.size
  replace h := h.pure k1
  replace hb := hb.pure k1
  replace hw := hw.pure k1
  by_cases h12 : inS s d a
  ·
    rw [show decide (0 ≤ d ∧ d < (s.dn : Int) ∧ 0 ≤ a ∧ a < (s.sn : Int)) = true from decide_eq_true h12]
    refine WL.not rfl rfl (WL.move rfl rfl (WL.want rfl rfl rfl (WL.move rfl rfl (WL.want rfl rfl rfl (WL.len Tryd.underlying22 rfl rfl (WL.want rfl rfl rfl (?_)))))))
    refine WL.neq? rfl rfl rfl (fun h18 => ?_) (fun h18 => ?_)
    ·
      refine WL.pickF rfl rfl rfl (WL.assign rfl rfl (WL.nil (WX.then_normal (WC.cond_true rfl (WC.seq (WC.region (WL.assign rfl rfl (?_))))))))
      refine WL.nil (WX.then_normal (WC.ret (WX.block_ret (WX.then_ret (?_)))))
      refine WX.ret1 (.inl rfl) Tryd.results60 rfl ?_
      first
        | (have hh : (b.length : Int) ≠ 128 := h18
           have hh2 : b.length ≠ 128 := by omega
           exact ⟨_, rfl, by simp [writeE, hh2], by rw [show writeS s d a b = s from by simp [writeS, writeE, hh2]]; exact h.mono (fun x hx => .inl hx), hw⟩)
        | (have hh : ¬ inS s d a := h12
           exact ⟨_, rfl, by simp [writeE, h12], by rw [show writeS s d a b = s from by simp [writeS, writeE, h12]]; exact h.mono (fun x hx => .inl hx), hw⟩)
        | (have hh : goneS s d = true := hg
           have hh2 : b.length = 128 := by omega
           exact ⟨_, rfl, by simp [writeE, h12, hh2, hg], by rw [show writeS s d a b = s from by simp [writeS, writeE, h12, hh2, hg]]; exact h.mono (fun x hx => .inl hx), hw⟩)
        | (have hh : offS s = true := ho
           have hh2 : b.length = 128 := by omega
           exact ⟨_, rfl, by simp [writeE, h12, hh2, hg, ho], by rw [show writeS s d a b = spendS s from by simp [writeS, writeE, h12, hh2, hg, ho]]; exact h2.mono (fun x hx => .inl hx), hw⟩)
        | (have hh2 : b.length = 128 := by omega
           have e0 : writeE s d a b.length = 0 := by simp [writeE, h12, hh2, hg, ho]
           refine ⟨_, rfl, by rw [e0], ⟨aR2, hwok, m, ga, gc, ao9, c9, ws ++ [((d, a), ⟨some ⟨gq, 0, none⟩, cq, b⟩)], ls, Eq.mp (congrArg (Blk _ R 100) ?_) hB, ?_, ?_, ?_⟩, hw⟩
           ·
             simp [writeS, e0]
           ·
             simp only [writeS, e0, if_true]
             exact hI9.mono (fun x hx => hx.1)
           ·
             simp only [writeS, e0, if_true]
             exact hls
           ·
             simp only [writeS, e0, if_true]
             rw [spendS_waits] at hws
             rw [hws]
             simp [xsm])
    ·
      refine WL.pickF rfl rfl rfl (WL.assign rfl rfl (WL.nil (WX.then_normal (WC.cond_false rfl (WC.seq (WC.region (WL.move rfl rfl (?_))))))))
      refine WL.nilCheck rfl rfl (WL.fieldAddr (fld_100_3) rfl rfl (?_))
      obtain ⟨m, ga, gc, wa, wc, ws, ls, hB, hI, -⟩ := h.ex
      refine WL.loadB Tryd.isAgg81 hB rfl rfl rfl ?_
      refine WL.move rfl rfl (?_)
      have hgd := goneS_at h.ok (d := d) ⟨h12.1, h12.2.1⟩
      refine WL.indexT (e := ebool) Tryd.underlying81 Tryd.sizeOf4 hI.gone.rsl rfl rfl ⟨hgd, by have := h12.1; omega⟩ rfl ?_
      intro bb oo hcc
      refine WL.load Tryd.isAgg4 rfl (hcc 0 _ rfl) rfl ?_
      rcases hg : goneS s d with _ | _
      ·
        refine WL.assign rfl rfl (WL.nil (WX.then_normal (WC.cond_false rfl (WC.seq (WC.region (WL.move rfl rfl (?_)))))))
        clear hB hI hcc
        refine WL.call eg_66 rfl rfl (spend_calls h) ?_
        rintro v w2 ⟨rfl, h2, k2, z2⟩
        have zs_k2 := k2.size
        replace hb := hb.chg k2 (by first | (intro x h1 h2; exact h2) | (intro x h0 h1 h2; exact hS x h1 h2) | (intro x h0 h1 h2; have h3 : _ = _ := h2; subst h3; exact hSR h1.1) | (intro x h1 h2; have h3 : _ = _ := h2; subst h3; assumption) | (intro x h1 h2; have h3 : _ = _ := h2; exfalso; omega) | (intro b h1 h2 h3; have h4 : _ = _ := h3; (try dsimp only at h2); exfalso; omega) | (intro h1; have h2 : _ = _ := h1; exfalso; omega) | (intro h1; have h2 : _ ≤ _ := h1; exfalso; omega) | (intros; exfalso; (try dsimp only at *); omega) | (intro b h1 h2 h3; exfalso; have h4 := h3.2; (try dsimp only at *); omega) | (intro h1; exfalso; have h4 := h1.2; (try dsimp only at *); omega) | (intro x h1 h2; exfalso; have h4 := h2.2; (try dsimp only at *); omega) | (intro x h1 h2; exact ⟨_, rfl, h2⟩) | (intro x h1 h2; have h4 := h2.1; have h5 := h2.2; exfalso; omega) | (intro x h1 h2; exact h2.1) | (intro x h1 h2; rcases h2.1 with h3 | h3; exact h3; exfalso; omega) | (intro x h1 h2; rcases h2 with h3 | h3; exact h3; exfalso; omega))
        replace hw := hw.chg k2 (by first | (intro x h1 h2; exact h2) | (intro x h0 h1 h2; exact hS x h1 h2) | (intro x h0 h1 h2; have h3 : _ = _ := h2; subst h3; exact hSR h1.1) | (intro x h1 h2; have h3 : _ = _ := h2; subst h3; assumption) | (intro x h1 h2; have h3 : _ = _ := h2; exfalso; omega) | (intro b h1 h2 h3; have h4 : _ = _ := h3; (try dsimp only at h2); exfalso; omega) | (intro h1; have h2 : _ = _ := h1; exfalso; omega) | (intro h1; have h2 : _ ≤ _ := h1; exfalso; omega) | (intros; exfalso; (try dsimp only at *); omega) | (intro b h1 h2 h3; exfalso; have h4 := h3.2; (try dsimp only at *); omega) | (intro h1; exfalso; have h4 := h1.2; (try dsimp only at *); omega) | (intro x h1 h2; exfalso; have h4 := h2.2; (try dsimp only at *); omega) | (intro x h1 h2; exact ⟨_, rfl, h2⟩) | (intro x h1 h2; have h4 := h2.1; have h5 := h2.2; exfalso; omega) | (intro x h1 h2; exact h2.1) | (intro x h1 h2; rcases h2.1 with h3 | h3; exact h3; exfalso; omega) | (intro x h1 h2; rcases h2 with h3 | h3; exact h3; exfalso; omega))
        rcases ho : offS s with _ | _
        ·
          refine WL.not rfl rfl (WL.assign rfl rfl (WL.nil (WX.then_normal (WC.cond_false rfl (WC.skip (WX.block_normal (WX.then_normal (?_))))))))
          refine WC.seq (?_)
          obtain ⟨m, ga, gc, wa, wc, ws, ls, hB, hI, hls, hws⟩ := h2.ex
          replace hI := (hI.open hB).mono (S' := fun x => (A x ∨ w.heap.size ≤ x) ∧ x ≠ R) (fun x hx => ⟨.inl hx.1, hx.2⟩)
          have aR2 : A R ∨ w.heap.size ≤ R := .inl aR
          have lR := hB.lt
          have zw := hw.size
          have hwl : ws.length ≤ 100000 := by rw [← xsm_len, ← hws, spendS_waits]; exact hn
          refine WC.drawM ((fun x => A x ∨ w.heap.size ≤ x)) [0, 1, 2, 3, 5, 6, 7, 8, 13, 14] [4, 9, 10, 11, 12, 15] mixed rfl rfl (fun wd_1 kd_1 zd_1 => ?_)
          have zs_kd_1 := kd_1.size
          replace hb := hb.pure kd_1
          replace hw := hw.pure kd_1
          replace hB := hB.pure kd_1
          replace hI := hI.pure kd_1
          apply DQT.step (E' := [(0, _)])
          case ho => rfl
          case hs => exact ⟨rfl, trivial⟩
          case hk => rfl
          case h1 =>
            intro wq_3 kq_3
            refine WL.move rfl rfl (?_)
            refine WL.nil ?_
            exact WX.one ⟨rfl, by first | exact Chg.refl _ _ | assumption⟩
          apply DQT.step (E' := [(0, _)])
          case ho => rfl
          case hs => exact ⟨rfl, trivial⟩
          case hk => rfl
          case h1 =>
            intro wq_4 kq_4
            refine WL.move rfl rfl (?_)
            refine WL.nil ?_
            exact WX.one ⟨rfl, by first | exact Chg.refl _ _ | assumption⟩
          apply DQT.step (E' := [(33, _)])
          case ho => rfl
          case hs => exact ⟨rfl, trivial⟩
          case hk => rfl
          case h1 =>
            intro wq_5 kq_5
            refine WL.nilCheck rfl rfl (?_)
            refine WL.nil ?_
            exact WX.one ⟨rfl, by first | exact Chg.refl _ _ | assumption⟩
          apply DQT.step (E' := [(34, _)])
          case ho => rfl
          case hs => exact ⟨rfl, trivial⟩
          case hk => rfl
          case h1 =>
            intro wq_6 kq_6
            refine WL.fieldAddr (fld_100_4) rfl rfl (?_)
            refine WL.nil ?_
            exact WX.one ⟨rfl, by first | exact Chg.refl _ _ | assumption⟩
          apply DQT.step (E' := [(1, _)])
          case ho => rfl
          case hs => exact ⟨rfl, trivial⟩
          case hk => rfl
          case h1 =>
            intro wq_7 kq_7
            refine WL.move rfl rfl (?_)
            refine WL.nil ?_
            exact WX.one ⟨rfl, by first | exact Chg.refl _ _ | assumption⟩
          apply DQT.step (E' := [(2, _)])
          case ho => rfl
          case hs => exact ⟨rfl, trivial⟩
          case hk => rfl
          case h1 =>
            intro wq_8 kq_8
            refine WL.move rfl rfl (?_)
            refine WL.nil ?_
            exact WX.one ⟨rfl, by first | exact Chg.refl _ _ | assumption⟩
          apply DQT.step (E' := [(37, _), (38, _)])
          case ho => rfl
          case hs => exact ⟨rfl, rfl, trivial⟩
          case hk => rfl
          case h1 =>
            intro wq_9 kq_9
            refine WL.bld rfl (bld_110_0_1 _ _) rfl (?_)
            refine WL.nil ?_
            exact WX.one ⟨rfl, by first | exact Chg.refl _ _ | assumption⟩
          apply DQT.step (E' := [(3, _)])
          case ho => rfl
          case hs => exact ⟨rfl, trivial⟩
          case hk => rfl
          case h1 =>
            intro wq_10 kq_10
            refine WL.move rfl rfl (?_)
            refine WL.nil ?_
            exact WX.one ⟨rfl, by first | exact Chg.refl _ _ | assumption⟩
          apply DQT.step (E' := [(32, _)])
          case ho => rfl
          case hs => exact ⟨rfl, trivial⟩
          case hk => rfl
          case h1 =>
            intro wq_11 kq_11
            refine WL.nilCheck rfl rfl (?_)
            refine WL.nil ?_
            exact WX.one ⟨rfl, by first | exact Chg.refl _ _ | assumption⟩
          apply DQT.step (E' := [(45, _)])
          case ho => rfl
          case hs => exact ⟨rfl, trivial⟩
          case hk => rfl
          case h1 =>
            intro wq_12 kq_12
            refine WL.fieldAddr (fld_100_4) rfl rfl (?_)
            refine WL.nil ?_
            exact WX.one ⟨rfl, by first | exact Chg.refl _ _ | assumption⟩
          refine DQT.done (fun hd_2 => ?_)
          refine ⟨?_, ?_, trivial, trivial, trivial, trivial, trivial⟩
          refine DT.step [(35, _)] rfl ⟨rfl, trivial⟩ rfl (fun wq_13 kq_13 => ?_)
          have zs_kq_13 := kq_13.size
          replace hb := hb.pure kq_13
          replace hw := hw.pure kq_13
          replace hB := hB.pure kq_13
          replace hI := hI.pure kq_13
          replace hd_2 := hd_2.pure kq_13
          refine WL.loadB Tryd.isAgg98 hB rfl rfl rfl (?_)
          refine WL.nil (WX.one ⟨hd_2, ?_⟩)
          refine ⟨?_, trivial, trivial, trivial, trivial, trivial⟩
          refine DT.step [(40, _)] rfl ⟨rfl, trivial⟩ rfl (fun wq_14 kq_14 => ?_)
          have zs_kq_14 := kq_14.size
          replace hb := hb.pure kq_14
          replace hw := hw.pure kq_14
          replace hB := hB.pure kq_14
          replace hI := hI.pure kq_14
          replace hd_2 := hd_2.pure kq_14
          refine WL.call eg_68 rfl rfl (bclone_calls hb (by omega)) ?_
          rintro v w3 ⟨⟨gq, cq, rfl, hq, hq1, hq2⟩, k3⟩
          have zs_k3 := k3.size
          replace hb := hb.pure k3
          replace hw := hw.pure k3
          replace hB := hB.pure k3
          replace hI := hI.pure k3
          replace hd_2 := hd_2.pure k3
          refine WL.nil (WX.one ⟨hd_2, ?_⟩)
          refine ⟨?_, trivial, trivial, trivial, trivial⟩
          refine DT.step [(39, _), (41, _)] rfl ⟨rfl, rfl, trivial⟩ rfl (fun wq_15 kq_15 => ?_)
          have zs_kq_15 := kq_15.size
          replace hb := hb.pure kq_15
          replace hw := hw.pure kq_15
          replace hB := hB.pure kq_15
          replace hI := hI.pure kq_15
          replace hd_2 := hd_2.pure kq_15
          replace hq := hq.pure kq_15
          refine WL.bld rfl (bld_112_0_1 _ _ _ _ _) rfl (?_)
          refine WL.nil (WX.one ⟨hd_2, ?_⟩)
          refine ⟨?_, trivial, trivial, trivial⟩
          refine DT.step [(42, _)] rfl ⟨rfl, trivial⟩ rfl (fun wq_16 kq_16 => ?_)
          have zs_kq_16 := kq_16.size
          replace hb := hb.pure kq_16
          replace hw := hw.pure kq_16
          replace hB := hB.pure kq_16
          replace hI := hI.pure kq_16
          replace hd_2 := hd_2.pure kq_16
          replace hq := hq.pure kq_16
          refine WL.build (e := ewr) [((d, a), ⟨some ⟨gq, 0, none⟩, cq, b⟩)] Tryd.underlying98 Tryd.sizeOf112 Tryd.zeroValue112 rfl rfl rfl (by first | (simp [Value.cells]; done) | (simp [Value.cells] <;> rfl) | (simp [Value.cells, eb, ei, es, ebool, e32, e64]; done)) (by decide) rfl ?_
          intro a_b43 w_b43 b43 l_b43 z_b43 k_b43
          have zs_k_b43 := k_b43.size
          replace hb := hb.pure k_b43
          replace hw := hw.pure k_b43
          replace hB := hB.pure k_b43
          replace hI := hI.pure k_b43
          replace hd_2 := hd_2.pure k_b43
          replace hq := hq.pure k_b43
          refine WL.nil (WX.one ⟨hd_2, ?_⟩)
          refine ⟨?_, trivial, trivial⟩
          refine DT.step [(36, _), (43, _)] rfl ⟨rfl, rfl, trivial⟩ rfl (fun wq_17 kq_17 => ?_)
          have zs_kq_17 := kq_17.size
          replace hb := hb.pure kq_17
          replace hw := hw.pure kq_17
          replace hB := hB.pure kq_17
          replace hI := hI.pure kq_17
          replace hd_2 := hd_2.pure kq_17
          replace hq := hq.pure kq_17
          replace b43 := b43.pure kq_17
          refine WL.append (e := ewr) info_112 rfl Tryd.underlying98 rfl rfl hI.waits (b43.rsl.src Tryd.underlying98) (by constructor <;> (simp only [List.length_cons, List.length_nil]; omega)) (fun x hx => ⟨.inr (by omega), by omega⟩) rfl ?_
          intro ao9 c9 w9 hb9 gg9 n9
          have hq9 : Row (fun x => (A x ∨ w.heap.size ≤ x) ∧ x ≠ R) _ 5 eb (some ⟨gq, 0, none⟩) cq b := hq.mono (fun x hx => ⟨.inr (by omega), by omega⟩)
          have hI9 := hI.setWaits hb9 gg9.chg (fun x hx => hx.1) (fun p hp => by
            rcases List.mem_append.1 hp with h3 | h3
            ·
              exact .inl ⟨p, h3, rfl⟩
            ·
              simp at h3
              right
              rw [h3]
              exact hq9)
          have gk : Chg (fun x => (A x ∨ w.heap.size ≤ x) ∧ x ≠ R) _ w9 := gg9.chg.mono (fun x _ hx => hx.2)
          have zs_gk := gk.size
          replace hw := hw.chg gk (by first | (intro x h1 h2; exact h2) | (intro x h0 h1 h2; exact hS x h1 h2) | (intro x h0 h1 h2; have h3 : _ = _ := h2; subst h3; exact hSR h1.1) | (intro x h1 h2; have h3 : _ = _ := h2; subst h3; assumption) | (intro x h1 h2; have h3 : _ = _ := h2; exfalso; omega) | (intro b h1 h2 h3; have h4 : _ = _ := h3; (try dsimp only at h2); exfalso; omega) | (intro h1; have h2 : _ = _ := h1; exfalso; omega) | (intro h1; have h2 : _ ≤ _ := h1; exfalso; omega) | (intros; exfalso; (try dsimp only at *); omega) | (intro b h1 h2 h3; exfalso; have h4 := h3.2; (try dsimp only at *); omega) | (intro h1; exfalso; have h4 := h1.2; (try dsimp only at *); omega) | (intro x h1 h2; exfalso; have h4 := h2.2; (try dsimp only at *); omega) | (intro x h1 h2; exact ⟨_, rfl, h2⟩) | (intro x h1 h2; have h4 := h2.1; have h5 := h2.2; exfalso; omega) | (intro x h1 h2; exact h2.1) | (intro x h1 h2; rcases h2.1 with h3 | h3; exact h3; exfalso; omega) | (intro x h1 h2; rcases h2 with h3 | h3; exact h3; exfalso; omega))
          replace hB := hB.chg gk (by first | (intro x h1 h2; exact h2) | (intro x h0 h1 h2; exact hS x h1 h2) | (intro x h0 h1 h2; have h3 : _ = _ := h2; subst h3; exact hSR h1.1) | (intro x h1 h2; have h3 : _ = _ := h2; subst h3; assumption) | (intro x h1 h2; have h3 : _ = _ := h2; exfalso; omega) | (intro b h1 h2 h3; have h4 : _ = _ := h3; (try dsimp only at h2); exfalso; omega) | (intro h1; have h2 : _ = _ := h1; exfalso; omega) | (intro h1; have h2 : _ ≤ _ := h1; exfalso; omega) | (intros; exfalso; (try dsimp only at *); omega) | (intro b h1 h2 h3; exfalso; have h4 := h3.2; (try dsimp only at *); omega) | (intro h1; exfalso; have h4 := h1.2; (try dsimp only at *); omega) | (intro x h1 h2; exfalso; have h4 := h2.2; (try dsimp only at *); omega) | (intro x h1 h2; exact ⟨_, rfl, h2⟩) | (intro x h1 h2; have h4 := h2.1; have h5 := h2.2; exfalso; omega) | (intro x h1 h2; exact h2.1) | (intro x h1 h2; rcases h2.1 with h3 | h3; exact h3; exfalso; omega) | (intro x h1 h2; rcases h2 with h3 | h3; exact h3; exfalso; omega))
          replace hd_2 := hd_2.chg gk (by first | (intro x h1 h2; exact h2) | (intro x h0 h1 h2; exact hS x h1 h2) | (intro x h0 h1 h2; have h3 : _ = _ := h2; subst h3; exact hSR h1.1) | (intro x h1 h2; have h3 : _ = _ := h2; subst h3; assumption) | (intro x h1 h2; have h3 : _ = _ := h2; exfalso; omega) | (intro b h1 h2 h3; have h4 : _ = _ := h3; (try dsimp only at h2); exfalso; omega) | (intro h1; have h2 : _ = _ := h1; exfalso; omega) | (intro h1; have h2 : _ ≤ _ := h1; exfalso; omega) | (intros; exfalso; (try dsimp only at *); omega) | (intro b h1 h2 h3; exfalso; have h4 := h3.2; (try dsimp only at *); omega) | (intro h1; exfalso; have h4 := h1.2; (try dsimp only at *); omega) | (intro x h1 h2; exfalso; have h4 := h2.2; (try dsimp only at *); omega) | (intro x h1 h2; exact ⟨_, rfl, h2⟩) | (intro x h1 h2; have h4 := h2.1; have h5 := h2.2; exfalso; omega) | (intro x h1 h2; exact h2.1) | (intro x h1 h2; rcases h2.1 with h3 | h3; exact h3; exfalso; omega) | (intro x h1 h2; rcases h2 with h3 | h3; exact h3; exfalso; omega))
          refine WL.nil (WX.one ⟨hd_2, ?_⟩)
          refine ⟨?_, trivial⟩
          refine DT.step [(46, _), (44, _)] rfl ⟨rfl, rfl, trivial⟩ rfl (fun wq_18 kq_18 => ?_)
          have zs_kq_18 := kq_18.size
          replace hw := hw.pure kq_18
          replace hB := hB.pure kq_18
          replace hd_2 := hd_2.pure kq_18
          replace hI9 := hI9.pure kq_18
          refine WL.store Tryd.sizeOf98 hB rfl rfl rfl rfl ?_
          intro w_19 hs_19 hn_19 k_19
          have zs_k_19 := k_19.size
          replace hw := hw.chg k_19 (by first | (intro x h1 h2; exact h2) | (intro x h0 h1 h2; exact hS x h1 h2) | (intro x h0 h1 h2; have h3 : _ = _ := h2; subst h3; exact hSR h1.1) | (intro x h1 h2; have h3 : _ = _ := h2; subst h3; assumption) | (intro x h1 h2; have h3 : _ = _ := h2; exfalso; omega) | (intro b h1 h2 h3; have h4 : _ = _ := h3; (try dsimp only at h2); exfalso; omega) | (intro h1; have h2 : _ = _ := h1; exfalso; omega) | (intro h1; have h2 : _ ≤ _ := h1; exfalso; omega) | (intros; exfalso; (try dsimp only at *); omega) | (intro b h1 h2 h3; exfalso; have h4 := h3.2; (try dsimp only at *); omega) | (intro h1; exfalso; have h4 := h1.2; (try dsimp only at *); omega) | (intro x h1 h2; exfalso; have h4 := h2.2; (try dsimp only at *); omega) | (intro x h1 h2; exact ⟨_, rfl, h2⟩) | (intro x h1 h2; have h4 := h2.1; have h5 := h2.2; exfalso; omega) | (intro x h1 h2; exact h2.1) | (intro x h1 h2; rcases h2.1 with h3 | h3; exact h3; exfalso; omega) | (intro x h1 h2; rcases h2 with h3 | h3; exact h3; exfalso; omega))
          replace hd_2 := hd_2.chg k_19 (by first | (intro x h1 h2; exact h2) | (intro x h0 h1 h2; exact hS x h1 h2) | (intro x h0 h1 h2; have h3 : _ = _ := h2; subst h3; exact hSR h1.1) | (intro x h1 h2; have h3 : _ = _ := h2; subst h3; assumption) | (intro x h1 h2; have h3 : _ = _ := h2; exfalso; omega) | (intro b h1 h2 h3; have h4 : _ = _ := h3; (try dsimp only at h2); exfalso; omega) | (intro h1; have h2 : _ = _ := h1; exfalso; omega) | (intro h1; have h2 : _ ≤ _ := h1; exfalso; omega) | (intros; exfalso; (try dsimp only at *); omega) | (intro b h1 h2 h3; exfalso; have h4 := h3.2; (try dsimp only at *); omega) | (intro h1; exfalso; have h4 := h1.2; (try dsimp only at *); omega) | (intro x h1 h2; exfalso; have h4 := h2.2; (try dsimp only at *); omega) | (intro x h1 h2; exact ⟨_, rfl, h2⟩) | (intro x h1 h2; have h4 := h2.1; have h5 := h2.2; exfalso; omega) | (intro x h1 h2; exact h2.1) | (intro x h1 h2; rcases h2.1 with h3 | h3; exact h3; exfalso; omega) | (intro x h1 h2; rcases h2 with h3 | h3; exact h3; exfalso; omega))
          replace hI9 := hI9.chg k_19 (by first | (intro x h1 h2; exact h2) | (intro x h0 h1 h2; exact hS x h1 h2) | (intro x h0 h1 h2; have h3 : _ = _ := h2; subst h3; exact hSR h1.1) | (intro x h1 h2; have h3 : _ = _ := h2; subst h3; assumption) | (intro x h1 h2; have h3 : _ = _ := h2; exfalso; omega) | (intro b h1 h2 h3; have h4 : _ = _ := h3; (try dsimp only at h2); exfalso; omega) | (intro h1; have h2 : _ = _ := h1; exfalso; omega) | (intro h1; have h2 : _ ≤ _ := h1; exfalso; omega) | (intros; exfalso; (try dsimp only at *); omega) | (intro b h1 h2 h3; exfalso; have h4 := h3.2; (try dsimp only at *); omega) | (intro h1; exfalso; have h4 := h1.2; (try dsimp only at *); omega) | (intro x h1 h2; exfalso; have h4 := h2.2; (try dsimp only at *); omega) | (intro x h1 h2; exact ⟨_, rfl, h2⟩) | (intro x h1 h2; have h4 := h2.1; have h5 := h2.2; exfalso; omega) | (intro x h1 h2; exact h2.1) | (intro x h1 h2; rcases h2.1 with h3 | h3; exact h3; exfalso; omega) | (intro x h1 h2; rcases h2 with h3 | h3; exact h3; exfalso; omega))
          replace hB := hn_19
          refine WL.nil (WX.one0 (v := undef) ⟨hd_2, ?_⟩)
          refine DT.done (fun we_20 ke_20 => ?_) _
          have zs_ke_20 := ke_20.size
          replace hw := hw.pure ke_20
          replace hB := hB.pure ke_20
          replace hd_2 := hd_2.pure ke_20
          replace hI9 := hI9.pure ke_20
          rotate_left
          refine DT.step [(40, _)] rfl ⟨rfl, trivial⟩ rfl (fun wq_13 kq_13 => ?_)
          have zs_kq_13 := kq_13.size
          replace hb := hb.pure kq_13
          replace hw := hw.pure kq_13
          replace hB := hB.pure kq_13
          replace hI := hI.pure kq_13
          replace hd_2 := hd_2.pure kq_13
          refine WL.call eg_68 rfl rfl (bclone_calls hb (by omega)) ?_
          rintro v w3 ⟨⟨gq, cq, rfl, hq, hq1, hq2⟩, k3⟩
          have zs_k3 := k3.size
          replace hb := hb.pure k3
          replace hw := hw.pure k3
          replace hB := hB.pure k3
          replace hI := hI.pure k3
          replace hd_2 := hd_2.pure k3
          refine WL.nil (WX.one ⟨hd_2, ?_⟩)
          refine ⟨?_, ?_, trivial, trivial, trivial, trivial⟩
          refine DT.step [(35, _)] rfl ⟨rfl, trivial⟩ rfl (fun wq_14 kq_14 => ?_)
          have zs_kq_14 := kq_14.size
          replace hb := hb.pure kq_14
          replace hw := hw.pure kq_14
          replace hB := hB.pure kq_14
          replace hI := hI.pure kq_14
          replace hd_2 := hd_2.pure kq_14
          replace hq := hq.pure kq_14
          refine WL.loadB Tryd.isAgg98 hB rfl rfl rfl (?_)
          refine WL.nil (WX.one ⟨hd_2, ?_⟩)
          refine ⟨?_, trivial, trivial, trivial, trivial⟩
          refine DT.step [(39, _), (41, _)] rfl ⟨rfl, rfl, trivial⟩ rfl (fun wq_15 kq_15 => ?_)
          have zs_kq_15 := kq_15.size
          replace hb := hb.pure kq_15
          replace hw := hw.pure kq_15
          replace hB := hB.pure kq_15
          replace hI := hI.pure kq_15
          replace hd_2 := hd_2.pure kq_15
          replace hq := hq.pure kq_15
          refine WL.bld rfl (bld_112_0_1 _ _ _ _ _) rfl (?_)
          refine WL.nil (WX.one ⟨hd_2, ?_⟩)
          refine ⟨?_, trivial, trivial, trivial⟩
          refine DT.step [(42, _)] rfl ⟨rfl, trivial⟩ rfl (fun wq_16 kq_16 => ?_)
          have zs_kq_16 := kq_16.size
          replace hb := hb.pure kq_16
          replace hw := hw.pure kq_16
          replace hB := hB.pure kq_16
          replace hI := hI.pure kq_16
          replace hd_2 := hd_2.pure kq_16
          replace hq := hq.pure kq_16
          refine WL.build (e := ewr) [((d, a), ⟨some ⟨gq, 0, none⟩, cq, b⟩)] Tryd.underlying98 Tryd.sizeOf112 Tryd.zeroValue112 rfl rfl rfl (by first | (simp [Value.cells]; done) | (simp [Value.cells] <;> rfl) | (simp [Value.cells, eb, ei, es, ebool, e32, e64]; done)) (by decide) rfl ?_
          intro a_b43 w_b43 b43 l_b43 z_b43 k_b43
          have zs_k_b43 := k_b43.size
          replace hb := hb.pure k_b43
          replace hw := hw.pure k_b43
          replace hB := hB.pure k_b43
          replace hI := hI.pure k_b43
          replace hd_2 := hd_2.pure k_b43
          replace hq := hq.pure k_b43
          refine WL.nil (WX.one ⟨hd_2, ?_⟩)
          refine ⟨?_, trivial, trivial⟩
          refine DT.step [(36, _), (43, _)] rfl ⟨rfl, rfl, trivial⟩ rfl (fun wq_17 kq_17 => ?_)
          have zs_kq_17 := kq_17.size
          replace hb := hb.pure kq_17
          replace hw := hw.pure kq_17
          replace hB := hB.pure kq_17
          replace hI := hI.pure kq_17
          replace hd_2 := hd_2.pure kq_17
          replace hq := hq.pure kq_17
          replace b43 := b43.pure kq_17
          refine WL.append (e := ewr) info_112 rfl Tryd.underlying98 rfl rfl hI.waits (b43.rsl.src Tryd.underlying98) (by constructor <;> (simp only [List.length_cons, List.length_nil]; omega)) (fun x hx => ⟨.inr (by omega), by omega⟩) rfl ?_
          intro ao9 c9 w9 hb9 gg9 n9
          have hq9 : Row (fun x => (A x ∨ w.heap.size ≤ x) ∧ x ≠ R) _ 5 eb (some ⟨gq, 0, none⟩) cq b := hq.mono (fun x hx => ⟨.inr (by omega), by omega⟩)
          have hI9 := hI.setWaits hb9 gg9.chg (fun x hx => hx.1) (fun p hp => by
            rcases List.mem_append.1 hp with h3 | h3
            ·
              exact .inl ⟨p, h3, rfl⟩
            ·
              simp at h3
              right
              rw [h3]
              exact hq9)
          have gk : Chg (fun x => (A x ∨ w.heap.size ≤ x) ∧ x ≠ R) _ w9 := gg9.chg.mono (fun x _ hx => hx.2)
          have zs_gk := gk.size
          replace hw := hw.chg gk (by first | (intro x h1 h2; exact h2) | (intro x h0 h1 h2; exact hS x h1 h2) | (intro x h0 h1 h2; have h3 : _ = _ := h2; subst h3; exact hSR h1.1) | (intro x h1 h2; have h3 : _ = _ := h2; subst h3; assumption) | (intro x h1 h2; have h3 : _ = _ := h2; exfalso; omega) | (intro b h1 h2 h3; have h4 : _ = _ := h3; (try dsimp only at h2); exfalso; omega) | (intro h1; have h2 : _ = _ := h1; exfalso; omega) | (intro h1; have h2 : _ ≤ _ := h1; exfalso; omega) | (intros; exfalso; (try dsimp only at *); omega) | (intro b h1 h2 h3; exfalso; have h4 := h3.2; (try dsimp only at *); omega) | (intro h1; exfalso; have h4 := h1.2; (try dsimp only at *); omega) | (intro x h1 h2; exfalso; have h4 := h2.2; (try dsimp only at *); omega) | (intro x h1 h2; exact ⟨_, rfl, h2⟩) | (intro x h1 h2; have h4 := h2.1; have h5 := h2.2; exfalso; omega) | (intro x h1 h2; exact h2.1) | (intro x h1 h2; rcases h2.1 with h3 | h3; exact h3; exfalso; omega) | (intro x h1 h2; rcases h2 with h3 | h3; exact h3; exfalso; omega))
          replace hB := hB.chg gk (by first | (intro x h1 h2; exact h2) | (intro x h0 h1 h2; exact hS x h1 h2) | (intro x h0 h1 h2; have h3 : _ = _ := h2; subst h3; exact hSR h1.1) | (intro x h1 h2; have h3 : _ = _ := h2; subst h3; assumption) | (intro x h1 h2; have h3 : _ = _ := h2; exfalso; omega) | (intro b h1 h2 h3; have h4 : _ = _ := h3; (try dsimp only at h2); exfalso; omega) | (intro h1; have h2 : _ = _ := h1; exfalso; omega) | (intro h1; have h2 : _ ≤ _ := h1; exfalso; omega) | (intros; exfalso; (try dsimp only at *); omega) | (intro b h1 h2 h3; exfalso; have h4 := h3.2; (try dsimp only at *); omega) | (intro h1; exfalso; have h4 := h1.2; (try dsimp only at *); omega) | (intro x h1 h2; exfalso; have h4 := h2.2; (try dsimp only at *); omega) | (intro x h1 h2; exact ⟨_, rfl, h2⟩) | (intro x h1 h2; have h4 := h2.1; have h5 := h2.2; exfalso; omega) | (intro x h1 h2; exact h2.1) | (intro x h1 h2; rcases h2.1 with h3 | h3; exact h3; exfalso; omega) | (intro x h1 h2; rcases h2 with h3 | h3; exact h3; exfalso; omega))
          replace hd_2 := hd_2.chg gk (by first | (intro x h1 h2; exact h2) | (intro x h0 h1 h2; exact hS x h1 h2) | (intro x h0 h1 h2; have h3 : _ = _ := h2; subst h3; exact hSR h1.1) | (intro x h1 h2; have h3 : _ = _ := h2; subst h3; assumption) | (intro x h1 h2; have h3 : _ = _ := h2; exfalso; omega) | (intro b h1 h2 h3; have h4 : _ = _ := h3; (try dsimp only at h2); exfalso; omega) | (intro h1; have h2 : _ = _ := h1; exfalso; omega) | (intro h1; have h2 : _ ≤ _ := h1; exfalso; omega) | (intros; exfalso; (try dsimp only at *); omega) | (intro b h1 h2 h3; exfalso; have h4 := h3.2; (try dsimp only at *); omega) | (intro h1; exfalso; have h4 := h1.2; (try dsimp only at *); omega) | (intro x h1 h2; exfalso; have h4 := h2.2; (try dsimp only at *); omega) | (intro x h1 h2; exact ⟨_, rfl, h2⟩) | (intro x h1 h2; have h4 := h2.1; have h5 := h2.2; exfalso; omega) | (intro x h1 h2; exact h2.1) | (intro x h1 h2; rcases h2.1 with h3 | h3; exact h3; exfalso; omega) | (intro x h1 h2; rcases h2 with h3 | h3; exact h3; exfalso; omega))
          refine WL.nil (WX.one ⟨hd_2, ?_⟩)
          refine ⟨?_, trivial⟩
          refine DT.step [(46, _), (44, _)] rfl ⟨rfl, rfl, trivial⟩ rfl (fun wq_18 kq_18 => ?_)
          have zs_kq_18 := kq_18.size
          replace hw := hw.pure kq_18
          replace hB := hB.pure kq_18
          replace hd_2 := hd_2.pure kq_18
          replace hI9 := hI9.pure kq_18
          refine WL.store Tryd.sizeOf98 hB rfl rfl rfl rfl ?_
          intro w_19 hs_19 hn_19 k_19
          have zs_k_19 := k_19.size
          replace hw := hw.chg k_19 (by first | (intro x h1 h2; exact h2) | (intro x h0 h1 h2; exact hS x h1 h2) | (intro x h0 h1 h2; have h3 : _ = _ := h2; subst h3; exact hSR h1.1) | (intro x h1 h2; have h3 : _ = _ := h2; subst h3; assumption) | (intro x h1 h2; have h3 : _ = _ := h2; exfalso; omega) | (intro b h1 h2 h3; have h4 : _ = _ := h3; (try dsimp only at h2); exfalso; omega) | (intro h1; have h2 : _ = _ := h1; exfalso; omega) | (intro h1; have h2 : _ ≤ _ := h1; exfalso; omega) | (intros; exfalso; (try dsimp only at *); omega) | (intro b h1 h2 h3; exfalso; have h4 := h3.2; (try dsimp only at *); omega) | (intro h1; exfalso; have h4 := h1.2; (try dsimp only at *); omega) | (intro x h1 h2; exfalso; have h4 := h2.2; (try dsimp only at *); omega) | (intro x h1 h2; exact ⟨_, rfl, h2⟩) | (intro x h1 h2; have h4 := h2.1; have h5 := h2.2; exfalso; omega) | (intro x h1 h2; exact h2.1) | (intro x h1 h2; rcases h2.1 with h3 | h3; exact h3; exfalso; omega) | (intro x h1 h2; rcases h2 with h3 | h3; exact h3; exfalso; omega))
          replace hd_2 := hd_2.chg k_19 (by first | (intro x h1 h2; exact h2) | (intro x h0 h1 h2; exact hS x h1 h2) | (intro x h0 h1 h2; have h3 : _ = _ := h2; subst h3; exact hSR h1.1) | (intro x h1 h2; have h3 : _ = _ := h2; subst h3; assumption) | (intro x h1 h2; have h3 : _ = _ := h2; exfalso; omega) | (intro b h1 h2 h3; have h4 : _ = _ := h3; (try dsimp only at h2); exfalso; omega) | (intro h1; have h2 : _ = _ := h1; exfalso; omega) | (intro h1; have h2 : _ ≤ _ := h1; exfalso; omega) | (intros; exfalso; (try dsimp only at *); omega) | (intro b h1 h2 h3; exfalso; have h4 := h3.2; (try dsimp only at *); omega) | (intro h1; exfalso; have h4 := h1.2; (try dsimp only at *); omega) | (intro x h1 h2; exfalso; have h4 := h2.2; (try dsimp only at *); omega) | (intro x h1 h2; exact ⟨_, rfl, h2⟩) | (intro x h1 h2; have h4 := h2.1; have h5 := h2.2; exfalso; omega) | (intro x h1 h2; exact h2.1) | (intro x h1 h2; rcases h2.1 with h3 | h3; exact h3; exfalso; omega) | (intro x h1 h2; rcases h2 with h3 | h3; exact h3; exfalso; omega))
          replace hI9 := hI9.chg k_19 (by first | (intro x h1 h2; exact h2) | (intro x h0 h1 h2; exact hS x h1 h2) | (intro x h0 h1 h2; have h3 : _ = _ := h2; subst h3; exact hSR h1.1) | (intro x h1 h2; have h3 : _ = _ := h2; subst h3; assumption) | (intro x h1 h2; have h3 : _ = _ := h2; exfalso; omega) | (intro b h1 h2 h3; have h4 : _ = _ := h3; (try dsimp only at h2); exfalso; omega) | (intro h1; have h2 : _ = _ := h1; exfalso; omega) | (intro h1; have h2 : _ ≤ _ := h1; exfalso; omega) | (intros; exfalso; (try dsimp only at *); omega) | (intro b h1 h2 h3; exfalso; have h4 := h3.2; (try dsimp only at *); omega) | (intro h1; exfalso; have h4 := h1.2; (try dsimp only at *); omega) | (intro x h1 h2; exfalso; have h4 := h2.2; (try dsimp only at *); omega) | (intro x h1 h2; exact ⟨_, rfl, h2⟩) | (intro x h1 h2; have h4 := h2.1; have h5 := h2.2; exfalso; omega) | (intro x h1 h2; exact h2.1) | (intro x h1 h2; rcases h2.1 with h3 | h3; exact h3; exfalso; omega) | (intro x h1 h2; rcases h2 with h3 | h3; exact h3; exfalso; omega))
          replace hB := hn_19
          refine WL.nil (WX.one0 (v := undef) ⟨hd_2, ?_⟩)
          refine DT.done (fun we_20 ke_20 => ?_) _
          have zs_ke_20 := ke_20.size
          replace hw := hw.pure ke_20
          replace hB := hB.pure ke_20
          replace hd_2 := hd_2.pure ke_20
          replace hI9 := hI9.pure ke_20
          rotate_left
          refine DT.step [(39, _), (41, _)] rfl ⟨rfl, rfl, trivial⟩ rfl (fun wq_14 kq_14 => ?_)
          have zs_kq_14 := kq_14.size
          replace hb := hb.pure kq_14
          replace hw := hw.pure kq_14
          replace hB := hB.pure kq_14
          replace hI := hI.pure kq_14
          replace hd_2 := hd_2.pure kq_14
          replace hq := hq.pure kq_14
          refine WL.bld rfl (bld_112_0_1 _ _ _ _ _) rfl (?_)
          refine WL.nil (WX.one ⟨hd_2, ?_⟩)
          refine ⟨?_, ?_, trivial, trivial, trivial⟩
          refine DT.step [(35, _)] rfl ⟨rfl, trivial⟩ rfl (fun wq_15 kq_15 => ?_)
          have zs_kq_15 := kq_15.size
          replace hb := hb.pure kq_15
          replace hw := hw.pure kq_15
          replace hB := hB.pure kq_15
          replace hI := hI.pure kq_15
          replace hd_2 := hd_2.pure kq_15
          replace hq := hq.pure kq_15
          refine WL.loadB Tryd.isAgg98 hB rfl rfl rfl (?_)
          refine WL.nil (WX.one ⟨hd_2, ?_⟩)
          refine ⟨?_, trivial, trivial, trivial⟩
          refine DT.step [(42, _)] rfl ⟨rfl, trivial⟩ rfl (fun wq_16 kq_16 => ?_)
          have zs_kq_16 := kq_16.size
          replace hb := hb.pure kq_16
          replace hw := hw.pure kq_16
          replace hB := hB.pure kq_16
          replace hI := hI.pure kq_16
          replace hd_2 := hd_2.pure kq_16
          replace hq := hq.pure kq_16
          refine WL.build (e := ewr) [((d, a), ⟨some ⟨gq, 0, none⟩, cq, b⟩)] Tryd.underlying98 Tryd.sizeOf112 Tryd.zeroValue112 rfl rfl rfl (by first | (simp [Value.cells]; done) | (simp [Value.cells] <;> rfl) | (simp [Value.cells, eb, ei, es, ebool, e32, e64]; done)) (by decide) rfl ?_
          intro a_b43 w_b43 b43 l_b43 z_b43 k_b43
          have zs_k_b43 := k_b43.size
          replace hb := hb.pure k_b43
          replace hw := hw.pure k_b43
          replace hB := hB.pure k_b43
          replace hI := hI.pure k_b43
          replace hd_2 := hd_2.pure k_b43
          replace hq := hq.pure k_b43
          refine WL.nil (WX.one ⟨hd_2, ?_⟩)
          refine ⟨?_, trivial, trivial⟩
          refine DT.step [(36, _), (43, _)] rfl ⟨rfl, rfl, trivial⟩ rfl (fun wq_17 kq_17 => ?_)
          have zs_kq_17 := kq_17.size
          replace hb := hb.pure kq_17
          replace hw := hw.pure kq_17
          replace hB := hB.pure kq_17
          replace hI := hI.pure kq_17
          replace hd_2 := hd_2.pure kq_17
          replace hq := hq.pure kq_17
          replace b43 := b43.pure kq_17
          refine WL.append (e := ewr) info_112 rfl Tryd.underlying98 rfl rfl hI.waits (b43.rsl.src Tryd.underlying98) (by constructor <;> (simp only [List.length_cons, List.length_nil]; omega)) (fun x hx => ⟨.inr (by omega), by omega⟩) rfl ?_
          intro ao9 c9 w9 hb9 gg9 n9
          have hq9 : Row (fun x => (A x ∨ w.heap.size ≤ x) ∧ x ≠ R) _ 5 eb (some ⟨gq, 0, none⟩) cq b := hq.mono (fun x hx => ⟨.inr (by omega), by omega⟩)
          have hI9 := hI.setWaits hb9 gg9.chg (fun x hx => hx.1) (fun p hp => by
            rcases List.mem_append.1 hp with h3 | h3
            ·
              exact .inl ⟨p, h3, rfl⟩
            ·
              simp at h3
              right
              rw [h3]
              exact hq9)
          have gk : Chg (fun x => (A x ∨ w.heap.size ≤ x) ∧ x ≠ R) _ w9 := gg9.chg.mono (fun x _ hx => hx.2)
          have zs_gk := gk.size
          replace hw := hw.chg gk (by first | (intro x h1 h2; exact h2) | (intro x h0 h1 h2; exact hS x h1 h2) | (intro x h0 h1 h2; have h3 : _ = _ := h2; subst h3; exact hSR h1.1) | (intro x h1 h2; have h3 : _ = _ := h2; subst h3; assumption) | (intro x h1 h2; have h3 : _ = _ := h2; exfalso; omega) | (intro b h1 h2 h3; have h4 : _ = _ := h3; (try dsimp only at h2); exfalso; omega) | (intro h1; have h2 : _ = _ := h1; exfalso; omega) | (intro h1; have h2 : _ ≤ _ := h1; exfalso; omega) | (intros; exfalso; (try dsimp only at *); omega) | (intro b h1 h2 h3; exfalso; have h4 := h3.2; (try dsimp only at *); omega) | (intro h1; exfalso; have h4 := h1.2; (try dsimp only at *); omega) | (intro x h1 h2; exfalso; have h4 := h2.2; (try dsimp only at *); omega) | (intro x h1 h2; exact ⟨_, rfl, h2⟩) | (intro x h1 h2; have h4 := h2.1; have h5 := h2.2; exfalso; omega) | (intro x h1 h2; exact h2.1) | (intro x h1 h2; rcases h2.1 with h3 | h3; exact h3; exfalso; omega) | (intro x h1 h2; rcases h2 with h3 | h3; exact h3; exfalso; omega))
          replace hB := hB.chg gk (by first | (intro x h1 h2; exact h2) | (intro x h0 h1 h2; exact hS x h1 h2) | (intro x h0 h1 h2; have h3 : _ = _ := h2; subst h3; exact hSR h1.1) | (intro x h1 h2; have h3 : _ = _ := h2; subst h3; assumption) | (intro x h1 h2; have h3 : _ = _ := h2; exfalso; omega) | (intro b h1 h2 h3; have h4 : _ = _ := h3; (try dsimp only at h2); exfalso; omega) | (intro h1; have h2 : _ = _ := h1; exfalso; omega) | (intro h1; have h2 : _ ≤ _ := h1; exfalso; omega) | (intros; exfalso; (try dsimp only at *); omega) | (intro b h1 h2 h3; exfalso; have h4 := h3.2; (try dsimp only at *); omega) | (intro h1; exfalso; have h4 := h1.2; (try dsimp only at *); omega) | (intro x h1 h2; exfalso; have h4 := h2.2; (try dsimp only at *); omega) | (intro x h1 h2; exact ⟨_, rfl, h2⟩) | (intro x h1 h2; have h4 := h2.1; have h5 := h2.2; exfalso; omega) | (intro x h1 h2; exact h2.1) | (intro x h1 h2; rcases h2.1 with h3 | h3; exact h3; exfalso; omega) | (intro x h1 h2; rcases h2 with h3 | h3; exact h3; exfalso; omega))
          replace hd_2 := hd_2.chg gk (by first | (intro x h1 h2; exact h2) | (intro x h0 h1 h2; exact hS x h1 h2) | (intro x h0 h1 h2; have h3 : _ = _ := h2; subst h3; exact hSR h1.1) | (intro x h1 h2; have h3 : _ = _ := h2; subst h3; assumption) | (intro x h1 h2; have h3 : _ = _ := h2; exfalso; omega) | (intro b h1 h2 h3; have h4 : _ = _ := h3; (try dsimp only at h2); exfalso; omega) | (intro h1; have h2 : _ = _ := h1; exfalso; omega) | (intro h1; have h2 : _ ≤ _ := h1; exfalso; omega) | (intros; exfalso; (try dsimp only at *); omega) | (intro b h1 h2 h3; exfalso; have h4 := h3.2; (try dsimp only at *); omega) | (intro h1; exfalso; have h4 := h1.2; (try dsimp only at *); omega) | (intro x h1 h2; exfalso; have h4 := h2.2; (try dsimp only at *); omega) | (intro x h1 h2; exact ⟨_, rfl, h2⟩) | (intro x h1 h2; have h4 := h2.1; have h5 := h2.2; exfalso; omega) | (intro x h1 h2; exact h2.1) | (intro x h1 h2; rcases h2.1 with h3 | h3; exact h3; exfalso; omega) | (intro x h1 h2; rcases h2 with h3 | h3; exact h3; exfalso; omega))
          refine WL.nil (WX.one ⟨hd_2, ?_⟩)
          refine ⟨?_, trivial⟩
          refine DT.step [(46, _), (44, _)] rfl ⟨rfl, rfl, trivial⟩ rfl (fun wq_18 kq_18 => ?_)
          have zs_kq_18 := kq_18.size
          replace hw := hw.pure kq_18
          replace hB := hB.pure kq_18
          replace hd_2 := hd_2.pure kq_18
          replace hI9 := hI9.pure kq_18
          refine WL.store Tryd.sizeOf98 hB rfl rfl rfl rfl ?_
          intro w_19 hs_19 hn_19 k_19
          have zs_k_19 := k_19.size
          replace hw := hw.chg k_19 (by first | (intro x h1 h2; exact h2) | (intro x h0 h1 h2; exact hS x h1 h2) | (intro x h0 h1 h2; have h3 : _ = _ := h2; subst h3; exact hSR h1.1) | (intro x h1 h2; have h3 : _ = _ := h2; subst h3; assumption) | (intro x h1 h2; have h3 : _ = _ := h2; exfalso; omega) | (intro b h1 h2 h3; have h4 : _ = _ := h3; (try dsimp only at h2); exfalso; omega) | (intro h1; have h2 : _ = _ := h1; exfalso; omega) | (intro h1; have h2 : _ ≤ _ := h1; exfalso; omega) | (intros; exfalso; (try dsimp only at *); omega) | (intro b h1 h2 h3; exfalso; have h4 := h3.2; (try dsimp only at *); omega) | (intro h1; exfalso; have h4 := h1.2; (try dsimp only at *); omega) | (intro x h1 h2; exfalso; have h4 := h2.2; (try dsimp only at *); omega) | (intro x h1 h2; exact ⟨_, rfl, h2⟩) | (intro x h1 h2; have h4 := h2.1; have h5 := h2.2; exfalso; omega) | (intro x h1 h2; exact h2.1) | (intro x h1 h2; rcases h2.1 with h3 | h3; exact h3; exfalso; omega) | (intro x h1 h2; rcases h2 with h3 | h3; exact h3; exfalso; omega))
          replace hd_2 := hd_2.chg k_19 (by first | (intro x h1 h2; exact h2) | (intro x h0 h1 h2; exact hS x h1 h2) | (intro x h0 h1 h2; have h3 : _ = _ := h2; subst h3; exact hSR h1.1) | (intro x h1 h2; have h3 : _ = _ := h2; subst h3; assumption) | (intro x h1 h2; have h3 : _ = _ := h2; exfalso; omega) | (intro b h1 h2 h3; have h4 : _ = _ := h3; (try dsimp only at h2); exfalso; omega) | (intro h1; have h2 : _ = _ := h1; exfalso; omega) | (intro h1; have h2 : _ ≤ _ := h1; exfalso; omega) | (intros; exfalso; (try dsimp only at *); omega) | (intro b h1 h2 h3; exfalso; have h4 := h3.2; (try dsimp only at *); omega) | (intro h1; exfalso; have h4 := h1.2; (try dsimp only at *); omega) | (intro x h1 h2; exfalso; have h4 := h2.2; (try dsimp only at *); omega) | (intro x h1 h2; exact ⟨_, rfl, h2⟩) | (intro x h1 h2; have h4 := h2.1; have h5 := h2.2; exfalso; omega) | (intro x h1 h2; exact h2.1) | (intro x h1 h2; rcases h2.1 with h3 | h3; exact h3; exfalso; omega) | (intro x h1 h2; rcases h2 with h3 | h3; exact h3; exfalso; omega))
          replace hI9 := hI9.chg k_19 (by first | (intro x h1 h2; exact h2) | (intro x h0 h1 h2; exact hS x h1 h2) | (intro x h0 h1 h2; have h3 : _ = _ := h2; subst h3; exact hSR h1.1) | (intro x h1 h2; have h3 : _ = _ := h2; subst h3; assumption) | (intro x h1 h2; have h3 : _ = _ := h2; exfalso; omega) | (intro b h1 h2 h3; have h4 : _ = _ := h3; (try dsimp only at h2); exfalso; omega) | (intro h1; have h2 : _ = _ := h1; exfalso; omega) | (intro h1; have h2 : _ ≤ _ := h1; exfalso; omega) | (intros; exfalso; (try dsimp only at *); omega) | (intro b h1 h2 h3; exfalso; have h4 := h3.2; (try dsimp only at *); omega) | (intro h1; exfalso; have h4 := h1.2; (try dsimp only at *); omega) | (intro x h1 h2; exfalso; have h4 := h2.2; (try dsimp only at *); omega) | (intro x h1 h2; exact ⟨_, rfl, h2⟩) | (intro x h1 h2; have h4 := h2.1; have h5 := h2.2; exfalso; omega) | (intro x h1 h2; exact h2.1) | (intro x h1 h2; rcases h2.1 with h3 | h3; exact h3; exfalso; omega) | (intro x h1 h2; rcases h2 with h3 | h3; exact h3; exfalso; omega))
          replace hB := hn_19
          refine WL.nil (WX.one0 (v := undef) ⟨hd_2, ?_⟩)
          refine DT.done (fun we_20 ke_20 => ?_) _
          have zs_ke_20 := ke_20.size
          replace hw := hw.pure ke_20
          replace hB := hB.pure ke_20
          replace hd_2 := hd_2.pure ke_20
          replace hI9 := hI9.pure ke_20
          rotate_left
          refine DT.step [(42, _)] rfl ⟨rfl, trivial⟩ rfl (fun wq_15 kq_15 => ?_)
          have zs_kq_15 := kq_15.size
          replace hb := hb.pure kq_15
          replace hw := hw.pure kq_15
          replace hB := hB.pure kq_15
          replace hI := hI.pure kq_15
          replace hd_2 := hd_2.pure kq_15
          replace hq := hq.pure kq_15
          refine WL.build (e := ewr) [((d, a), ⟨some ⟨gq, 0, none⟩, cq, b⟩)] Tryd.underlying98 Tryd.sizeOf112 Tryd.zeroValue112 rfl rfl rfl (by first | (simp [Value.cells]; done) | (simp [Value.cells] <;> rfl) | (simp [Value.cells, eb, ei, es, ebool, e32, e64]; done)) (by decide) rfl ?_
          intro a_b43 w_b43 b43 l_b43 z_b43 k_b43
          have zs_k_b43 := k_b43.size
          replace hb := hb.pure k_b43
          replace hw := hw.pure k_b43
          replace hB := hB.pure k_b43
          replace hI := hI.pure k_b43
          replace hd_2 := hd_2.pure k_b43
          replace hq := hq.pure k_b43
          refine WL.nil (WX.one ⟨hd_2, ?_⟩)
          refine ⟨?_, trivial, trivial, trivial⟩
          refine DT.step [(35, _)] rfl ⟨rfl, trivial⟩ rfl (fun wq_16 kq_16 => ?_)
          have zs_kq_16 := kq_16.size
          replace hb := hb.pure kq_16
          replace hw := hw.pure kq_16
          replace hB := hB.pure kq_16
          replace hI := hI.pure kq_16
          replace hd_2 := hd_2.pure kq_16
          replace hq := hq.pure kq_16
          replace b43 := b43.pure kq_16
          refine WL.loadB Tryd.isAgg98 hB rfl rfl rfl (?_)
          refine WL.nil (WX.one ⟨hd_2, ?_⟩)
          refine ⟨?_, trivial, trivial⟩
          refine DT.step [(36, _), (43, _)] rfl ⟨rfl, rfl, trivial⟩ rfl (fun wq_17 kq_17 => ?_)
          have zs_kq_17 := kq_17.size
          replace hb := hb.pure kq_17
          replace hw := hw.pure kq_17
          replace hB := hB.pure kq_17
          replace hI := hI.pure kq_17
          replace hd_2 := hd_2.pure kq_17
          replace hq := hq.pure kq_17
          replace b43 := b43.pure kq_17
          refine WL.append (e := ewr) info_112 rfl Tryd.underlying98 rfl rfl hI.waits (b43.rsl.src Tryd.underlying98) (by constructor <;> (simp only [List.length_cons, List.length_nil]; omega)) (fun x hx => ⟨.inr (by omega), by omega⟩) rfl ?_
          intro ao9 c9 w9 hb9 gg9 n9
          have hq9 : Row (fun x => (A x ∨ w.heap.size ≤ x) ∧ x ≠ R) _ 5 eb (some ⟨gq, 0, none⟩) cq b := hq.mono (fun x hx => ⟨.inr (by omega), by omega⟩)
          have hI9 := hI.setWaits hb9 gg9.chg (fun x hx => hx.1) (fun p hp => by
            rcases List.mem_append.1 hp with h3 | h3
            ·
              exact .inl ⟨p, h3, rfl⟩
            ·
              simp at h3
              right
              rw [h3]
              exact hq9)
          have gk : Chg (fun x => (A x ∨ w.heap.size ≤ x) ∧ x ≠ R) _ w9 := gg9.chg.mono (fun x _ hx => hx.2)
          have zs_gk := gk.size
          replace hw := hw.chg gk (by first | (intro x h1 h2; exact h2) | (intro x h0 h1 h2; exact hS x h1 h2) | (intro x h0 h1 h2; have h3 : _ = _ := h2; subst h3; exact hSR h1.1) | (intro x h1 h2; have h3 : _ = _ := h2; subst h3; assumption) | (intro x h1 h2; have h3 : _ = _ := h2; exfalso; omega) | (intro b h1 h2 h3; have h4 : _ = _ := h3; (try dsimp only at h2); exfalso; omega) | (intro h1; have h2 : _ = _ := h1; exfalso; omega) | (intro h1; have h2 : _ ≤ _ := h1; exfalso; omega) | (intros; exfalso; (try dsimp only at *); omega) | (intro b h1 h2 h3; exfalso; have h4 := h3.2; (try dsimp only at *); omega) | (intro h1; exfalso; have h4 := h1.2; (try dsimp only at *); omega) | (intro x h1 h2; exfalso; have h4 := h2.2; (try dsimp only at *); omega) | (intro x h1 h2; exact ⟨_, rfl, h2⟩) | (intro x h1 h2; have h4 := h2.1; have h5 := h2.2; exfalso; omega) | (intro x h1 h2; exact h2.1) | (intro x h1 h2; rcases h2.1 with h3 | h3; exact h3; exfalso; omega) | (intro x h1 h2; rcases h2 with h3 | h3; exact h3; exfalso; omega))
          replace hB := hB.chg gk (by first | (intro x h1 h2; exact h2) | (intro x h0 h1 h2; exact hS x h1 h2) | (intro x h0 h1 h2; have h3 : _ = _ := h2; subst h3; exact hSR h1.1) | (intro x h1 h2; have h3 : _ = _ := h2; subst h3; assumption) | (intro x h1 h2; have h3 : _ = _ := h2; exfalso; omega) | (intro b h1 h2 h3; have h4 : _ = _ := h3; (try dsimp only at h2); exfalso; omega) | (intro h1; have h2 : _ = _ := h1; exfalso; omega) | (intro h1; have h2 : _ ≤ _ := h1; exfalso; omega) | (intros; exfalso; (try dsimp only at *); omega) | (intro b h1 h2 h3; exfalso; have h4 := h3.2; (try dsimp only at *); omega) | (intro h1; exfalso; have h4 := h1.2; (try dsimp only at *); omega) | (intro x h1 h2; exfalso; have h4 := h2.2; (try dsimp only at *); omega) | (intro x h1 h2; exact ⟨_, rfl, h2⟩) | (intro x h1 h2; have h4 := h2.1; have h5 := h2.2; exfalso; omega) | (intro x h1 h2; exact h2.1) | (intro x h1 h2; rcases h2.1 with h3 | h3; exact h3; exfalso; omega) | (intro x h1 h2; rcases h2 with h3 | h3; exact h3; exfalso; omega))
          replace hd_2 := hd_2.chg gk (by first | (intro x h1 h2; exact h2) | (intro x h0 h1 h2; exact hS x h1 h2) | (intro x h0 h1 h2; have h3 : _ = _ := h2; subst h3; exact hSR h1.1) | (intro x h1 h2; have h3 : _ = _ := h2; subst h3; assumption) | (intro x h1 h2; have h3 : _ = _ := h2; exfalso; omega) | (intro b h1 h2 h3; have h4 : _ = _ := h3; (try dsimp only at h2); exfalso; omega) | (intro h1; have h2 : _ = _ := h1; exfalso; omega) | (intro h1; have h2 : _ ≤ _ := h1; exfalso; omega) | (intros; exfalso; (try dsimp only at *); omega) | (intro b h1 h2 h3; exfalso; have h4 := h3.2; (try dsimp only at *); omega) | (intro h1; exfalso; have h4 := h1.2; (try dsimp only at *); omega) | (intro x h1 h2; exfalso; have h4 := h2.2; (try dsimp only at *); omega) | (intro x h1 h2; exact ⟨_, rfl, h2⟩) | (intro x h1 h2; have h4 := h2.1; have h5 := h2.2; exfalso; omega) | (intro x h1 h2; exact h2.1) | (intro x h1 h2; rcases h2.1 with h3 | h3; exact h3; exfalso; omega) | (intro x h1 h2; rcases h2 with h3 | h3; exact h3; exfalso; omega))
          refine WL.nil (WX.one ⟨hd_2, ?_⟩)
          refine ⟨?_, trivial⟩
          refine DT.step [(46, _), (44, _)] rfl ⟨rfl, rfl, trivial⟩ rfl (fun wq_18 kq_18 => ?_)
          have zs_kq_18 := kq_18.size
          replace hw := hw.pure kq_18
          replace hB := hB.pure kq_18
          replace hd_2 := hd_2.pure kq_18
          replace hI9 := hI9.pure kq_18
          refine WL.store Tryd.sizeOf98 hB rfl rfl rfl rfl ?_
          intro w_19 hs_19 hn_19 k_19
          have zs_k_19 := k_19.size
          replace hw := hw.chg k_19 (by first | (intro x h1 h2; exact h2) | (intro x h0 h1 h2; exact hS x h1 h2) | (intro x h0 h1 h2; have h3 : _ = _ := h2; subst h3; exact hSR h1.1) | (intro x h1 h2; have h3 : _ = _ := h2; subst h3; assumption) | (intro x h1 h2; have h3 : _ = _ := h2; exfalso; omega) | (intro b h1 h2 h3; have h4 : _ = _ := h3; (try dsimp only at h2); exfalso; omega) | (intro h1; have h2 : _ = _ := h1; exfalso; omega) | (intro h1; have h2 : _ ≤ _ := h1; exfalso; omega) | (intros; exfalso; (try dsimp only at *); omega) | (intro b h1 h2 h3; exfalso; have h4 := h3.2; (try dsimp only at *); omega) | (intro h1; exfalso; have h4 := h1.2; (try dsimp only at *); omega) | (intro x h1 h2; exfalso; have h4 := h2.2; (try dsimp only at *); omega) | (intro x h1 h2; exact ⟨_, rfl, h2⟩) | (intro x h1 h2; have h4 := h2.1; have h5 := h2.2; exfalso; omega) | (intro x h1 h2; exact h2.1) | (intro x h1 h2; rcases h2.1 with h3 | h3; exact h3; exfalso; omega) | (intro x h1 h2; rcases h2 with h3 | h3; exact h3; exfalso; omega))
          replace hd_2 := hd_2.chg k_19 (by first | (intro x h1 h2; exact h2) | (intro x h0 h1 h2; exact hS x h1 h2) | (intro x h0 h1 h2; have h3 : _ = _ := h2; subst h3; exact hSR h1.1) | (intro x h1 h2; have h3 : _ = _ := h2; subst h3; assumption) | (intro x h1 h2; have h3 : _ = _ := h2; exfalso; omega) | (intro b h1 h2 h3; have h4 : _ = _ := h3; (try dsimp only at h2); exfalso; omega) | (intro h1; have h2 : _ = _ := h1; exfalso; omega) | (intro h1; have h2 : _ ≤ _ := h1; exfalso; omega) | (intros; exfalso; (try dsimp only at *); omega) | (intro b h1 h2 h3; exfalso; have h4 := h3.2; (try dsimp only at *); omega) | (intro h1; exfalso; have h4 := h1.2; (try dsimp only at *); omega) | (intro x h1 h2; exfalso; have h4 := h2.2; (try dsimp only at *); omega) | (intro x h1 h2; exact ⟨_, rfl, h2⟩) | (intro x h1 h2; have h4 := h2.1; have h5 := h2.2; exfalso; omega) | (intro x h1 h2; exact h2.1) | (intro x h1 h2; rcases h2.1 with h3 | h3; exact h3; exfalso; omega) | (intro x h1 h2; rcases h2 with h3 | h3; exact h3; exfalso; omega))
          replace hI9 := hI9.chg k_19 (by first | (intro x h1 h2; exact h2) | (intro x h0 h1 h2; exact hS x h1 h2) | (intro x h0 h1 h2; have h3 : _ = _ := h2; subst h3; exact hSR h1.1) | (intro x h1 h2; have h3 : _ = _ := h2; subst h3; assumption) | (intro x h1 h2; have h3 : _ = _ := h2; exfalso; omega) | (intro b h1 h2 h3; have h4 : _ = _ := h3; (try dsimp only at h2); exfalso; omega) | (intro h1; have h2 : _ = _ := h1; exfalso; omega) | (intro h1; have h2 : _ ≤ _ := h1; exfalso; omega) | (intros; exfalso; (try dsimp only at *); omega) | (intro b h1 h2 h3; exfalso; have h4 := h3.2; (try dsimp only at *); omega) | (intro h1; exfalso; have h4 := h1.2; (try dsimp only at *); omega) | (intro x h1 h2; exfalso; have h4 := h2.2; (try dsimp only at *); omega) | (intro x h1 h2; exact ⟨_, rfl, h2⟩) | (intro x h1 h2; have h4 := h2.1; have h5 := h2.2; exfalso; omega) | (intro x h1 h2; exact h2.1) | (intro x h1 h2; rcases h2.1 with h3 | h3; exact h3; exfalso; omega) | (intro x h1 h2; rcases h2 with h3 | h3; exact h3; exfalso; omega))
          replace hB := hn_19
          refine WL.nil (WX.one0 (v := undef) ⟨hd_2, ?_⟩)
          refine DT.done (fun we_20 ke_20 => ?_) _
          have zs_ke_20 := ke_20.size
          replace hw := hw.pure ke_20
          replace hB := hB.pure ke_20
          replace hd_2 := hd_2.pure ke_20
          replace hI9 := hI9.pure ke_20
          rotate_left
          all_goals
            refine WX.then_normal (WC.seq (WC.region (WL.assign rfl rfl (WL.nil (WX.then_normal (WC.ret (?_)))))))
            refine WX.ret1 (.inl rfl) Tryd.results60 rfl ?_
            first
              | (have hh : (b.length : Int) ≠ 128 := h18
                 have hh2 : b.length ≠ 128 := by omega
                 exact ⟨_, rfl, by simp [writeE, hh2], by rw [show writeS s d a b = s from by simp [writeS, writeE, hh2]]; exact h.mono (fun x hx => .inl hx), hw⟩)
              | (have hh : ¬ inS s d a := h12
                 exact ⟨_, rfl, by simp [writeE, h12], by rw [show writeS s d a b = s from by simp [writeS, writeE, h12]]; exact h.mono (fun x hx => .inl hx), hw⟩)
              | (have hh : goneS s d = true := hg
                 have hh2 : b.length = 128 := by omega
                 exact ⟨_, rfl, by simp [writeE, h12, hh2, hg], by rw [show writeS s d a b = s from by simp [writeS, writeE, h12, hh2, hg]]; exact h.mono (fun x hx => .inl hx), hw⟩)
              | (have hh : offS s = true := ho
                 have hh2 : b.length = 128 := by omega
                 exact ⟨_, rfl, by simp [writeE, h12, hh2, hg, ho], by rw [show writeS s d a b = spendS s from by simp [writeS, writeE, h12, hh2, hg, ho]]; exact h2.mono (fun x hx => .inl hx), hw⟩)
              | (have hh2 : b.length = 128 := by omega
                 have e0 : writeE s d a b.length = 0 := by simp [writeE, h12, hh2, hg, ho]
                 refine ⟨_, rfl, by rw [e0], ⟨aR2, hwok, m, ga, gc, ao9, c9, ws ++ [((d, a), ⟨some ⟨gq, 0, none⟩, cq, b⟩)], ls, Eq.mp (congrArg (Blk _ R 100) ?_) hB, ?_, ?_, ?_⟩, hw⟩
                 ·
                   simp [writeS, e0]
                 ·
                   simp only [writeS, e0, if_true]
                   exact hI9.mono (fun x hx => hx.1)
                 ·
                   simp only [writeS, e0, if_true]
                   exact hls
                 ·
                   simp only [writeS, e0, if_true]
                   rw [spendS_waits] at hws
                   rw [hws]
                   simp [xsm])
        ·
          refine WL.not rfl rfl (WL.assign rfl rfl (WL.nil (WX.then_normal (WC.cond_true rfl (WC.seq (WC.region (WL.assign rfl rfl (?_))))))))
          refine WL.nil (WX.then_normal (WC.ret (WX.block_ret (WX.then_ret (?_)))))
          refine WX.ret1 (.inl rfl) Tryd.results60 rfl ?_
          first
            | (have hh : (b.length : Int) ≠ 128 := h18
               have hh2 : b.length ≠ 128 := by omega
               exact ⟨_, rfl, by simp [writeE, hh2], by rw [show writeS s d a b = s from by simp [writeS, writeE, hh2]]; exact h.mono (fun x hx => .inl hx), hw⟩)
            | (have hh : ¬ inS s d a := h12
               exact ⟨_, rfl, by simp [writeE, h12], by rw [show writeS s d a b = s from by simp [writeS, writeE, h12]]; exact h.mono (fun x hx => .inl hx), hw⟩)
            | (have hh : goneS s d = true := hg
               have hh2 : b.length = 128 := by omega
               exact ⟨_, rfl, by simp [writeE, h12, hh2, hg], by rw [show writeS s d a b = s from by simp [writeS, writeE, h12, hh2, hg]]; exact h.mono (fun x hx => .inl hx), hw⟩)
            | (have hh : offS s = true := ho
               have hh2 : b.length = 128 := by omega
               exact ⟨_, rfl, by simp [writeE, h12, hh2, hg, ho], by rw [show writeS s d a b = spendS s from by simp [writeS, writeE, h12, hh2, hg, ho]]; exact h2.mono (fun x hx => .inl hx), hw⟩)
            | (have hh2 : b.length = 128 := by omega
               have e0 : writeE s d a b.length = 0 := by simp [writeE, h12, hh2, hg, ho]
               refine ⟨_, rfl, by rw [e0], ⟨aR2, hwok, m, ga, gc, ao9, c9, ws ++ [((d, a), ⟨some ⟨gq, 0, none⟩, cq, b⟩)], ls, Eq.mp (congrArg (Blk _ R 100) ?_) hB, ?_, ?_, ?_⟩, hw⟩
               ·
                 simp [writeS, e0]
               ·
                 simp only [writeS, e0, if_true]
                 exact hI9.mono (fun x hx => hx.1)
               ·
                 simp only [writeS, e0, if_true]
                 exact hls
               ·
                 simp only [writeS, e0, if_true]
                 rw [spendS_waits] at hws
                 rw [hws]
                 simp [xsm])
      ·
        refine WL.assign rfl rfl (WL.nil (WX.then_normal (WC.cond_true rfl (WC.seq (WC.region (WL.assign rfl rfl (WL.nil (?_))))))))
        refine WX.then_normal (WC.ret (WX.block_ret (WX.then_ret (?_))))
        refine WX.ret1 (.inl rfl) Tryd.results60 rfl ?_
        first
          | (have hh : (b.length : Int) ≠ 128 := h18
             have hh2 : b.length ≠ 128 := by omega
             exact ⟨_, rfl, by simp [writeE, hh2], by rw [show writeS s d a b = s from by simp [writeS, writeE, hh2]]; exact h.mono (fun x hx => .inl hx), hw⟩)
          | (have hh : ¬ inS s d a := h12
             exact ⟨_, rfl, by simp [writeE, h12], by rw [show writeS s d a b = s from by simp [writeS, writeE, h12]]; exact h.mono (fun x hx => .inl hx), hw⟩)
          | (have hh : goneS s d = true := hg
             have hh2 : b.length = 128 := by omega
             exact ⟨_, rfl, by simp [writeE, h12, hh2, hg], by rw [show writeS s d a b = s from by simp [writeS, writeE, h12, hh2, hg]]; exact h.mono (fun x hx => .inl hx), hw⟩)
          | (have hh : offS s = true := ho
             have hh2 : b.length = 128 := by omega
             exact ⟨_, rfl, by simp [writeE, h12, hh2, hg, ho], by rw [show writeS s d a b = spendS s from by simp [writeS, writeE, h12, hh2, hg, ho]]; exact h2.mono (fun x hx => .inl hx), hw⟩)
          | (have hh2 : b.length = 128 := by omega
             have e0 : writeE s d a b.length = 0 := by simp [writeE, h12, hh2, hg, ho]
             refine ⟨_, rfl, by rw [e0], ⟨aR2, hwok, m, ga, gc, ao9, c9, ws ++ [((d, a), ⟨some ⟨gq, 0, none⟩, cq, b⟩)], ls, Eq.mp (congrArg (Blk _ R 100) ?_) hB, ?_, ?_, ?_⟩, hw⟩
             ·
               simp [writeS, e0]
             ·
               simp only [writeS, e0, if_true]
               exact hI9.mono (fun x hx => hx.1)
             ·
               simp only [writeS, e0, if_true]
               exact hls
             ·
               simp only [writeS, e0, if_true]
               rw [spendS_waits] at hws
               rw [hws]
               simp [xsm])
  ·
    rw [show decide (0 ≤ d ∧ d < (s.dn : Int) ∧ 0 ≤ a ∧ a < (s.sn : Int)) = false from decide_eq_false h12]
    refine WL.not rfl rfl (WL.move rfl rfl (WL.pass rfl rfl rfl rfl (WL.pass rfl rfl rfl rfl (WL.pass rfl rfl rfl rfl (WL.pickT rfl rfl rfl (WL.assign rfl rfl (WL.nil (?_))))))))
    refine WX.then_normal (WC.cond_true rfl (WC.seq (WC.region (WL.assign rfl rfl (WL.nil (WX.then_normal (WC.ret (?_))))))))
    refine WX.block_ret (WX.then_ret (?_))
    refine WX.ret1 (.inl rfl) Tryd.results60 rfl ?_
    first
      | (have hh : (b.length : Int) ≠ 128 := h18
         have hh2 : b.length ≠ 128 := by omega
         exact ⟨_, rfl, by simp [writeE, hh2], by rw [show writeS s d a b = s from by simp [writeS, writeE, hh2]]; exact h.mono (fun x hx => .inl hx), hw⟩)
      | (have hh : ¬ inS s d a := h12
         exact ⟨_, rfl, by simp [writeE, h12], by rw [show writeS s d a b = s from by simp [writeS, writeE, h12]]; exact h.mono (fun x hx => .inl hx), hw⟩)
      | (have hh : goneS s d = true := hg
         have hh2 : b.length = 128 := by omega
         exact ⟨_, rfl, by simp [writeE, h12, hh2, hg], by rw [show writeS s d a b = s from by simp [writeS, writeE, h12, hh2, hg]]; exact h.mono (fun x hx => .inl hx), hw⟩)
      | (have hh : offS s = true := ho
         have hh2 : b.length = 128 := by omega
         exact ⟨_, rfl, by simp [writeE, h12, hh2, hg, ho], by rw [show writeS s d a b = spendS s from by simp [writeS, writeE, h12, hh2, hg, ho]]; exact h2.mono (fun x hx => .inl hx), hw⟩)
      | (have hh2 : b.length = 128 := by omega
         have e0 : writeE s d a b.length = 0 := by simp [writeE, h12, hh2, hg, ho]
         refine ⟨_, rfl, by rw [e0], ⟨aR2, hwok, m, ga, gc, ao9, c9, ws ++ [((d, a), ⟨some ⟨gq, 0, none⟩, cq, b⟩)], ls, Eq.mp (congrArg (Blk _ R 100) ?_) hB, ?_, ?_, ?_⟩, hw⟩
         ·
           simp [writeS, e0]
         ·
           simp only [writeS, e0, if_true]
           exact hI9.mono (fun x hx => hx.1)
         ·
           simp only [writeS, e0, if_true]
           exact hls
         ·
           simp only [writeS, e0, if_true]
           rw [spendS_waits] at hws
           rw [hws]
           simp [xsm])
end Go.Proofs.YtcdbkfaebgficaaDoor
namespace Go.Proofs.YtcdbkfaebgficaaDoor
open Go.RowKit Go.HL
set_option maxRecDepth 100000

/-! writes that come to last, those that kp tells -/
def puts {V : Type} (kp : Nat → Bool) (ws l : List (Pl × V)) : Nat → List (Pl × V)
  | 0 => l
  | i + 1 => match ws[i]? with
    | some x => if kp i = true then mput (puts kp ws l i) x.1 x.2 else puts kp ws l i
    | none => puts kp ws l i
/-- all that waits comes to last -/
def flushS (s : RA) : RA := if offS s = true then spendS s else { spendS s with last := puts (fun _ => true) s.waits s.last s.waits.length, waits := [] }
end Go.Proofs.YtcdbkfaebgficaaDoor
namespace Go.Proofs.YtcdbkfaebgficaaDoor
open Go.RowKit Go.HL
set_option maxRecDepth 100000

/-! the power goes off later -/
/-! the power goes off and comes back -/
/-! a new rack -/
def newS (dn sn : Nat) : RA := ⟨dn, sn, [], List.replicate dn false, [], false, false, 0⟩
theorem newS_ok {dn sn : Nat} (hd : 1 ≤ dn ∧ dn ≤ 16) (hs : 1 ≤ sn ∧ sn ≤ 2000) : (newS dn sn).ok :=
  ⟨hd, hs, by simp [newS], fun p hp => by simp [newS] at hp, fun p hp => by simp [newS] at hp, ⟨fun h => by simp [newS] at h, by simp [newS], by simp [newS]⟩, by simp [newS]⟩
theorem New_calls (w : World) {dn sn : Nat} (hd : 1 ≤ dn ∧ dn ≤ 16) (hs : 1 ≤ sn ∧ sn ≤ 2000) :
    Calls Tryd.prog 23 [vi dn, vi sn].toArray w (Ret fun v w' => (∃ R, v = .tuple #[ptr R, vi 0] ∧ RK (w.heap.size ≤ ·) w' R (newS dn sn)) ∧ Chg Nob w w') := by
  have hw := Chg.refl Nob w
  refine Calls.of_WC Tryd.func23 rfl Tryd.ntmps23 (by simp) ?_
  refine WC.seq (WC.region (WL.assign rfl rfl (WL.assign rfl rfl (WL.nil (WX.then_normal (WC.seq (WC.seq (?_))))))))
  refine WC.region (WL.move rfl rfl (?_))
  refine WL.lss? rfl rfl rfl (fun h7 => ?_) (fun h7 => ?_)
  ·
    refine WL.move rfl rfl (WL.pass rfl rfl rfl rfl (WL.pass rfl rfl rfl rfl (WL.pickT rfl rfl rfl (WL.move rfl rfl (WL.pass rfl rfl rfl rfl (WL.pass rfl rfl rfl rfl (WL.pickT rfl rfl rfl (?_))))))))
    refine WL.move rfl rfl (WL.pass rfl rfl rfl rfl (WL.pass rfl rfl rfl rfl (WL.pickT rfl rfl rfl (WL.nil (WX.then_normal (WC.cond_true rfl (WC.seq (?_))))))))
    refine WC.region (WL.assign rfl rfl (WL.assign rfl rfl (WL.nil (WX.then_normal (WC.ret (WX.then_ret (?_)))))))
    refine WX.ret2 (.inl rfl) Tryd.results23 rfl rfl ?_
    first
      | (exfalso; omega)
      | (refine ⟨_, rfl, ⟨_, rfl, ⟨by omega, newS_ok hd hs, m, _, _, none, 0, [], [], hb_1, ⟨by omega, hM, hm.mono (fun x hx => by omega), Row.nil _ _ _ _, fun p hp => by simp at hp, fun p hp => by simp at hp⟩, rfl, rfl⟩⟩, hw⟩)
  ·
    refine WL.move rfl rfl (WL.want rfl rfl rfl (WL.move rfl rfl (WL.want rfl rfl rfl (?_))))
    refine WL.gtr? rfl rfl rfl (fun h10 => ?_) (fun h10 => ?_)
    ·
      refine WL.pickF rfl rfl rfl (WL.move rfl rfl (WL.pass rfl rfl rfl rfl (WL.pass rfl rfl rfl rfl (WL.pickT rfl rfl rfl (WL.move rfl rfl (WL.pass rfl rfl rfl rfl (WL.pass rfl rfl rfl rfl (?_))))))))
      refine WL.pickT rfl rfl rfl (WL.nil (WX.then_normal (WC.cond_true rfl (WC.seq (WC.region (WL.assign rfl rfl (WL.assign rfl rfl (?_))))))))
      refine WL.nil (WX.then_normal (WC.ret (WX.then_ret (?_))))
      refine WX.ret2 (.inl rfl) Tryd.results23 rfl rfl ?_
      first
        | (exfalso; omega)
        | (refine ⟨_, rfl, ⟨_, rfl, ⟨by omega, newS_ok hd hs, m, _, _, none, 0, [], [], hb_1, ⟨by omega, hM, hm.mono (fun x hx => by omega), Row.nil _ _ _ _, fun p hp => by simp at hp, fun p hp => by simp at hp⟩, rfl, rfl⟩⟩, hw⟩)
    ·
      refine WL.pickF rfl rfl rfl (WL.move rfl rfl (WL.want rfl rfl rfl (WL.move rfl rfl (WL.want rfl rfl rfl (?_)))))
      refine WL.lss? rfl rfl rfl (fun h14 => ?_) (fun h14 => ?_)
      ·
        refine WL.pickF rfl rfl rfl (WL.move rfl rfl (WL.pass rfl rfl rfl rfl (WL.pass rfl rfl rfl rfl (WL.pickT rfl rfl rfl (WL.nil (WX.then_normal (WC.cond_true rfl (?_))))))))
        refine WC.seq (WC.region (WL.assign rfl rfl (WL.assign rfl rfl (WL.nil (WX.then_normal (WC.ret (WX.then_ret (?_))))))))
        refine WX.ret2 (.inl rfl) Tryd.results23 rfl rfl ?_
        first
          | (exfalso; omega)
          | (refine ⟨_, rfl, ⟨_, rfl, ⟨by omega, newS_ok hd hs, m, _, _, none, 0, [], [], hb_1, ⟨by omega, hM, hm.mono (fun x hx => by omega), Row.nil _ _ _ _, fun p hp => by simp at hp, fun p hp => by simp at hp⟩, rfl, rfl⟩⟩, hw⟩)
      ·
        refine WL.pickF rfl rfl rfl (WL.move rfl rfl (WL.want rfl rfl rfl (WL.move rfl rfl (WL.want rfl rfl rfl (?_)))))
        refine WL.gtr? rfl rfl rfl (fun h18 => ?_) (fun h18 => ?_)
        ·
          refine WL.pickF rfl rfl rfl (WL.nil (WX.then_normal (WC.cond_true rfl (WC.seq (WC.region (WL.assign rfl rfl (WL.assign rfl rfl (?_))))))))
          refine WL.nil (WX.then_normal (WC.ret (WX.then_ret (?_))))
          refine WX.ret2 (.inl rfl) Tryd.results23 rfl rfl ?_
          first
            | (exfalso; omega)
            | (refine ⟨_, rfl, ⟨_, rfl, ⟨by omega, newS_ok hd hs, m, _, _, none, 0, [], [], hb_1, ⟨by omega, hM, hm.mono (fun x hx => by omega), Row.nil _ _ _ _, fun p hp => by simp at hp, fun p hp => by simp at hp⟩, rfl, rfl⟩⟩, hw⟩)
        ·
          refine WL.pickF rfl rfl rfl (WL.nil (WX.then_normal (WC.cond_false rfl (WC.skip (WX.then_normal (WC.seq (WC.region (?_))))))))
          refine WL.move rfl rfl (WL.move rfl rfl (?_))
          refine WL.makeMap (kv := kpl) (vv := vsl) rfl ?_
          intro m w1 em lm hM k1
          have zs_k1 := k1.size
          replace hw := hw.pure k1
          refine WL.move rfl rfl (?_)
          refine WL.make (e := ebool) false dn dn Tryd.underlying81 info_4 rfl rfl rfl ⟨rfl, rfl, Nat.le_refl _⟩ (by constructor <;> omega) rfl ?_
          intro g3 w3 hm k3 z3 eg3
          have zs_k3 := k3.size
          replace hw := hw.pure k3
          replace hM := hM.pure k3
          refine WL.bld rfl (bld_100_0_1_2_3 _ _ _ _ _ _) rfl (?_)
          refine WL.box rfl rfl ?_
          intro g_1 w_1 hge_1 hlt_1 hb_1 k_1
          have zs_k_1 := k_1.size
          replace hw := hw.pure k_1
          replace hM := hM.pure k_1
          replace hm := hm.pure k_1
          refine WL.assign rfl rfl (WL.assign rfl rfl (WL.nil (WX.then_normal (WC.ret (?_)))))
          refine WX.ret2 (.inl rfl) Tryd.results23 rfl rfl ?_
          first
            | (exfalso; omega)
            | (refine ⟨_, rfl, ⟨_, rfl, ⟨by omega, newS_ok hd hs, m, _, _, none, 0, [], [], hb_1, ⟨by omega, hM, hm.mono (fun x hx => by omega), Row.nil _ _ _ _, fun p hp => by simp at hp, fun p hp => by simp at hp⟩, rfl, rfl⟩⟩, hw⟩)
end Go.Proofs.YtcdbkfaebgficaaDoor
namespace Go.Proofs.YtcdbkfaebgficaaDoor
open Go.RowKit Go.HL
set_option maxRecDepth 100000

/-! what the calls do to what is read -/
def zeros : List UInt8 := List.replicate 128 0
def lastS (s : RA) (p : Pl) : List UInt8 := (mget s.last p).getD zeros
theorem heldS_eq (s : RA) (p : Pl) : heldS s p = match newV s.waits p with | some b => b | none => lastS s p := rfl
theorem newV_snoc {V : Type} (ws : List (Pl × V)) (p q : Pl) (b : V) : newV (ws ++ [(p, b)]) q = if q = p then some b else newV ws q := by
  unfold newV
  rw [List.reverse_append]
  rfl
structure Up (s : RA) : Prop where
  off : s.off = false
  armed : s.armed = false
theorem Up.offS {s : RA} (h : Up s) : offS s = false := by simp [Go.Proofs.YtcdbkfaebgficaaDoor.offS, h.off, h.armed]
theorem Up.spend {s : RA} (h : Up s) : spendS s = s := by
  have h1 := h.offS
  have h2 := h.armed
  unfold spendS
  rw [h1]
  obtain ⟨dn, sn, last, gone, waits, off, armed, left⟩ := s
  simp only at h2
  subst h2
  rfl
/-- one more that waits -/
def addS (s : RA) (p : Pl) (b : List UInt8) : RA := { s with waits := s.waits ++ [(p, b)] }
theorem Up.write {s : RA} (h : Up s) {d a : Int} {b : List UInt8} (hi : inS s d a) (hg : goneS s d = false) (hb : b.length = 128) : writeE s d a b.length = 0 ∧ writeS s d a b = addS s (d, a) b := by
  have h0 : writeE s d a b.length = 0 := writeE_0.2 ⟨hi, hb, hg, h.offS⟩
  refine ⟨h0, ?_⟩
  rw [writeS, if_pos h0, h.spend]
  rfl
theorem addS_held (s : RA) (p q : Pl) (b : List UInt8) : heldS (addS s p b) q = if q = p then b else heldS s q := by
  rw [heldS_eq, heldS_eq, show (addS s p b).waits = s.waits ++ [(p, b)] from rfl, newV_snoc]
  by_cases h : q = p <;> simp [h]
  rfl
theorem addS_up {s : RA} (h : Up s) (p : Pl) (b : List UInt8) : Up (addS s p b) := ⟨h.off, h.armed⟩
/-- all lasts -/
def allS (s : RA) : RA := { s with last := puts (fun _ => true) s.waits s.last s.waits.length, waits := [] }
theorem Up.flush {s : RA} (h : Up s) : flushS s = allS s := by
  unfold flushS
  rw [h.offS, h.spend]
  rfl
theorem newS_up (d n : Nat) : Up (newS d n) := ⟨rfl, rfl⟩
theorem newS_gone (d n : Nat) (x : Int) : goneS (newS d n) x = false := by
  rw [goneS, show (newS d n).gone = List.replicate d false from rfl, List.getD_eq_getElem?_getD, List.getElem?_replicate]
  split <;> rfl
theorem newS_held (d n : Nat) (q : Pl) : heldS (newS d n) q = zeros := rfl
theorem new_all (dn sn : Nat) (hd : 1 ≤ dn ∧ dn ≤ 16) (hs : 1 ≤ sn ∧ sn ≤ 2000) : ∃ s : RA, s.dn = dn ∧ s.sn = sn ∧ Up s ∧ (∀ d, goneS s d = false) ∧ (∀ q, heldS s q = zeros) ∧ (∀ q, lastS s q = zeros) ∧ s.waits = [] ∧ ∀ w, Calls Tryd.prog 23 [vi dn, vi sn].toArray w (Ret fun v w' => (∃ R, v = .tuple #[ptr R, vi 0] ∧ RK (w.heap.size ≤ ·) w' R s) ∧ Chg Nob w w') :=
  ⟨newS dn sn, rfl, rfl, newS_up dn sn, newS_gone dn sn, newS_held dn sn, fun _ => rfl, rfl, fun w => New_calls w hd hs⟩
end Go.Proofs.YtcdbkfaebgficaaDoor
namespace Go.Proofs.YtcdbkfaebgficaaDoor
open Go.RowKit Go.HL
set_option maxRecDepth 100000

/-! calls of a rack that has power -/
theorem RK.grow {A : Nat → Prop} {w w' : World} {R : Nat} {s : RA} (h : RK (fun x => A x ∨ w.heap.size ≤ x) w' R s) (hA : ∀ x, w.heap.size ≤ x → A x) : RK A w' R s := h.mono (fun x hx => hx.elim (fun h => h) (hA x))
end Go.Proofs.YtcdbkfaebgficaaDoor
namespace Go.Proofs.YtcdbkfaebgficaaDoor
open Go.RowKit Go.HL
set_option maxRecDepth 100000

/-! a label's Write -/
/-- behind the first k drives -/
def lwR (s0 : RA) (at_ : Int) (B : List UInt8) : Nat → RA × Nat × Int
  | 0 => (s0, 0, 0)
  | k + 1 =>
    if (lwR s0 at_ B k).2.2 ≠ 0 then lwR s0 at_ B k
    else if writeE (lwR s0 at_ B k).1 k at_ B.length = 0 then (writeS (lwR s0 at_ B k).1 k at_ B, (lwR s0 at_ B k).2.1 + 1, 0)
    else if writeE (lwR s0 at_ B k).1 k at_ B.length = 3 then (writeS (lwR s0 at_ B k).1 k at_ B, (lwR s0 at_ B k).2.1, 0)
    else (writeS (lwR s0 at_ B k).1 k at_ B, 0, writeE (lwR s0 at_ B k).1 k at_ B.length)
theorem lwR_stuck {s0 : RA} {at_ : Int} {B : List UInt8} {k : Nat} (h : (lwR s0 at_ B k).2.2 ≠ 0) (m : Nat) : lwR s0 at_ B (k + m) = lwR s0 at_ B k := by
  induction m with
  | zero => rfl
  | succ m ih => rw [← Nat.add_assoc, lwR, if_pos (by rw [ih]; exact h), ih]
theorem writeS_dn (s : RA) (d a : Int) (b : List UInt8) : (writeS s d a b).dn = s.dn ∧ (writeS s d a b).sn = s.sn ∧ (writeS s d a b).gone = s.gone ∧ (writeS s d a b).waits.length ≤ s.waits.length + 1 := by
  unfold writeS
  split
  · exact ⟨spendS_dn s, spendS_sn s, spendS_gone s, by simp⟩
  · split
    · exact ⟨spendS_dn s, spendS_sn s, spendS_gone s, by rw [spendS_waits]; omega⟩
    · exact ⟨rfl, rfl, rfl, by omega⟩
theorem lwR_dn (s0 : RA) (at_ : Int) (B : List UInt8) (k : Nat) : (lwR s0 at_ B k).1.dn = s0.dn ∧ (lwR s0 at_ B k).1.sn = s0.sn ∧ (lwR s0 at_ B k).1.gone = s0.gone ∧ (lwR s0 at_ B k).1.waits.length ≤ s0.waits.length + k ∧ (lwR s0 at_ B k).2.1 ≤ k := by
  induction k with
  | zero => exact ⟨rfl, rfl, rfl, Nat.le_refl _, Nat.le_refl _⟩
  | succ k ih =>
    obtain ⟨i1, i2, i3, i4, i5⟩ := ih
    obtain ⟨w1, w2, w3, w4⟩ := writeS_dn (lwR s0 at_ B k).1 k at_ B
    rw [lwR]
    split
    · exact ⟨i1, i2, i3, by omega, by omega⟩
    · split
      · exact ⟨by rw [w1, i1], by rw [w2, i2], by rw [w3, i3], by dsimp only; omega, by dsimp only; omega⟩
      · split
        · exact ⟨by rw [w1, i1], by rw [w2, i2], by rw [w3, i3], by dsimp only; omega, by dsimp only; omega⟩
        · exact ⟨by rw [w1, i1], by rw [w2, i2], by rw [w3, i3], by dsimp only; omega, by dsimp only; omega⟩
/-- what a label's Write makes of a rack, and what it answers -/
def lwS (s : RA) (u : UbV) : RA := if 8 < s.sn ∧ encE u = 0 then (lwR s (u.t % 8) (encB u) s.dn).1 else s
def lwN (s : RA) (u : UbV) : Int := if 8 < s.sn ∧ encE u = 0 then (if (lwR s (u.t % 8) (encB u) s.dn).2.2 = 0 then ((lwR s (u.t % 8) (encB u) s.dn).2.1 : Int) else 0) else 0
def lwE (s : RA) (u : UbV) : Int := if ¬ 8 < s.sn then 1 else if encE u ≠ 0 then encE u else if (lwR s (u.t % 8) (encB u) s.dn).2.2 ≠ 0 then (lwR s (u.t % 8) (encB u) s.dn).2.2 else if (lwR s (u.t % 8) (encB u) s.dn).2.1 = 0 then 4 else 0
theorem right_calls {A : Nat → Prop} {w : World} {R : Nat} {s : RA} (h : RK A w R s) : Calls Tryd.prog 58 [ptr R].toArray w (Ret fun v w' => v = .bool (decide (8 < s.sn)) ∧ Chg Nob w w') := by
  have hw := Chg.refl Nob w
  refine Calls.of_WC Tryd.func58 rfl Tryd.ntmps58 (by simp) ?_
  refine WC.seq (WC.region (WL.assign rfl rfl (WL.nil (WX.then_normal (WC.seq (WC.region (WL.move rfl rfl (?_))))))))
  refine WL.call eg_73 rfl rfl (Sectors_calls h) ?_
  rintro v w1 ⟨rfl, k1⟩
  have zs_k1 := k1.size
  replace h := h.pure k1
  replace hw := hw.pure k1
  refine WL.gtr rfl rfl rfl (WL.assign rfl rfl (WL.nil (WX.then_normal (WC.ret (?_)))))
  refine WX.ret1 (.inl rfl) Tryd.results58 rfl ?_
  refine ⟨_, rfl, ?_, hw⟩
  congr 1
  exact decide_eq_decide.2 (by omega)
theorem encE_t {u : UbV} (h : encE u = 0) : rightP u.p ∧ 1 ≤ u.t ∧ secE (uit u) = 0 ∧ (encB u).length = 128 := by
  unfold encE at h
  split at h
  · rename_i hc
    refine ⟨hc.1, hc.2, h, ?_⟩
    rw [encB, if_pos hc, secB_128 h]
  · cases h
theorem lw_right {s : RA} {u : UbV} (h : ¬ 8 < s.sn) : lwS s u = s ∧ lwN s u = 0 ∧ lwE s u = 1 := by
  rw [lwS, lwN, lwE, if_neg (fun x => h x.1), if_neg (fun x => h x.1), if_pos h]
  exact ⟨rfl, rfl, rfl⟩
theorem lw_enc {s : RA} {u : UbV} (h : 8 < s.sn) (hE : encE u ≠ 0) : lwS s u = s ∧ lwN s u = 0 ∧ lwE s u = encE u := by
  rw [lwS, lwN, lwE, if_neg (fun x => hE x.2), if_neg (fun x => hE x.2), if_neg (fun x => x h), if_pos hE]
  exact ⟨rfl, rfl, rfl⟩
theorem lw_stop {s : RA} {u : UbV} {at_ : Int} {B : List UInt8} {k : Nat} (h : 8 < s.sn) (hE : encE u = 0) (ea : at_ = u.t % 8) (eB : B = encB u) (hk : k < s.dn) (h0 : (lwR s at_ B k).2.2 = 0)
    (h1 : writeE (lwR s at_ B k).1 k at_ B.length ≠ 0) (h2 : writeE (lwR s at_ B k).1 k at_ B.length ≠ 3) : lwS s u = writeS (lwR s at_ B k).1 k at_ B ∧ lwN s u = 0 ∧ lwE s u = writeE (lwR s at_ B k).1 k at_ B.length := by
  have e1 : lwR s at_ B (k + 1) = (writeS (lwR s at_ B k).1 k at_ B, 0, writeE (lwR s at_ B k).1 k at_ B.length) := by
    rw [lwR, if_neg (fun h9 => h9 h0), if_neg h1, if_neg h2]
  have e2 : lwR s at_ B s.dn = lwR s at_ B (k + 1) := by
    have := lwR_stuck (s0 := s) (at_ := at_) (B := B) (k := k + 1) (by rw [e1]; exact h1) (s.dn - (k + 1))
    rw [show k + 1 + (s.dn - (k + 1)) = s.dn from by omega] at this
    exact this
  unfold lwS lwN lwE
  rw [← ea, ← eB, e2, e1]
  simp [h, hE, h1]
theorem lw_end {s : RA} {u : UbV} {at_ : Int} {B : List UInt8} (h : 8 < s.sn) (hE : encE u = 0) (ea : at_ = u.t % 8) (eB : B = encB u) (h0 : (lwR s at_ B s.dn).2.2 = 0) :
    lwS s u = (lwR s at_ B s.dn).1 ∧ lwN s u = ((lwR s at_ B s.dn).2.1 : Int) ∧ lwE s u = if (lwR s at_ B s.dn).2.1 = 0 then 4 else 0 := by
  unfold lwS lwN lwE
  rw [← ea, ← eB]
  simp [h, hE, h0]
set_option maxHeartbeats 2000000 in
theorem lWrite_in {A : Nat → Prop} {w : World} {R : Nat} {s : RA} (h : RK A w R s) (hA : ∀ x, A x → x < w.heap.size) (u : UbV) (hu : WfU u) (hn : s.waits.length ≤ 90000) :
    Calls Tryd.prog 24 [ptr R, .agg (eub.f u).toArray].toArray w (Ret fun v w' => v = .tuple #[vi (lwN s u), vi (lwE s u)] ∧ RK (fun x => A x ∨ w.heap.size ≤ x) w' R (lwS s u) ∧ Chg A w w') := by
  have hw := Chg.refl A w
  have hdn := h.ok.dn
  have lR := hA R h.aR
  obtain ⟨B, eB⟩ : ∃ B, B = encB u := ⟨_, rfl⟩
  refine Calls.of_WC Tryd.func24 rfl Tryd.ntmps24 (by simp) ?_
  refine WC.seq (WC.region (?_))
  refine WL.box rfl rfl ?_
  intro g_1 w_1 hge_1 hlt_1 hb_1 k_1
  have zs_k_1 := k_1.size
  replace h := h.pure k_1
  replace hw := hw.pure k_1
  refine WL.assign rfl rfl (WL.assign rfl rfl (WL.nil (WX.then_normal (WC.seq (WC.seq (WC.region (WL.move rfl rfl (?_))))))))
  refine WL.call eg_58 rfl rfl (right_calls h) ?_
  rintro v w1 ⟨rfl, k1⟩
  have zs_k1 := k1.size
  replace h := h.pure k1
  replace hw := hw.pure k1
  replace hb_1 := hb_1.pure k1
  by_cases h12 : 8 < s.sn
  ·
    rw [decide_eq_true h12]
    refine WL.not rfl rfl (WL.nil (WX.then_normal (WC.cond_false rfl (WC.skip (WX.then_normal (WC.seq (WC.region (?_))))))))
    have hb1 : Blk _ g_1 48 (eub.f u) := hb_1
    refine WL.loads (eub.f u) Tryd.isAgg48 Tryd.sizeOf48 rfl (fun j v hj => by rw [Nat.zero_add]; exact hb1.cell hj) rfl rfl ?_
    refine WL.call eg_30 rfl rfl (encU_calls u _ hu) ?_
    rintro v w2 ⟨⟨ao, c, rfl, hq⟩, k2⟩
    rw [← eB] at hq ⊢
    have zs_k2 := k2.size
    replace h := h.pure k2
    replace hw := hw.pure k2
    replace hb1 := hb1.pure k2
    replace hq := hq.lt
    refine WL.move rfl rfl (WL.extract rfl rfl rfl (WL.extract rfl rfl rfl (WL.assign rfl rfl (WL.assign rfl rfl (WL.nil (WX.then_normal (WC.seq (?_))))))))
    refine WC.seq (WC.region (WL.move rfl rfl (?_)))
    refine WL.neq? rfl rfl rfl (fun h20 => ?_) (fun h20 => ?_)
    ·
      refine WL.nil (WX.then_normal (WC.cond_true rfl (WC.seq (WC.region (WL.move rfl rfl (WL.assign rfl rfl (WL.assign rfl rfl (?_))))))))
      refine WL.nil (WX.then_normal (WC.ret (WX.then_ret (?_))))
      refine WX.ret2 (.inl rfl) Tryd.results24 rfl rfl ?_
      first
        | (have hz : ¬ 8 < s.sn := h12
           obtain ⟨e1, e2, e3⟩ := lw_right (u := u) hz
           rw [e1, e2, e3]
           exact ⟨_, rfl, rfl, h.mono (fun x hx => .inl hx), hw⟩)
        | (have hz : encE u ≠ 0 := h20
           obtain ⟨e1, e2, e3⟩ := lw_enc h12 hz
           rw [e1, e2, e3]
           exact ⟨_, rfl, rfl, h.mono (fun x hx => .inl hx), hw⟩)
        | (have hz : writeE (lwR s at_ B k).1 k at_ B.length ≠ 0 := h37
           have hz2 : writeE (lwR s at_ B k).1 k at_ B.length ≠ 3 := h41
           obtain ⟨e1, e2, e3⟩ := lw_stop h12 h20 eat eB (k := k) (by omega) hk0 hz hz2
           rw [e1, e2, e3]
           exact ⟨_, rfl, rfl, h5.mono (fun x hx => by rcases hx with h6 | h6; exact .inl h6; right; omega), hw5⟩)
        | (obtain rfl : k = s.dn := by omega
           obtain ⟨e1, e2, e3⟩ := lw_end h12 h20 eat eB hk0
           have hmo := h.mono (A' := fun x => A x ∨ w.heap.size ≤ x) (fun x hx => by rcases hx with h6 | h6; exact .inl h6; right; omega)
           by_cases hc : (lwR s at_ B s.dn).2.1 = 0
           ·
             rw [e1, e2, e3, if_pos hc, hc]
             first
               | exact ⟨_, rfl, rfl, hmo, hw⟩
               | (exfalso; omega)
           ·
             rw [e1, e2, e3, if_neg hc]
             first
               | exact ⟨_, rfl, rfl, hmo, hw⟩
               | (exfalso; omega))
    ·
      refine WL.nil (WX.then_normal (WC.cond_false rfl (WC.skip (WX.then_normal (WC.seq (WC.region (WL.assign rfl rfl (?_))))))))
      refine WL.nil (WX.then_normal (WC.seq (WC.seq (WC.region (WL.move rfl rfl (?_))))))
      refine WL.call eg_59 rfl rfl (Drives_calls h) ?_
      rintro v w4 ⟨rfl, k4⟩
      have zs_k4 := k4.size
      replace h := h.pure k4
      replace hw := hw.pure k4
      replace hb1 := hb1.pure k4
      replace hq := hq.pure k4
      refine WL.move rfl rfl (WL.nil (WX.then_normal (WC.block (?_))))
      obtain ⟨t1, t2, t3, t4⟩ := encE_t h20
      rw [← eB] at t4
      obtain ⟨n0, en0⟩ : ∃ n0, n0 = w2.heap.size := ⟨_, rfl⟩
      obtain ⟨at_, eat⟩ : ∃ a : Int, a = u.t % 8 := ⟨_, rfl⟩
      have hat : 0 ≤ at_ ∧ at_ < 8 := by omega
      refine WC.loop (σ := Nat) (fun k => [(0, ptr R), (3, ptr g_1), (6, .slice ao B.length c), (8, vi ((lwR s at_ B k).2.1 : Int)), (23, vi (s.dn : Int)), (24, vi (k : Int))])
        (fun k w' => k ≤ s.dn ∧ (lwR s at_ B k).2.2 = 0 ∧ n0 ≤ w'.heap.size ∧ Blk w' g_1 48 (eub.f u) ∧ Row (fun x => w.heap.size ≤ x ∧ x < n0) w' 5 eb ao c B ∧ RK (fun x => A x ∨ n0 ≤ x) w' R (lwR s at_ B k).1 ∧ Chg A w w') (fun k => s.dn - k) 0 ⟨rfl, rfl, rfl, rfl, rfl, rfl, trivial⟩
        ⟨Nat.zero_le _, rfl, by omega, hb1, hq.mono (fun x hx => by omega), h.mono (fun x hx => .inl hx), hw⟩ ?_
      clear hb1 hq h hw
      rintro k w3 ⟨hk, hk0, hn3, hb1, hq, h, hw⟩
      obtain ⟨d1, d2, d3, d4, d5⟩ := lwR_dn s at_ B k
      refine WC.seq (WC.region (?_))
      refine WL.lss? rfl rfl rfl (fun h25 => ?_) (fun h25 => ?_)
      ·
        refine WL.nil (WX.then_normal (WC.seq (WC.cond_true rfl (WC.skip (WX.then_normal (WC.seq (WC.block (?_))))))))
        refine WC.seq (WC.region (WL.move rfl rfl (WL.assign rfl rfl (WL.nil (WX.then_normal (WC.seq (WC.region (?_))))))))
        refine WL.move rfl rfl (WL.move rfl rfl (WL.fieldAddr (fld_48_0) rfl rfl (WL.loadB Tryd.isAgg3 hb1 rfl rfl rfl (WL.rem64i rfl rfl (by constructor <;> omega) rfl (WL.move rfl rfl (?_))))))
        have hn9 : (lwR s at_ B k).1.waits.length ≤ 100000 := by omega
        have hR0 := hA R
        have aR0 : R < w.heap.size := lR
        have hq2 : RSl (fun x => w.heap.size ≤ x ∧ x < n0) w3 eb ao c B := hq.rsl
        rw [← eat]
        refine WL.call eg_60 rfl rfl (Write_calls h k at_ hq2 (fun x h1 h2 => absurd (h2 ▸ h1.1) (Nat.not_le.2 aR0)) hn9) ?_
        rintro v w5 ⟨rfl, h5, k5⟩
        have z5 := k5.size
        replace h5 : RK (fun x => A x ∨ n0 ≤ x) w5 R (writeS (lwR s at_ B k).1 k at_ B) := h5.mono (fun x hx => by rcases hx with h6 | h6; exact h6; right; omega)
        have hq5 := hq.chg k5 (fun b h1 h2 h3 => by rcases h3 with h4 | h4; have := hA b h4; omega; omega)
        have hb5 := hb1.chg k5 (fun h3 => by rcases h3 with h4 | h4; have := hA _ h4; omega; omega)
        have hw5 : Chg A w w5 := hw.trans k5 (fun x h1 h2 => by rcases h2 with h4 | h4; exact h4; exfalso; omega)
        refine WL.assign rfl rfl (WL.nil (WX.then_normal (WC.seq (WC.region (WL.move rfl rfl (WL.nil (WX.then_normal (?_))))))))
        refine WC.block (WC.seq (WC.region (?_)))
        refine WL.eql? rfl rfl rfl (fun h37 => ?_) (fun h37 => ?_)
        ·
          refine WL.assign rfl rfl (WL.nil (WX.then_normal (WC.cond_true rfl (WC.region (WL.move rfl rfl (WL.add64 rfl rfl (by first | omega | (constructor <;> omega)) rfl (WL.assign rfl rfl (?_))))))))
          refine WL.nil (WX.block_normal (WX.block_normal (WX.then_normal (WC.region (WL.add64 rfl rfl (by first | omega | (constructor <;> omega)) rfl (WL.move rfl rfl (WL.nil (?_))))))))
          first
            | (have hz : writeE (lwR s at_ B k).1 k at_ B.length = 0 := h37
               have e1 : lwR s at_ B (k + 1) = (writeS (lwR s at_ B k).1 k at_ B, (lwR s at_ B k).2.1 + 1, 0) := by
                 rw [lwR, if_neg (fun h9 => h9 hk0), if_pos hz]
               have f1 : (lwR s at_ B (k + 1)).2.2 = 0 := by rw [e1]
               have f2 : RK (fun x => A x ∨ n0 ≤ x) w5 R (lwR s at_ B (k + 1)).1 := by rw [e1]; exact h5
               have f3 : ((lwR s at_ B (k + 1)).2.1 : Int) = ((lwR s at_ B k).2.1 : Int) + 1 := by rw [e1]; rfl
               refine WX.loop_next (k + 1) ⟨rfl, rfl, rfl, ?_, rfl, rfl, trivial⟩ ⟨by omega, f1, by omega, hb5, hq5, f2, hw5⟩ (by show _ - _ < _ - _; omega)
               rw [f3]
               rfl)
            | (have hz : writeE (lwR s at_ B k).1 k at_ B.length ≠ 0 := h37
               have hz2 : writeE (lwR s at_ B k).1 k at_ B.length = 3 := h41
               have e1 : lwR s at_ B (k + 1) = (writeS (lwR s at_ B k).1 k at_ B, (lwR s at_ B k).2.1, 0) := by
                 rw [lwR, if_neg (fun h9 => h9 hk0), if_neg hz, if_pos hz2]
               have f1 : (lwR s at_ B (k + 1)).2.2 = 0 := by rw [e1]
               have f2 : RK (fun x => A x ∨ n0 ≤ x) w5 R (lwR s at_ B (k + 1)).1 := by rw [e1]; exact h5
               have f3 : ((lwR s at_ B (k + 1)).2.1 : Int) = ((lwR s at_ B k).2.1 : Int) := by rw [e1]
               refine WX.loop_next (k + 1) ⟨rfl, rfl, rfl, ?_, rfl, rfl, trivial⟩ ⟨by omega, f1, by omega, hb5, hq5, f2, hw5⟩ (by show _ - _ < _ - _; omega)
               rw [f3]
               rfl)
        ·
          refine WL.assign rfl rfl (WL.nil (WX.then_normal (WC.cond_false rfl (WC.seq (WC.region (?_))))))
          refine WL.eql? rfl rfl rfl (fun h41 => ?_) (fun h41 => ?_)
          ·
            refine WL.assign rfl rfl (WL.nil (WX.then_normal (WC.cond_true rfl (WC.skip (WX.block_normal (WX.block_normal (WX.then_normal (?_))))))))
            refine WC.region (WL.add64 rfl rfl (by first | omega | (constructor <;> omega)) rfl (WL.move rfl rfl (WL.nil (?_))))
            first
              | (have hz : writeE (lwR s at_ B k).1 k at_ B.length = 0 := h37
                 have e1 : lwR s at_ B (k + 1) = (writeS (lwR s at_ B k).1 k at_ B, (lwR s at_ B k).2.1 + 1, 0) := by
                   rw [lwR, if_neg (fun h9 => h9 hk0), if_pos hz]
                 have f1 : (lwR s at_ B (k + 1)).2.2 = 0 := by rw [e1]
                 have f2 : RK (fun x => A x ∨ n0 ≤ x) w5 R (lwR s at_ B (k + 1)).1 := by rw [e1]; exact h5
                 have f3 : ((lwR s at_ B (k + 1)).2.1 : Int) = ((lwR s at_ B k).2.1 : Int) + 1 := by rw [e1]; rfl
                 refine WX.loop_next (k + 1) ⟨rfl, rfl, rfl, ?_, rfl, rfl, trivial⟩ ⟨by omega, f1, by omega, hb5, hq5, f2, hw5⟩ (by show _ - _ < _ - _; omega)
                 rw [f3]
                 rfl)
              | (have hz : writeE (lwR s at_ B k).1 k at_ B.length ≠ 0 := h37
                 have hz2 : writeE (lwR s at_ B k).1 k at_ B.length = 3 := h41
                 have e1 : lwR s at_ B (k + 1) = (writeS (lwR s at_ B k).1 k at_ B, (lwR s at_ B k).2.1, 0) := by
                   rw [lwR, if_neg (fun h9 => h9 hk0), if_neg hz, if_pos hz2]
                 have f1 : (lwR s at_ B (k + 1)).2.2 = 0 := by rw [e1]
                 have f2 : RK (fun x => A x ∨ n0 ≤ x) w5 R (lwR s at_ B (k + 1)).1 := by rw [e1]; exact h5
                 have f3 : ((lwR s at_ B (k + 1)).2.1 : Int) = ((lwR s at_ B k).2.1 : Int) := by rw [e1]
                 refine WX.loop_next (k + 1) ⟨rfl, rfl, rfl, ?_, rfl, rfl, trivial⟩ ⟨by omega, f1, by omega, hb5, hq5, f2, hw5⟩ (by show _ - _ < _ - _; omega)
                 rw [f3]
                 rfl)
          ·
            refine WL.assign rfl rfl (WL.nil (WX.then_normal (WC.cond_false rfl (WC.seq (WC.region (WL.move rfl rfl (WL.assign rfl rfl (?_))))))))
            refine WL.assign rfl rfl (WL.nil (WX.then_normal (WC.ret (WX.block_ret (WX.block_ret (WX.then_ret (WX.then_ret (?_))))))))
            refine WX.block_ret (WX.then_ret (?_))
            refine WX.ret2 (.inl rfl) Tryd.results24 rfl rfl ?_
            first
              | (have hz : ¬ 8 < s.sn := h12
                 obtain ⟨e1, e2, e3⟩ := lw_right (u := u) hz
                 rw [e1, e2, e3]
                 exact ⟨_, rfl, rfl, h.mono (fun x hx => .inl hx), hw⟩)
              | (have hz : encE u ≠ 0 := h20
                 obtain ⟨e1, e2, e3⟩ := lw_enc h12 hz
                 rw [e1, e2, e3]
                 exact ⟨_, rfl, rfl, h.mono (fun x hx => .inl hx), hw⟩)
              | (have hz : writeE (lwR s at_ B k).1 k at_ B.length ≠ 0 := h37
                 have hz2 : writeE (lwR s at_ B k).1 k at_ B.length ≠ 3 := h41
                 obtain ⟨e1, e2, e3⟩ := lw_stop h12 h20 eat eB (k := k) (by omega) hk0 hz hz2
                 rw [e1, e2, e3]
                 exact ⟨_, rfl, rfl, h5.mono (fun x hx => by rcases hx with h6 | h6; exact .inl h6; right; omega), hw5⟩)
              | (obtain rfl : k = s.dn := by omega
                 obtain ⟨e1, e2, e3⟩ := lw_end h12 h20 eat eB hk0
                 have hmo := h.mono (A' := fun x => A x ∨ w.heap.size ≤ x) (fun x hx => by rcases hx with h6 | h6; exact .inl h6; right; omega)
                 by_cases hc : (lwR s at_ B s.dn).2.1 = 0
                 ·
                   rw [e1, e2, e3, if_pos hc, hc]
                   first
                     | exact ⟨_, rfl, rfl, hmo, hw⟩
                     | (exfalso; omega)
                 ·
                   rw [e1, e2, e3, if_neg hc]
                   first
                     | exact ⟨_, rfl, rfl, hmo, hw⟩
                     | (exfalso; omega))
      ·
        refine WL.nil (WX.then_normal (WC.seq (WC.cond_false rfl (WC.exit (WX.then_exit (WX.then_exit (WX.block_here (?_))))))))
        refine WX.then_normal (WC.seq (WC.seq (WC.region (WL.move rfl rfl (?_)))))
        refine WL.eql? rfl rfl rfl (fun h44 => ?_) (fun h44 => ?_)
        ·
          refine WL.nil (WX.then_normal (WC.cond_true rfl (WC.seq (WC.region (WL.assign rfl rfl (WL.assign rfl rfl (WL.nil (?_))))))))
          refine WX.then_normal (WC.ret (WX.then_ret (?_)))
          refine WX.ret2 (.inl rfl) Tryd.results24 rfl rfl ?_
          first
            | (have hz : ¬ 8 < s.sn := h12
               obtain ⟨e1, e2, e3⟩ := lw_right (u := u) hz
               rw [e1, e2, e3]
               exact ⟨_, rfl, rfl, h.mono (fun x hx => .inl hx), hw⟩)
            | (have hz : encE u ≠ 0 := h20
               obtain ⟨e1, e2, e3⟩ := lw_enc h12 hz
               rw [e1, e2, e3]
               exact ⟨_, rfl, rfl, h.mono (fun x hx => .inl hx), hw⟩)
            | (have hz : writeE (lwR s at_ B k).1 k at_ B.length ≠ 0 := h37
               have hz2 : writeE (lwR s at_ B k).1 k at_ B.length ≠ 3 := h41
               obtain ⟨e1, e2, e3⟩ := lw_stop h12 h20 eat eB (k := k) (by omega) hk0 hz hz2
               rw [e1, e2, e3]
               exact ⟨_, rfl, rfl, h5.mono (fun x hx => by rcases hx with h6 | h6; exact .inl h6; right; omega), hw5⟩)
            | (obtain rfl : k = s.dn := by omega
               obtain ⟨e1, e2, e3⟩ := lw_end h12 h20 eat eB hk0
               have hmo := h.mono (A' := fun x => A x ∨ w.heap.size ≤ x) (fun x hx => by rcases hx with h6 | h6; exact .inl h6; right; omega)
               by_cases hc : (lwR s at_ B s.dn).2.1 = 0
               ·
                 rw [e1, e2, e3, if_pos hc, hc]
                 first
                   | exact ⟨_, rfl, rfl, hmo, hw⟩
                   | (exfalso; omega)
               ·
                 rw [e1, e2, e3, if_neg hc]
                 first
                   | exact ⟨_, rfl, rfl, hmo, hw⟩
                   | (exfalso; omega))
        ·
          refine WL.nil (WX.then_normal (WC.cond_false rfl (WC.skip (WX.then_normal (WC.seq (WC.region (WL.move rfl rfl (?_))))))))
          refine WL.assign rfl rfl (WL.assign rfl rfl (WL.nil (WX.then_normal (WC.ret (?_)))))
          refine WX.ret2 (.inl rfl) Tryd.results24 rfl rfl ?_
          first
            | (have hz : ¬ 8 < s.sn := h12
               obtain ⟨e1, e2, e3⟩ := lw_right (u := u) hz
               rw [e1, e2, e3]
               exact ⟨_, rfl, rfl, h.mono (fun x hx => .inl hx), hw⟩)
            | (have hz : encE u ≠ 0 := h20
               obtain ⟨e1, e2, e3⟩ := lw_enc h12 hz
               rw [e1, e2, e3]
               exact ⟨_, rfl, rfl, h.mono (fun x hx => .inl hx), hw⟩)
            | (have hz : writeE (lwR s at_ B k).1 k at_ B.length ≠ 0 := h37
               have hz2 : writeE (lwR s at_ B k).1 k at_ B.length ≠ 3 := h41
               obtain ⟨e1, e2, e3⟩ := lw_stop h12 h20 eat eB (k := k) (by omega) hk0 hz hz2
               rw [e1, e2, e3]
               exact ⟨_, rfl, rfl, h5.mono (fun x hx => by rcases hx with h6 | h6; exact .inl h6; right; omega), hw5⟩)
            | (obtain rfl : k = s.dn := by omega
               obtain ⟨e1, e2, e3⟩ := lw_end h12 h20 eat eB hk0
               have hmo := h.mono (A' := fun x => A x ∨ w.heap.size ≤ x) (fun x hx => by rcases hx with h6 | h6; exact .inl h6; right; omega)
               by_cases hc : (lwR s at_ B s.dn).2.1 = 0
               ·
                 rw [e1, e2, e3, if_pos hc, hc]
                 first
                   | exact ⟨_, rfl, rfl, hmo, hw⟩
                   | (exfalso; omega)
               ·
                 rw [e1, e2, e3, if_neg hc]
                 first
                   | exact ⟨_, rfl, rfl, hmo, hw⟩
                   | (exfalso; omega))
  ·
    rw [decide_eq_false h12]
    refine WL.not rfl rfl (WL.nil (WX.then_normal (WC.cond_true rfl (WC.seq (WC.region (WL.assign rfl rfl (WL.assign rfl rfl (?_))))))))
    refine WL.nil (WX.then_normal (WC.ret (WX.then_ret (?_))))
    refine WX.ret2 (.inl rfl) Tryd.results24 rfl rfl ?_
    first
      | (have hz : ¬ 8 < s.sn := h12
         obtain ⟨e1, e2, e3⟩ := lw_right (u := u) hz
         rw [e1, e2, e3]
         exact ⟨_, rfl, rfl, h.mono (fun x hx => .inl hx), hw⟩)
      | (have hz : encE u ≠ 0 := h20
         obtain ⟨e1, e2, e3⟩ := lw_enc h12 hz
         rw [e1, e2, e3]
         exact ⟨_, rfl, rfl, h.mono (fun x hx => .inl hx), hw⟩)
      | (have hz : writeE (lwR s at_ B k).1 k at_ B.length ≠ 0 := h37
         have hz2 : writeE (lwR s at_ B k).1 k at_ B.length ≠ 3 := h41
         obtain ⟨e1, e2, e3⟩ := lw_stop h12 h20 eat eB (k := k) (by omega) hk0 hz hz2
         rw [e1, e2, e3]
         exact ⟨_, rfl, rfl, h5.mono (fun x hx => by rcases hx with h6 | h6; exact .inl h6; right; omega), hw5⟩)
      | (obtain rfl : k = s.dn := by omega
         obtain ⟨e1, e2, e3⟩ := lw_end h12 h20 eat eB hk0
         have hmo := h.mono (A' := fun x => A x ∨ w.heap.size ≤ x) (fun x hx => by rcases hx with h6 | h6; exact .inl h6; right; omega)
         by_cases hc : (lwR s at_ B s.dn).2.1 = 0
         ·
           rw [e1, e2, e3, if_pos hc, hc]
           first
             | exact ⟨_, rfl, rfl, hmo, hw⟩
             | (exfalso; omega)
         ·
           rw [e1, e2, e3, if_neg hc]
           first
             | exact ⟨_, rfl, rfl, hmo, hw⟩
             | (exfalso; omega))
theorem lWrite_calls {A : Nat → Prop} {w : World} {R : Nat} {s : RA} (h : RK A w R s) (u : UbV) (hu : WfU u) (hn : s.waits.length ≤ 90000) :
    Calls Tryd.prog 24 [ptr R, .agg (eub.f u).toArray].toArray w (Ret fun v w' => v = .tuple #[vi (lwN s u), vi (lwE s u)] ∧ RK (fun x => A x ∨ w.heap.size ≤ x) w' R (lwS s u) ∧ Chg A w w') := by
  refine (lWrite_in h.old (fun x hx => hx.2) u hu hn).mono ?_
  rintro e w' ⟨v, rfl, rfl, hR, k⟩
  exact ⟨_, rfl, rfl, hR.mono (fun x hx => hx.elim (fun h => .inl h.1) .inr), k.mono (fun x _ hx => hx.1)⟩
end Go.Proofs.YtcdbkfaebgficaaDoor
