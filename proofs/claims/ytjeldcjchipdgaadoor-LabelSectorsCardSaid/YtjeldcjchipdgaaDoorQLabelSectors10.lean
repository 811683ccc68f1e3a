import Derived.Test.YtjeldcjchipdgaaDoorQLabelSectors9
namespace Go.Proofs.YtjeldcjchipdgaaDoor
open Go.RowKit Go.HL
set_option maxRecDepth 100000

theorem RK.old {A : Nat → Prop} {w : World} {R : Nat} {s : RA} (h : RK A w R s) : RK (fun b => A b ∧ b < w.heap.size) w R s := by
  obtain ⟨m, ga, gc, wa, wc, ws, ls, hB, hI, hl⟩ := h.ex
  exact ⟨⟨h.aR, hB.lt⟩, h.ok, m, ga, gc, wa, wc, ws, ls, hB, ⟨⟨hI.sm, hI.map.lt⟩, hI.map, hI.gone.lt, hI.waits.lt, fun p hp => (hI.byl p hp).lt, fun p hp => (hI.byw p hp).lt⟩, hl⟩
def inS (s : RA) (d a : Int) : Prop := 0 ≤ d ∧ d < s.dn ∧ 0 ≤ a ∧ a < s.sn
instance (s : RA) (d a : Int) : Decidable (inS s d a) := inferInstanceAs (Decidable (0 ≤ d ∧ d < s.dn ∧ 0 ≤ a ∧ a < s.sn))
def isS (s : RA) (d : Int) : Prop := 0 ≤ d ∧ d < s.dn
instance (s : RA) (d : Int) : Decidable (isS s d) := inferInstanceAs (Decidable (0 ≤ d ∧ d < s.dn))
def goneS (s : RA) (d : Int) : Bool := s.gone.getD d.toNat false
theorem goneS_at {s : RA} (h : s.ok) {d : Int} (hd : isS s d) : s.gone[d.toNat]? = some (goneS s d) := by
  have : d.toNat < s.gone.length := by rw [h.gl]; have h1 := hd.1; have h2 := hd.2; omega
  rw [goneS, List.getD_eq_getElem?_getD, List.getElem?_eq_getElem this]
  rfl
theorem Drives_calls {A : Nat → Prop} {w : World} {R : Nat} {s : RA} (h : RK A w R s) : Calls Tryd.prog 43 [ptr R].toArray w (Ret fun v w' => v = vi s.dn ∧ Chg Nob w w') := by
  obtain ⟨m, ga, gc, wa, wc, ws, ls, hB, -⟩ := h.ex
  have hw := Chg.refl Nob w
  refine Calls.of_WC Tryd.func43 rfl Tryd.ntmps43 (by simp) ?_
  refine WC.seq (WC.region (WL.assign rfl rfl (WL.nil (WX.then_normal (WC.seq (WC.seq (WC.region (?_))))))))
  refine WL.move rfl rfl (?_)
  refine WL.ptrNil Tryd.underlying41 rfl rfl rfl ?_
  refine WL.nil (WX.then_normal (WC.cond_false rfl (WC.skip (WX.then_normal (WC.seq (WC.region (WL.move rfl rfl (?_))))))))
  refine WL.nilCheck rfl rfl (WL.fieldAddr (fld_86_0) rfl rfl (WL.loadB Tryd.isAgg3 hB rfl rfl rfl (WL.assign rfl rfl (WL.nil (WX.then_normal (WC.ret (?_)))))))
  refine WX.ret1 (.inl rfl) Tryd.results43 rfl ?_
  exact ⟨_, rfl, rfl, hw⟩
theorem Sectors_calls {A : Nat → Prop} {w : World} {R : Nat} {s : RA} (h : RK A w R s) : Calls Tryd.prog 53 [ptr R].toArray w (Ret fun v w' => v = vi s.sn ∧ Chg Nob w w') := by
  obtain ⟨m, ga, gc, wa, wc, ws, ls, hB, -⟩ := h.ex
  have hw := Chg.refl Nob w
  refine Calls.of_WC Tryd.func53 rfl Tryd.ntmps53 (by simp) ?_
  refine WC.seq (WC.region (WL.assign rfl rfl (WL.nil (WX.then_normal (WC.seq (WC.seq (WC.region (?_))))))))
  refine WL.move rfl rfl (?_)
  refine WL.ptrNil Tryd.underlying41 rfl rfl rfl ?_
  refine WL.nil (WX.then_normal (WC.cond_false rfl (WC.skip (WX.then_normal (WC.seq (WC.region (WL.move rfl rfl (?_))))))))
  refine WL.nilCheck rfl rfl (WL.fieldAddr (fld_86_1) rfl rfl (WL.loadB Tryd.isAgg3 hB rfl rfl rfl (WL.assign rfl rfl (WL.nil (WX.then_normal (WC.ret (?_)))))))
  refine WX.ret1 (.inl rfl) Tryd.results53 rfl ?_
  exact ⟨_, rfl, rfl, hw⟩
/-- why a sector isn't to be had: 0: it is -/
def errS (s : RA) (d a : Int) : Int := if ¬ inS s d a then 1 else if goneS s d = true then 3 else if s.off = true then 16 else 0
theorem Read_calls {A : Nat → Prop} {w : World} {R : Nat} {s : RA} (h : RK A w R s) (d a : Int) :
    Calls Tryd.prog 27 [ptr R, vi d, vi a].toArray w (Ret fun v w' => (∃ (r : Rw) (e : Int), v = .tuple #[vsl r, vi e] ∧ e = errS s d a ∧ (e = 0 → r.xs = heldS s (d, a)) ∧ (e ≠ 0 → r = ⟨none, 0, []⟩) ∧ Row (w.heap.size ≤ ·) w' 5 eb r.ao r.cap r.xs) ∧ Chg Nob w w') := by
  have hw := Chg.refl Nob w
  refine Calls.of_WC Tryd.func27 rfl Tryd.ntmps27 (by simp) ?_
  refine WC.seq (WC.region (WL.assign rfl rfl (WL.assign rfl rfl (WL.nil (WX.then_normal (WC.seq (WC.block (?_))))))))
  refine WC.seq (WC.region (WL.move rfl rfl (WL.move rfl rfl (WL.move rfl rfl (?_)))))
  refine WL.call eg_46 rfl rfl (in_calls h d a) ?_
  rintro v w1 ⟨rfl, k1⟩
  have zs_k1 := k1.size
  replace h := h.pure k1
  replace hw := hw.pure k1
  obtain ⟨m, ga, gc, wa, wc, ws, ls, hB, hI, -⟩ := h.ex
  by_cases h12 : inS s d a
  ·
    rw [show decide (0 ≤ d ∧ d < (s.dn : Int) ∧ 0 ≤ a ∧ a < (s.sn : Int)) = true from decide_eq_true h12]
    refine WL.not rfl rfl (WL.assign rfl rfl (WL.nil (WX.then_normal (WC.cond_false rfl (WC.seq (WC.region (WL.move rfl rfl (?_))))))))
    refine WL.nilCheck rfl rfl (WL.fieldAddr (fld_86_3) rfl rfl (WL.loadB Tryd.isAgg67 hB rfl rfl rfl (WL.move rfl rfl (?_))))
    have hgd := goneS_at h.ok (d := d) ⟨h12.1, h12.2.1⟩
    refine WL.indexT (e := ebool) Tryd.underlying67 Tryd.sizeOf4 hI.gone.rsl rfl rfl ⟨hgd, by have := h12.1; omega⟩ rfl ?_
    intro bb oo hcc
    refine WL.load Tryd.isAgg4 rfl (hcc 0 _ rfl) rfl ?_
    rcases hg : goneS s d with _ | _
    ·
      refine WL.assign rfl rfl (WL.nil (WX.then_normal (WC.cond_false rfl (WC.seq (WC.region (WL.move rfl rfl (WL.nilCheck rfl rfl (?_))))))))
      refine WL.fieldAddr (fld_86_5) rfl rfl (?_)
      refine WL.loadB Tryd.isAgg4 hB rfl rfl rfl ?_
      rcases ho : s.off with _ | _
      ·
        refine WL.assign rfl rfl (WL.nil (WX.then_normal (WC.cond_false rfl (WC.skip (WX.block_normal (WX.then_normal (WC.seq (?_))))))))
        refine WC.region (WL.move rfl rfl (WL.move rfl rfl (WL.move rfl rfl (WL.bld rfl (bld_90_0_1 _ _) rfl (?_)))))
        refine WL.call eg_48 rfl rfl (held_calls h (d, a)) ?_
        rintro v w2 ⟨⟨r, rfl, hr, hx⟩, k2⟩
        have zs_k2 := k2.size
        replace h := h.pure k2
        replace hw := hw.pure k2
        replace hB := hB.pure k2
        replace hI := hI.pure k2
        refine WL.call eg_47 rfl rfl (bclone_calls hr (by rw [hx]; exact heldS_len h.ok _)) ?_
        rintro v w3 ⟨⟨g, c, rfl, hq, hq1, hq2⟩, k3⟩
        have zs_k3 := k3.size
        replace h := h.pure k3
        replace hw := hw.pure k3
        replace hB := hB.pure k3
        replace hI := hI.pure k3
        replace hr := hr.pure k3
        refine WL.assign rfl rfl (WL.assign rfl rfl (WL.nil (WX.then_normal (WC.ret (?_)))))
        refine WX.ret2 (.inl rfl) Tryd.results27 rfl rfl ?_
        first
          | exact ⟨_, rfl, ⟨⟨some ⟨g, 0, none⟩, c, r.xs⟩, 0, rfl, by simp [errS, h12, hg, ho], fun _ => hx, fun h0 => absurd rfl h0, hq.mono (fun b hb => by omega)⟩, hw⟩
          | exact ⟨_, rfl, ⟨⟨none, 0, []⟩, 16, rfl, by simp [errS, h12, hg, ho], fun h0 => absurd h0 (by decide), fun _ => rfl, Row.nil _ _ _ _⟩, hw⟩
          | exact ⟨_, rfl, ⟨⟨none, 0, []⟩, 3, rfl, by simp [errS, h12, hg], fun h0 => absurd h0 (by decide), fun _ => rfl, Row.nil _ _ _ _⟩, hw⟩
          | exact ⟨_, rfl, ⟨⟨none, 0, []⟩, 1, rfl, by simp [errS, h12], fun h0 => absurd h0 (by decide), fun _ => rfl, Row.nil _ _ _ _⟩, hw⟩
      ·
        refine WL.assign rfl rfl (WL.nil (WX.then_normal (WC.cond_true rfl (WC.seq (WC.region (WL.assign rfl rfl (WL.assign rfl rfl (?_))))))))
        refine WL.nil (WX.then_normal (WC.ret (WX.block_ret (WX.then_ret (?_)))))
        refine WX.ret2 (.inl rfl) Tryd.results27 rfl rfl ?_
        first
          | exact ⟨_, rfl, ⟨⟨some ⟨g, 0, none⟩, c, r.xs⟩, 0, rfl, by simp [errS, h12, hg, ho], fun _ => hx, fun h0 => absurd rfl h0, hq.mono (fun b hb => by omega)⟩, hw⟩
          | exact ⟨_, rfl, ⟨⟨none, 0, []⟩, 16, rfl, by simp [errS, h12, hg, ho], fun h0 => absurd h0 (by decide), fun _ => rfl, Row.nil _ _ _ _⟩, hw⟩
          | exact ⟨_, rfl, ⟨⟨none, 0, []⟩, 3, rfl, by simp [errS, h12, hg], fun h0 => absurd h0 (by decide), fun _ => rfl, Row.nil _ _ _ _⟩, hw⟩
          | exact ⟨_, rfl, ⟨⟨none, 0, []⟩, 1, rfl, by simp [errS, h12], fun h0 => absurd h0 (by decide), fun _ => rfl, Row.nil _ _ _ _⟩, hw⟩
    ·
      refine WL.assign rfl rfl (WL.nil (WX.then_normal (WC.cond_true rfl (WC.seq (WC.region (WL.assign rfl rfl (WL.assign rfl rfl (?_))))))))
      refine WL.nil (WX.then_normal (WC.ret (WX.block_ret (WX.then_ret (?_)))))
      refine WX.ret2 (.inl rfl) Tryd.results27 rfl rfl ?_
      first
        | exact ⟨_, rfl, ⟨⟨some ⟨g, 0, none⟩, c, r.xs⟩, 0, rfl, by simp [errS, h12, hg, ho], fun _ => hx, fun h0 => absurd rfl h0, hq.mono (fun b hb => by omega)⟩, hw⟩
        | exact ⟨_, rfl, ⟨⟨none, 0, []⟩, 16, rfl, by simp [errS, h12, hg, ho], fun h0 => absurd h0 (by decide), fun _ => rfl, Row.nil _ _ _ _⟩, hw⟩
        | exact ⟨_, rfl, ⟨⟨none, 0, []⟩, 3, rfl, by simp [errS, h12, hg], fun h0 => absurd h0 (by decide), fun _ => rfl, Row.nil _ _ _ _⟩, hw⟩
        | exact ⟨_, rfl, ⟨⟨none, 0, []⟩, 1, rfl, by simp [errS, h12], fun h0 => absurd h0 (by decide), fun _ => rfl, Row.nil _ _ _ _⟩, hw⟩
  ·
    rw [show decide (0 ≤ d ∧ d < (s.dn : Int) ∧ 0 ≤ a ∧ a < (s.sn : Int)) = false from decide_eq_false h12]
    refine WL.not rfl rfl (WL.assign rfl rfl (WL.nil (WX.then_normal (WC.cond_true rfl (WC.seq (WC.region (WL.assign rfl rfl (?_))))))))
    refine WL.assign rfl rfl (WL.nil (WX.then_normal (WC.ret (WX.block_ret (WX.then_ret (?_))))))
    refine WX.ret2 (.inl rfl) Tryd.results27 rfl rfl ?_
    first
      | exact ⟨_, rfl, ⟨⟨some ⟨g, 0, none⟩, c, r.xs⟩, 0, rfl, by simp [errS, h12, hg, ho], fun _ => hx, fun h0 => absurd rfl h0, hq.mono (fun b hb => by omega)⟩, hw⟩
      | exact ⟨_, rfl, ⟨⟨none, 0, []⟩, 16, rfl, by simp [errS, h12, hg, ho], fun h0 => absurd h0 (by decide), fun _ => rfl, Row.nil _ _ _ _⟩, hw⟩
      | exact ⟨_, rfl, ⟨⟨none, 0, []⟩, 3, rfl, by simp [errS, h12, hg], fun h0 => absurd h0 (by decide), fun _ => rfl, Row.nil _ _ _ _⟩, hw⟩
      | exact ⟨_, rfl, ⟨⟨none, 0, []⟩, 1, rfl, by simp [errS, h12], fun h0 => absurd h0 (by decide), fun _ => rfl, Row.nil _ _ _ _⟩, hw⟩
/-! a write or flush is counted -/
def offS (s : RA) : Bool := s.off || (s.armed && decide (s.left = 0))
def spendS (s : RA) : RA := if offS s = true then { s with off := true } else { s with left := if s.armed = true then s.left - 1 else s.left }
theorem spendS_ok {s : RA} (h : s.ok) : (spendS s).ok := by
  unfold spendS
  split
  · exact ⟨h.dn, h.sn, h.gl, h.ll, h.lw, h.lf, h.nd⟩
  · rename_i h1
    refine ⟨h.dn, h.sn, h.gl, h.ll, h.lw, ?_, h.nd⟩
    obtain ⟨l1, l2, l3⟩ := h.lf
    show (s.armed = true → 0 ≤ (if s.armed = true then s.left - 1 else s.left)) ∧ _ ≤ (if s.armed = true then s.left - 1 else s.left) ∧ (if s.armed = true then s.left - 1 else s.left) ≤ _
    by_cases h2 : s.armed = true
    · rw [if_pos h2]
      have := l1 h2
      simp [offS, h2] at h1
      have h3 := h1.2
      refine ⟨fun _ => ?_, ?_, ?_⟩ <;> omega
    · rw [if_neg h2]
      exact ⟨fun h3 => absurd h3 h2, l2, l3⟩
theorem spend_calls {A : Nat → Prop} {w : World} {R : Nat} {s : RA} (h : RK A w R s) :
    Calls Tryd.prog 45 [ptr R].toArray w (Ret fun v w' => v = .bool (!offS s) ∧ RK A w' R (spendS s) ∧ Chg (fun x => x = R) w w' ∧ w'.heap.size = w.heap.size) := by
  have aR := h.aR
  have hok := h.ok
  have hsok := spendS_ok h.ok
  obtain ⟨m, ga, gc, wa, wc, ws, ls, hB, hI, hls, hws⟩ := h.ex
  replace hI := hI.open hB
  have hw := Chg.refl (fun x => x = R) w
  have hsz : w.heap.size = w.heap.size := rfl
  refine Calls.of_WC Tryd.func45 rfl Tryd.ntmps45 (by simp) ?_
  refine WC.seq (WC.region (WL.assign rfl rfl (WL.nil (WX.then_normal (WC.seq (WC.seq (WC.region (?_))))))))
  refine WL.move rfl rfl (WL.nilCheck rfl rfl (WL.fieldAddr (fld_86_6) rfl rfl (WL.loadB Tryd.isAgg4 hB rfl rfl rfl (WL.move rfl rfl (?_)))))
  refine WL.caseB (t := 7) rfl (fun hb7 => ?_) (fun hb7 => ?_)
  ·
    refine WL.want rfl rfl rfl (WL.move rfl rfl (WL.want rfl rfl rfl (WL.nilCheck rfl rfl (WL.want rfl rfl rfl (WL.fieldAddr (fld_86_7) rfl rfl (WL.want rfl rfl rfl (WL.loadB Tryd.isAgg3 hB rfl rfl rfl (?_))))))))
    refine WL.want rfl rfl rfl (?_)
    refine WL.eql? rfl rfl rfl (fun h12 => ?_) (fun h12 => ?_)
    ·
      refine WL.pickT rfl rfl rfl (WL.nil (WX.then_normal (WC.cond_true rfl (WC.region (WL.move rfl rfl (WL.nilCheck rfl rfl (WL.fieldAddr (fld_86_5) rfl rfl (?_))))))))
      refine WL.store Tryd.sizeOf4 hB rfl rfl rfl rfl ?_
      intro w_1 hs_1 hn_1 k_1
      have zs_k_1 := k_1.size
      replace hI := hI.chg k_1 (by intro b h1 h2 h3; have h4 : _ = _ := h3; (try dsimp only at h2); exfalso; omega)
      replace hw := hw.chg k_1 (by intro x h1 h2; exact h2)
      replace hB := hn_1
      refine WL.nil (WX.then_normal (WC.seq (WC.seq (WC.region (WL.move rfl rfl (WL.nilCheck rfl rfl (WL.fieldAddr (fld_86_5) rfl rfl (?_))))))))
      refine WL.loadB Tryd.isAgg4 hB rfl rfl rfl (WL.nil (WX.then_normal (?_)))
      first | refine WC.cond_dec rfl (fun hc20 => ?_) (fun hc20 => ?_) | refine WC.cond_split rfl (fun hc20 => ?_) (fun hc20 => ?_)
      ·
        refine WC.seq (WC.region (WL.assign rfl rfl (WL.nil (WX.then_normal (WC.ret (WX.then_ret (?_)))))))
        refine WX.ret1 (.inl rfl) Tryd.results45 rfl ?_
        first
          | (exfalso; cases hc20; done)
          | (exfalso; rw [hb7] at hc24; cases hc24; done)
          | (refine ⟨_, rfl, ?_, ⟨aR, hsok, m, ga, gc, wa, wc, ws, ls, Eq.mp (congrArg (Blk _ R 86) ?_) hB, ?_, ?_, ?_⟩, hw, by omega⟩
             ·
               congr 1
               simp [offS, *]
             ·
               simp [rcells, spendS, offS, *]
             ·
               refine (show (spendS s).gone = s.gone from ?_) ▸ hI.mono (fun b hb => hb.1)
               unfold spendS
               split <;> rfl
             ·
               rw [← hls]
               unfold spendS
               split <;> rfl
             ·
               rw [← hws]
               unfold spendS
               split <;> rfl)
      ·
        refine WC.skip (WX.then_normal (WC.seq (WC.seq (WC.region (WL.move rfl rfl (WL.nilCheck rfl rfl (WL.fieldAddr (fld_86_6) rfl rfl (?_))))))))
        refine WL.loadB Tryd.isAgg4 hB rfl rfl rfl (WL.nil (WX.then_normal (?_)))
        first | refine WC.cond_dec rfl (fun hc24 => ?_) (fun hc24 => ?_) | refine WC.cond_split rfl (fun hc24 => ?_) (fun hc24 => ?_)
        ·
          refine WC.region (WL.move rfl rfl (WL.nilCheck rfl rfl (WL.fieldAddr (fld_86_7) rfl rfl (WL.loadB Tryd.isAgg3 hB rfl rfl rfl (?_)))))
          have hl0 := hok.lf.1 hc24
          have hl1 := hok.lf.2.2
          refine WL.sub64 rfl rfl (by constructor <;> omega) rfl ?_
          refine WL.nilCheck rfl rfl (WL.fieldAddr (fld_86_7) rfl rfl (?_))
          refine WL.store Tryd.sizeOf3 hB rfl rfl rfl rfl ?_
          intro w_2 hs_2 hn_2 k_2
          have zs_k_2 := k_2.size
          replace hI := hI.chg k_2 (by intro b h1 h2 h3; have h4 : _ = _ := h3; (try dsimp only at h2); exfalso; omega)
          replace hw := hw.chg k_2 (by intro x h1 h2; exact h2)
          replace hB := hn_2
          refine WL.nil (WX.then_normal (WC.seq (WC.region (WL.assign rfl rfl (WL.nil (WX.then_normal (WC.ret (?_))))))))
          refine WX.ret1 (.inl rfl) Tryd.results45 rfl ?_
          first
            | (exfalso; cases hc20; done)
            | (exfalso; rw [hb7] at hc24; cases hc24; done)
            | (refine ⟨_, rfl, ?_, ⟨aR, hsok, m, ga, gc, wa, wc, ws, ls, Eq.mp (congrArg (Blk _ R 86) ?_) hB, ?_, ?_, ?_⟩, hw, by omega⟩
               ·
                 congr 1
                 simp [offS, *]
               ·
                 simp [rcells, spendS, offS, *]
               ·
                 refine (show (spendS s).gone = s.gone from ?_) ▸ hI.mono (fun b hb => hb.1)
                 unfold spendS
                 split <;> rfl
               ·
                 rw [← hls]
                 unfold spendS
                 split <;> rfl
               ·
                 rw [← hws]
                 unfold spendS
                 split <;> rfl)
        ·
          refine WC.skip (WX.then_normal (WC.seq (WC.region (WL.assign rfl rfl (WL.nil (WX.then_normal (WC.ret (?_))))))))
          refine WX.ret1 (.inl rfl) Tryd.results45 rfl ?_
          first
            | (exfalso; cases hc20; done)
            | (exfalso; rw [hb7] at hc24; cases hc24; done)
            | (refine ⟨_, rfl, ?_, ⟨aR, hsok, m, ga, gc, wa, wc, ws, ls, Eq.mp (congrArg (Blk _ R 86) ?_) hB, ?_, ?_, ?_⟩, hw, by omega⟩
               ·
                 congr 1
                 simp [offS, *]
               ·
                 simp [rcells, spendS, offS, *]
               ·
                 refine (show (spendS s).gone = s.gone from ?_) ▸ hI.mono (fun b hb => hb.1)
                 unfold spendS
                 split <;> rfl
               ·
                 rw [← hls]
                 unfold spendS
                 split <;> rfl
               ·
                 rw [← hws]
                 unfold spendS
                 split <;> rfl)
    ·
      refine WL.pickT rfl rfl rfl (WL.nil (WX.then_normal (WC.cond_false rfl (WC.skip (WX.then_normal (WC.seq (WC.seq (?_))))))))
      refine WC.region (WL.move rfl rfl (WL.nilCheck rfl rfl (WL.fieldAddr (fld_86_5) rfl rfl (WL.loadB Tryd.isAgg4 hB rfl rfl rfl (WL.nil (WX.then_normal (?_)))))))
      first | refine WC.cond_dec rfl (fun hc20 => ?_) (fun hc20 => ?_) | refine WC.cond_split rfl (fun hc20 => ?_) (fun hc20 => ?_)
      ·
        refine WC.seq (WC.region (WL.assign rfl rfl (WL.nil (WX.then_normal (WC.ret (WX.then_ret (?_)))))))
        refine WX.ret1 (.inl rfl) Tryd.results45 rfl ?_
        first
          | (exfalso; cases hc20; done)
          | (exfalso; rw [hb7] at hc24; cases hc24; done)
          | (refine ⟨_, rfl, ?_, ⟨aR, hsok, m, ga, gc, wa, wc, ws, ls, Eq.mp (congrArg (Blk _ R 86) ?_) hB, ?_, ?_, ?_⟩, hw, by omega⟩
             ·
               congr 1
               simp [offS, *]
             ·
               simp [rcells, spendS, offS, *]
             ·
               refine (show (spendS s).gone = s.gone from ?_) ▸ hI.mono (fun b hb => hb.1)
               unfold spendS
               split <;> rfl
             ·
               rw [← hls]
               unfold spendS
               split <;> rfl
             ·
               rw [← hws]
               unfold spendS
               split <;> rfl)
      ·
        refine WC.skip (WX.then_normal (WC.seq (WC.seq (WC.region (WL.move rfl rfl (WL.nilCheck rfl rfl (WL.fieldAddr (fld_86_6) rfl rfl (?_))))))))
        refine WL.loadB Tryd.isAgg4 hB rfl rfl rfl (WL.nil (WX.then_normal (?_)))
        first | refine WC.cond_dec rfl (fun hc24 => ?_) (fun hc24 => ?_) | refine WC.cond_split rfl (fun hc24 => ?_) (fun hc24 => ?_)
        ·
          refine WC.region (WL.move rfl rfl (WL.nilCheck rfl rfl (WL.fieldAddr (fld_86_7) rfl rfl (WL.loadB Tryd.isAgg3 hB rfl rfl rfl (?_)))))
          have hl0 := hok.lf.1 hc24
          have hl1 := hok.lf.2.2
          refine WL.sub64 rfl rfl (by constructor <;> omega) rfl ?_
          refine WL.nilCheck rfl rfl (WL.fieldAddr (fld_86_7) rfl rfl (?_))
          refine WL.store Tryd.sizeOf3 hB rfl rfl rfl rfl ?_
          intro w_1 hs_1 hn_1 k_1
          have zs_k_1 := k_1.size
          replace hI := hI.chg k_1 (by intro b h1 h2 h3; have h4 : _ = _ := h3; (try dsimp only at h2); exfalso; omega)
          replace hw := hw.chg k_1 (by intro x h1 h2; exact h2)
          replace hB := hn_1
          refine WL.nil (WX.then_normal (WC.seq (WC.region (WL.assign rfl rfl (WL.nil (WX.then_normal (WC.ret (?_))))))))
          refine WX.ret1 (.inl rfl) Tryd.results45 rfl ?_
          first
            | (exfalso; cases hc20; done)
            | (exfalso; rw [hb7] at hc24; cases hc24; done)
            | (refine ⟨_, rfl, ?_, ⟨aR, hsok, m, ga, gc, wa, wc, ws, ls, Eq.mp (congrArg (Blk _ R 86) ?_) hB, ?_, ?_, ?_⟩, hw, by omega⟩
               ·
                 congr 1
                 simp [offS, *]
               ·
                 simp [rcells, spendS, offS, *]
               ·
                 refine (show (spendS s).gone = s.gone from ?_) ▸ hI.mono (fun b hb => hb.1)
                 unfold spendS
                 split <;> rfl
               ·
                 rw [← hls]
                 unfold spendS
                 split <;> rfl
               ·
                 rw [← hws]
                 unfold spendS
                 split <;> rfl)
        ·
          refine WC.skip (WX.then_normal (WC.seq (WC.region (WL.assign rfl rfl (WL.nil (WX.then_normal (WC.ret (?_))))))))
          refine WX.ret1 (.inl rfl) Tryd.results45 rfl ?_
          first
            | (exfalso; cases hc20; done)
            | (exfalso; rw [hb7] at hc24; cases hc24; done)
            | (refine ⟨_, rfl, ?_, ⟨aR, hsok, m, ga, gc, wa, wc, ws, ls, Eq.mp (congrArg (Blk _ R 86) ?_) hB, ?_, ?_, ?_⟩, hw, by omega⟩
               ·
                 congr 1
                 simp [offS, *]
               ·
                 simp [rcells, spendS, offS, *]
               ·
                 refine (show (spendS s).gone = s.gone from ?_) ▸ hI.mono (fun b hb => hb.1)
                 unfold spendS
                 split <;> rfl
               ·
                 rw [← hls]
                 unfold spendS
                 split <;> rfl
               ·
                 rw [← hws]
                 unfold spendS
                 split <;> rfl)
  ·
    refine WL.pass rfl rfl rfl rfl (WL.pass rfl rfl rfl rfl (WL.pass rfl rfl rfl rfl (WL.pass rfl rfl rfl rfl (WL.pass rfl rfl rfl rfl (WL.pickF rfl rfl rfl (WL.nil (WX.then_normal (?_))))))))
    refine WC.cond_false rfl (WC.skip (WX.then_normal (WC.seq (WC.seq (WC.region (WL.move rfl rfl (WL.nilCheck rfl rfl (?_))))))))
    refine WL.fieldAddr (fld_86_5) rfl rfl (WL.loadB Tryd.isAgg4 hB rfl rfl rfl (WL.nil (WX.then_normal (?_))))
    first | refine WC.cond_dec rfl (fun hc20 => ?_) (fun hc20 => ?_) | refine WC.cond_split rfl (fun hc20 => ?_) (fun hc20 => ?_)
    ·
      refine WC.seq (WC.region (WL.assign rfl rfl (WL.nil (WX.then_normal (WC.ret (WX.then_ret (?_)))))))
      refine WX.ret1 (.inl rfl) Tryd.results45 rfl ?_
      first
        | (exfalso; cases hc20; done)
        | (exfalso; rw [hb7] at hc24; cases hc24; done)
        | (refine ⟨_, rfl, ?_, ⟨aR, hsok, m, ga, gc, wa, wc, ws, ls, Eq.mp (congrArg (Blk _ R 86) ?_) hB, ?_, ?_, ?_⟩, hw, by omega⟩
           ·
             congr 1
             simp [offS, *]
           ·
             simp [rcells, spendS, offS, *]
           ·
             refine (show (spendS s).gone = s.gone from ?_) ▸ hI.mono (fun b hb => hb.1)
             unfold spendS
             split <;> rfl
           ·
             rw [← hls]
             unfold spendS
             split <;> rfl
           ·
             rw [← hws]
             unfold spendS
             split <;> rfl)
    ·
      refine WC.skip (WX.then_normal (WC.seq (WC.seq (WC.region (WL.move rfl rfl (WL.nilCheck rfl rfl (WL.fieldAddr (fld_86_6) rfl rfl (?_))))))))
      refine WL.loadB Tryd.isAgg4 hB rfl rfl rfl (WL.nil (WX.then_normal (?_)))
      first | refine WC.cond_dec rfl (fun hc24 => ?_) (fun hc24 => ?_) | refine WC.cond_split rfl (fun hc24 => ?_) (fun hc24 => ?_)
      ·
        refine WC.region (WL.move rfl rfl (WL.nilCheck rfl rfl (WL.fieldAddr (fld_86_7) rfl rfl (WL.loadB Tryd.isAgg3 hB rfl rfl rfl (?_)))))
        have hl0 := hok.lf.1 hc24
        have hl1 := hok.lf.2.2
        refine WL.sub64 rfl rfl (by constructor <;> omega) rfl ?_
        refine WL.nilCheck rfl rfl (WL.fieldAddr (fld_86_7) rfl rfl (?_))
        refine WL.store Tryd.sizeOf3 hB rfl rfl rfl rfl ?_
        intro w_1 hs_1 hn_1 k_1
        have zs_k_1 := k_1.size
        replace hI := hI.chg k_1 (by intro b h1 h2 h3; have h4 : _ = _ := h3; (try dsimp only at h2); exfalso; omega)
        replace hw := hw.chg k_1 (by intro x h1 h2; exact h2)
        replace hB := hn_1
        refine WL.nil (WX.then_normal (WC.seq (WC.region (WL.assign rfl rfl (WL.nil (WX.then_normal (WC.ret (?_))))))))
        refine WX.ret1 (.inl rfl) Tryd.results45 rfl ?_
        first
          | (exfalso; cases hc20; done)
          | (exfalso; rw [hb7] at hc24; cases hc24; done)
          | (refine ⟨_, rfl, ?_, ⟨aR, hsok, m, ga, gc, wa, wc, ws, ls, Eq.mp (congrArg (Blk _ R 86) ?_) hB, ?_, ?_, ?_⟩, hw, by omega⟩
             ·
               congr 1
               simp [offS, *]
             ·
               simp [rcells, spendS, offS, *]
             ·
               refine (show (spendS s).gone = s.gone from ?_) ▸ hI.mono (fun b hb => hb.1)
               unfold spendS
               split <;> rfl
             ·
               rw [← hls]
               unfold spendS
               split <;> rfl
             ·
               rw [← hws]
               unfold spendS
               split <;> rfl)
      ·
        refine WC.skip (WX.then_normal (WC.seq (WC.region (WL.assign rfl rfl (WL.nil (WX.then_normal (WC.ret (?_))))))))
        refine WX.ret1 (.inl rfl) Tryd.results45 rfl ?_
        first
          | (exfalso; cases hc20; done)
          | (exfalso; rw [hb7] at hc24; cases hc24; done)
          | (refine ⟨_, rfl, ?_, ⟨aR, hsok, m, ga, gc, wa, wc, ws, ls, Eq.mp (congrArg (Blk _ R 86) ?_) hB, ?_, ?_, ?_⟩, hw, by omega⟩
             ·
               congr 1
               simp [offS, *]
             ·
               simp [rcells, spendS, offS, *]
             ·
               refine (show (spendS s).gone = s.gone from ?_) ▸ hI.mono (fun b hb => hb.1)
               unfold spendS
               split <;> rfl
             ·
               rw [← hls]
               unfold spendS
               split <;> rfl
             ·
               rw [← hws]
               unfold spendS
               split <;> rfl)
end Go.Proofs.YtjeldcjchipdgaaDoor
namespace Go.Proofs.YtjeldcjchipdgaaDoor
open Go.RowKit Go.HL
set_option maxRecDepth 100000

/-! a write -/
theorem spendS_dn (s : RA) : (spendS s).dn = s.dn := by unfold spendS; split <;> rfl
theorem spendS_sn (s : RA) : (spendS s).sn = s.sn := by unfold spendS; split <;> rfl
theorem spendS_gone (s : RA) : (spendS s).gone = s.gone := by unfold spendS; split <;> rfl
theorem spendS_waits (s : RA) : (spendS s).waits = s.waits := by unfold spendS; split <;> rfl
def writeE (s : RA) (d a : Int) (n : Nat) : Int := if ¬ inS s d a ∨ n ≠ 128 then 1 else if goneS s d = true then 3 else if offS s = true then 16 else 0
def writeS (s : RA) (d a : Int) (b : List UInt8) : RA := if writeE s d a b.length = 0 then { spendS s with waits := s.waits ++ [((d, a), b)] } else if writeE s d a b.length = 16 then spendS s else s
theorem writeE_0 {s : RA} {d a : Int} {n : Nat} : writeE s d a n = 0 ↔ inS s d a ∧ n = 128 ∧ goneS s d = false ∧ offS s = false := by
  unfold writeE
  by_cases h1 : inS s d a <;> by_cases h2 : n = 128 <;> cases h3 : goneS s d <;> cases h4 : offS s <;> simp [h1, h2]
theorem writeS_ok {s : RA} (h : s.ok) (d a : Int) (b : List UInt8) : (writeS s d a b).ok := by
  have h1 := spendS_ok h
  unfold writeS
  split
  · rename_i h2
    have hb := (writeE_0.1 h2).2.1
    refine ⟨h1.dn, h1.sn, h1.gl, h1.ll, fun p hp => ?_, h1.lf, h1.nd⟩
    rcases List.mem_append.1 hp with h3 | h3
    · exact h.lw p h3
    · simp at h3
      rw [h3]
      exact hb
  · split
    · exact h1
    · exact h
theorem Write_calls {A S : Nat → Prop} {w : World} {R : Nat} {s : RA} (h : RK A w R s) (d a : Int) {ao : Option Addr} {c : Nat} {b : List UInt8} (hb : RSl S w eb ao c b) (hS : ∀ x, S x → x = R → False) (hn : s.waits.length ≤ 100000) :
    Calls Tryd.prog 44 [ptr R, vi d, vi a, .slice ao b.length c].toArray w (Ret fun v w' => v = vi (writeE s d a b.length) ∧ RK (fun x => A x ∨ w.heap.size ≤ x) w' R (writeS s d a b) ∧ Chg A w w') := by
  have aR := h.aR
  have hok := h.ok
  have hwok := writeS_ok h.ok d a b
  have hcap := hb.cap
  have hlen : b.length ≤ 140737488355328 ∨ 140737488355328 < b.length := by omega
  have hw := Chg.refl A w
  refine Calls.of_WC Tryd.func44 rfl Tryd.ntmps44 (by simp) ?_
  refine WC.seq (WC.region (WL.assign rfl rfl (WL.nil (WX.then_normal (WC.seq (WC.block (WC.seq (?_))))))))
  refine WC.region (WL.move rfl rfl (WL.move rfl rfl (WL.move rfl rfl (?_))))
  refine WL.call eg_46 rfl rfl (in_calls h d a) ?_
  rintro v w1 ⟨rfl, k1⟩
  have zs_k1 := k1.size
  replace h := h.pure k1
  replace hb := hb.pure k1
  replace hw := hw.pure k1
  by_cases h12 : inS s d a
  ·
    rw [show decide (0 ≤ d ∧ d < (s.dn : Int) ∧ 0 ≤ a ∧ a < (s.sn : Int)) = true from decide_eq_true h12]
    refine WL.not rfl rfl (WL.move rfl rfl (WL.want rfl rfl rfl (WL.move rfl rfl (WL.want rfl rfl rfl (WL.len Tryd.underlying26 rfl rfl (WL.want rfl rfl rfl (?_)))))))
    refine WL.neq? rfl rfl rfl (fun h18 => ?_) (fun h18 => ?_)
    ·
      refine WL.pickF rfl rfl rfl (WL.assign rfl rfl (WL.nil (WX.then_normal (WC.cond_true rfl (WC.seq (WC.region (WL.assign rfl rfl (?_))))))))
      refine WL.nil (WX.then_normal (WC.ret (WX.block_ret (WX.then_ret (?_)))))
      refine WX.ret1 (.inl rfl) Tryd.results44 rfl ?_
      first
        | (have hh : (b.length : Int) ≠ 128 := h18
           have hh2 : b.length ≠ 128 := by omega
           exact ⟨_, rfl, by simp [writeE, hh2], by rw [show writeS s d a b = s from by simp [writeS, writeE, hh2]]; exact h.mono (fun x hx => .inl hx), hw⟩)
        | (have hh : ¬ inS s d a := h12
           exact ⟨_, rfl, by simp [writeE, h12], by rw [show writeS s d a b = s from by simp [writeS, writeE, h12]]; exact h.mono (fun x hx => .inl hx), hw⟩)
        | (have hh : goneS s d = true := hg
           have hh2 : b.length = 128 := by omega
           exact ⟨_, rfl, by simp [writeE, h12, hh2, hg], by rw [show writeS s d a b = s from by simp [writeS, writeE, h12, hh2, hg]]; exact h.mono (fun x hx => .inl hx), hw⟩)
        | (have hh : offS s = true := ho
           have hh2 : b.length = 128 := by omega
           exact ⟨_, rfl, by simp [writeE, h12, hh2, hg, ho], by rw [show writeS s d a b = spendS s from by simp [writeS, writeE, h12, hh2, hg, ho]]; exact h2.mono (fun x hx => .inl hx), hw⟩)
        | (have hh2 : b.length = 128 := by omega
           have e0 : writeE s d a b.length = 0 := by simp [writeE, h12, hh2, hg, ho]
           refine ⟨_, rfl, by rw [e0], ⟨aR2, hwok, m, ga, gc, ao9, c9, ws ++ [((d, a), ⟨some ⟨gq, 0, none⟩, cq, b⟩)], ls, Eq.mp (congrArg (Blk _ R 86) ?_) hB, ?_, ?_, ?_⟩, hw⟩
           ·
             simp [writeS, e0]
           ·
             simp only [writeS, e0, if_true]
             exact hI9.mono (fun x hx => hx.1)
           ·
             simp only [writeS, e0, if_true]
             exact hls
           ·
             simp only [writeS, e0, if_true]
             rw [spendS_waits] at hws
             rw [hws]
             simp [xsm])
    ·
      refine WL.pickF rfl rfl rfl (WL.assign rfl rfl (WL.nil (WX.then_normal (WC.cond_false rfl (WC.seq (WC.region (WL.move rfl rfl (?_))))))))
      refine WL.nilCheck rfl rfl (WL.fieldAddr (fld_86_3) rfl rfl (?_))
      obtain ⟨m, ga, gc, wa, wc, ws, ls, hB, hI, -⟩ := h.ex
      refine WL.loadB Tryd.isAgg67 hB rfl rfl rfl ?_
      refine WL.move rfl rfl (?_)
      have hgd := goneS_at h.ok (d := d) ⟨h12.1, h12.2.1⟩
      refine WL.indexT (e := ebool) Tryd.underlying67 Tryd.sizeOf4 hI.gone.rsl rfl rfl ⟨hgd, by have := h12.1; omega⟩ rfl ?_
      intro bb oo hcc
      refine WL.load Tryd.isAgg4 rfl (hcc 0 _ rfl) rfl ?_
      rcases hg : goneS s d with _ | _
      ·
        refine WL.assign rfl rfl (WL.nil (WX.then_normal (WC.cond_false rfl (WC.seq (WC.region (WL.move rfl rfl (?_)))))))
        clear hB hI hcc
        refine WL.call eg_45 rfl rfl (spend_calls h) ?_
        rintro v w2 ⟨rfl, h2, k2, z2⟩
        have zs_k2 := k2.size
        replace hb := hb.chg k2 (by intro x h0 h1 h2; exact hS x h1 h2)
        replace hw := hw.chg k2 (by intro x h1 h2; have h3 : _ = _ := h2; subst h3; assumption)
        rcases ho : offS s with _ | _
        ·
          refine WL.not rfl rfl (WL.assign rfl rfl (WL.nil (WX.then_normal (WC.cond_false rfl (WC.skip (WX.block_normal (WX.then_normal (?_))))))))
          refine WC.seq (?_)
          obtain ⟨m, ga, gc, wa, wc, ws, ls, hB, hI, hls, hws⟩ := h2.ex
          replace hI := (hI.open hB).mono (S' := fun x => (A x ∨ w.heap.size ≤ x) ∧ x ≠ R) (fun x hx => ⟨.inl hx.1, hx.2⟩)
          have aR2 : A R ∨ w.heap.size ≤ R := .inl aR
          have lR := hB.lt
          have zw := hw.size
          have hwl : ws.length ≤ 100000 := by rw [← xsm_len, ← hws, spendS_waits]; exact hn
          refine WC.drawM ((fun x => A x ∨ w.heap.size ≤ x)) [0, 1, 2, 3, 5, 6, 7, 8, 13, 14] [4, 9, 10, 11, 12, 15] mixed rfl rfl (fun wd_1 kd_1 zd_1 => ?_)
          have zs_kd_1 := kd_1.size
          replace hb := hb.pure kd_1
          replace hw := hw.pure kd_1
          replace hB := hB.pure kd_1
          replace hI := hI.pure kd_1
          apply DQT.step (E' := [(0, _)])
          case ho => rfl
          case hs => exact ⟨rfl, trivial⟩
          case hk => rfl
          case h1 =>
            intro wq_3 kq_3
            refine WL.move rfl rfl (?_)
            refine WL.nil ?_
            exact WX.one ⟨rfl, by exact Chg.refl _ _⟩
          apply DQT.step (E' := [(0, _)])
          case ho => rfl
          case hs => exact ⟨rfl, trivial⟩
          case hk => rfl
          case h1 =>
            intro wq_4 kq_4
            refine WL.move rfl rfl (?_)
            refine WL.nil ?_
            exact WX.one ⟨rfl, by exact Chg.refl _ _⟩
          apply DQT.step (E' := [(33, _)])
          case ho => rfl
          case hs => exact ⟨rfl, trivial⟩
          case hk => rfl
          case h1 =>
            intro wq_5 kq_5
            refine WL.nilCheck rfl rfl (?_)
            refine WL.nil ?_
            exact WX.one ⟨rfl, by exact Chg.refl _ _⟩
          apply DQT.step (E' := [(34, _)])
          case ho => rfl
          case hs => exact ⟨rfl, trivial⟩
          case hk => rfl
          case h1 =>
            intro wq_6 kq_6
            refine WL.fieldAddr (fld_86_4) rfl rfl (?_)
            refine WL.nil ?_
            exact WX.one ⟨rfl, by exact Chg.refl _ _⟩
          apply DQT.step (E' := [(1, _)])
          case ho => rfl
          case hs => exact ⟨rfl, trivial⟩
          case hk => rfl
          case h1 =>
            intro wq_7 kq_7
            refine WL.move rfl rfl (?_)
            refine WL.nil ?_
            exact WX.one ⟨rfl, by exact Chg.refl _ _⟩
          apply DQT.step (E' := [(2, _)])
          case ho => rfl
          case hs => exact ⟨rfl, trivial⟩
          case hk => rfl
          case h1 =>
            intro wq_8 kq_8
            refine WL.move rfl rfl (?_)
            refine WL.nil ?_
            exact WX.one ⟨rfl, by exact Chg.refl _ _⟩
          apply DQT.step (E' := [(37, _), (38, _)])
          case ho => rfl
          case hs => exact ⟨rfl, rfl, trivial⟩
          case hk => rfl
          case h1 =>
            intro wq_9 kq_9
            refine WL.bld rfl (bld_90_0_1 _ _) rfl (?_)
            refine WL.nil ?_
            exact WX.one ⟨rfl, by exact Chg.refl _ _⟩
          apply DQT.step (E' := [(3, _)])
          case ho => rfl
          case hs => exact ⟨rfl, trivial⟩
          case hk => rfl
          case h1 =>
            intro wq_10 kq_10
            refine WL.move rfl rfl (?_)
            refine WL.nil ?_
            exact WX.one ⟨rfl, by exact Chg.refl _ _⟩
          apply DQT.step (E' := [(32, _)])
          case ho => rfl
          case hs => exact ⟨rfl, trivial⟩
          case hk => rfl
          case h1 =>
            intro wq_11 kq_11
            refine WL.nilCheck rfl rfl (?_)
            refine WL.nil ?_
            exact WX.one ⟨rfl, by exact Chg.refl _ _⟩
          apply DQT.step (E' := [(45, _)])
          case ho => rfl
          case hs => exact ⟨rfl, trivial⟩
          case hk => rfl
          case h1 =>
            intro wq_12 kq_12
            refine WL.fieldAddr (fld_86_4) rfl rfl (?_)
            refine WL.nil ?_
            exact WX.one ⟨rfl, by exact Chg.refl _ _⟩
          refine DQT.done (fun hd_2 => ?_)
          refine ⟨?_, ?_, trivial, trivial, trivial, trivial, trivial⟩
          refine DT.step [(35, _)] rfl ⟨rfl, trivial⟩ rfl (fun wq_13 kq_13 => ?_)
          have zs_kq_13 := kq_13.size
          replace hb := hb.pure kq_13
          replace hw := hw.pure kq_13
          replace hB := hB.pure kq_13
          replace hI := hI.pure kq_13
          replace hd_2 := hd_2.pure kq_13
          refine WL.loadB Tryd.isAgg84 hB rfl rfl rfl (?_)
          refine WL.nil (WX.one ⟨hd_2, ?_⟩)
          refine ⟨?_, trivial, trivial, trivial, trivial, trivial⟩
          refine DT.step [(40, _)] rfl ⟨rfl, trivial⟩ rfl (fun wq_14 kq_14 => ?_)
          have zs_kq_14 := kq_14.size
          replace hb := hb.pure kq_14
          replace hw := hw.pure kq_14
          replace hB := hB.pure kq_14
          replace hI := hI.pure kq_14
          replace hd_2 := hd_2.pure kq_14
          refine WL.call eg_47 rfl rfl (bclone_calls hb (by omega)) ?_
          rintro v w3 ⟨⟨gq, cq, rfl, hq, hq1, hq2⟩, k3⟩
          have zs_k3 := k3.size
          replace hb := hb.pure k3
          replace hw := hw.pure k3
          replace hB := hB.pure k3
          replace hI := hI.pure k3
          replace hd_2 := hd_2.pure k3
          refine WL.nil (WX.one ⟨hd_2, ?_⟩)
          refine ⟨?_, trivial, trivial, trivial, trivial⟩
          refine DT.step [(39, _), (41, _)] rfl ⟨rfl, rfl, trivial⟩ rfl (fun wq_15 kq_15 => ?_)
          have zs_kq_15 := kq_15.size
          replace hb := hb.pure kq_15
          replace hw := hw.pure kq_15
          replace hB := hB.pure kq_15
          replace hI := hI.pure kq_15
          replace hd_2 := hd_2.pure kq_15
          replace hq := hq.pure kq_15
          refine WL.bld rfl (bld_92_0_1 _ _ _ _ _) rfl (?_)
          refine WL.nil (WX.one ⟨hd_2, ?_⟩)
          refine ⟨?_, trivial, trivial, trivial⟩
          refine DT.step [(42, _)] rfl ⟨rfl, trivial⟩ rfl (fun wq_16 kq_16 => ?_)
          have zs_kq_16 := kq_16.size
          replace hb := hb.pure kq_16
          replace hw := hw.pure kq_16
          replace hB := hB.pure kq_16
          replace hI := hI.pure kq_16
          replace hd_2 := hd_2.pure kq_16
          replace hq := hq.pure kq_16
          refine WL.build (e := ewr) [((d, a), ⟨some ⟨gq, 0, none⟩, cq, b⟩)] Tryd.underlying84 Tryd.sizeOf92 Tryd.zeroValue92 rfl rfl rfl (by simp [Value.cells] <;> rfl) (by decide) rfl ?_
          intro a_b43 w_b43 b43 l_b43 z_b43 k_b43
          have zs_k_b43 := k_b43.size
          replace hb := hb.pure k_b43
          replace hw := hw.pure k_b43
          replace hB := hB.pure k_b43
          replace hI := hI.pure k_b43
          replace hd_2 := hd_2.pure k_b43
          replace hq := hq.pure k_b43
          refine WL.nil (WX.one ⟨hd_2, ?_⟩)
          refine ⟨?_, trivial, trivial⟩
          refine DT.step [(36, _), (43, _)] rfl ⟨rfl, rfl, trivial⟩ rfl (fun wq_17 kq_17 => ?_)
          have zs_kq_17 := kq_17.size
          replace hb := hb.pure kq_17
          replace hw := hw.pure kq_17
          replace hB := hB.pure kq_17
          replace hI := hI.pure kq_17
          replace hd_2 := hd_2.pure kq_17
          replace hq := hq.pure kq_17
          replace b43 := b43.pure kq_17
          refine WL.append (e := ewr) info_92 rfl Tryd.underlying84 rfl rfl hI.waits (b43.rsl.src Tryd.underlying84) (by constructor <;> (simp only [List.length_cons, List.length_nil]; omega)) (fun x hx => ⟨.inr (by omega), by omega⟩) rfl ?_
          intro ao9 c9 w9 hb9 gg9 n9
          have hq9 : Row (fun x => (A x ∨ w.heap.size ≤ x) ∧ x ≠ R) _ 5 eb (some ⟨gq, 0, none⟩) cq b := hq.mono (fun x hx => ⟨.inr (by omega), by omega⟩)
          have hI9 := hI.setWaits hb9 gg9.chg (fun x hx => hx.1) (fun p hp => by
            rcases List.mem_append.1 hp with h3 | h3
            ·
              exact .inl ⟨p, h3, rfl⟩
            ·
              simp at h3
              right
              rw [h3]
              exact hq9)
          have gk : Chg (fun x => (A x ∨ w.heap.size ≤ x) ∧ x ≠ R) _ w9 := gg9.chg.mono (fun x _ hx => hx.2)
          have zs_gk := gk.size
          replace hw := hw.chg gk (by intro x h1 h2; rcases h2.1 with h3 | h3; exact h3; exfalso; omega)
          replace hB := hB.chg gk (by intro h1; exfalso; have h4 := h1.2; (try dsimp only at *); omega)
          replace hd_2 := hd_2.chg gk (by intro x h1 h2; exact h2.1)
          refine WL.nil (WX.one ⟨hd_2, ?_⟩)
          refine ⟨?_, trivial⟩
          refine DT.step [(46, _), (44, _)] rfl ⟨rfl, rfl, trivial⟩ rfl (fun wq_18 kq_18 => ?_)
          have zs_kq_18 := kq_18.size
          replace hw := hw.pure kq_18
          replace hB := hB.pure kq_18
          replace hd_2 := hd_2.pure kq_18
          replace hI9 := hI9.pure kq_18
          refine WL.store Tryd.sizeOf84 hB rfl rfl rfl rfl ?_
          intro w_19 hs_19 hn_19 k_19
          have zs_k_19 := k_19.size
          replace hw := hw.chg k_19 (by intro x h1 h2; have h3 : _ = _ := h2; subst h3; assumption)
          replace hd_2 := hd_2.chg k_19 (by intro x h1 h2; have h3 : _ = _ := h2; subst h3; assumption)
          replace hI9 := hI9.chg k_19 (by intro b h1 h2 h3; have h4 : _ = _ := h3; (try dsimp only at h2); exfalso; omega)
          replace hB := hn_19
          refine WL.nil (WX.one0 (v := undef) ⟨hd_2, ?_⟩)
          refine DT.done (fun we_20 ke_20 => ?_) _
          have zs_ke_20 := ke_20.size
          replace hw := hw.pure ke_20
          replace hB := hB.pure ke_20
          replace hd_2 := hd_2.pure ke_20
          replace hI9 := hI9.pure ke_20
          rotate_left
          refine DT.step [(40, _)] rfl ⟨rfl, trivial⟩ rfl (fun wq_13 kq_13 => ?_)
          have zs_kq_13 := kq_13.size
          replace hb := hb.pure kq_13
          replace hw := hw.pure kq_13
          replace hB := hB.pure kq_13
          replace hI := hI.pure kq_13
          replace hd_2 := hd_2.pure kq_13
          refine WL.call eg_47 rfl rfl (bclone_calls hb (by omega)) ?_
          rintro v w3 ⟨⟨gq, cq, rfl, hq, hq1, hq2⟩, k3⟩
          have zs_k3 := k3.size
          replace hb := hb.pure k3
          replace hw := hw.pure k3
          replace hB := hB.pure k3
          replace hI := hI.pure k3
          replace hd_2 := hd_2.pure k3
          refine WL.nil (WX.one ⟨hd_2, ?_⟩)
          refine ⟨?_, ?_, trivial, trivial, trivial, trivial⟩
          refine DT.step [(35, _)] rfl ⟨rfl, trivial⟩ rfl (fun wq_14 kq_14 => ?_)
          have zs_kq_14 := kq_14.size
          replace hb := hb.pure kq_14
          replace hw := hw.pure kq_14
          replace hB := hB.pure kq_14
          replace hI := hI.pure kq_14
          replace hd_2 := hd_2.pure kq_14
          replace hq := hq.pure kq_14
          refine WL.loadB Tryd.isAgg84 hB rfl rfl rfl (?_)
          refine WL.nil (WX.one ⟨hd_2, ?_⟩)
          refine ⟨?_, trivial, trivial, trivial, trivial⟩
          refine DT.step [(39, _), (41, _)] rfl ⟨rfl, rfl, trivial⟩ rfl (fun wq_15 kq_15 => ?_)
          have zs_kq_15 := kq_15.size
          replace hb := hb.pure kq_15
          replace hw := hw.pure kq_15
          replace hB := hB.pure kq_15
          replace hI := hI.pure kq_15
          replace hd_2 := hd_2.pure kq_15
          replace hq := hq.pure kq_15
          refine WL.bld rfl (bld_92_0_1 _ _ _ _ _) rfl (?_)
          refine WL.nil (WX.one ⟨hd_2, ?_⟩)
          refine ⟨?_, trivial, trivial, trivial⟩
          refine DT.step [(42, _)] rfl ⟨rfl, trivial⟩ rfl (fun wq_16 kq_16 => ?_)
          have zs_kq_16 := kq_16.size
          replace hb := hb.pure kq_16
          replace hw := hw.pure kq_16
          replace hB := hB.pure kq_16
          replace hI := hI.pure kq_16
          replace hd_2 := hd_2.pure kq_16
          replace hq := hq.pure kq_16
          refine WL.build (e := ewr) [((d, a), ⟨some ⟨gq, 0, none⟩, cq, b⟩)] Tryd.underlying84 Tryd.sizeOf92 Tryd.zeroValue92 rfl rfl rfl (by simp [Value.cells] <;> rfl) (by decide) rfl ?_
          intro a_b43 w_b43 b43 l_b43 z_b43 k_b43
          have zs_k_b43 := k_b43.size
          replace hb := hb.pure k_b43
          replace hw := hw.pure k_b43
          replace hB := hB.pure k_b43
          replace hI := hI.pure k_b43
          replace hd_2 := hd_2.pure k_b43
          replace hq := hq.pure k_b43
          refine WL.nil (WX.one ⟨hd_2, ?_⟩)
          refine ⟨?_, trivial, trivial⟩
          refine DT.step [(36, _), (43, _)] rfl ⟨rfl, rfl, trivial⟩ rfl (fun wq_17 kq_17 => ?_)
          have zs_kq_17 := kq_17.size
          replace hb := hb.pure kq_17
          replace hw := hw.pure kq_17
          replace hB := hB.pure kq_17
          replace hI := hI.pure kq_17
          replace hd_2 := hd_2.pure kq_17
          replace hq := hq.pure kq_17
          replace b43 := b43.pure kq_17
          refine WL.append (e := ewr) info_92 rfl Tryd.underlying84 rfl rfl hI.waits (b43.rsl.src Tryd.underlying84) (by constructor <;> (simp only [List.length_cons, List.length_nil]; omega)) (fun x hx => ⟨.inr (by omega), by omega⟩) rfl ?_
          intro ao9 c9 w9 hb9 gg9 n9
          have hq9 : Row (fun x => (A x ∨ w.heap.size ≤ x) ∧ x ≠ R) _ 5 eb (some ⟨gq, 0, none⟩) cq b := hq.mono (fun x hx => ⟨.inr (by omega), by omega⟩)
          have hI9 := hI.setWaits hb9 gg9.chg (fun x hx => hx.1) (fun p hp => by
            rcases List.mem_append.1 hp with h3 | h3
            ·
              exact .inl ⟨p, h3, rfl⟩
            ·
              simp at h3
              right
              rw [h3]
              exact hq9)
          have gk : Chg (fun x => (A x ∨ w.heap.size ≤ x) ∧ x ≠ R) _ w9 := gg9.chg.mono (fun x _ hx => hx.2)
          have zs_gk := gk.size
          replace hw := hw.chg gk (by intro x h1 h2; rcases h2.1 with h3 | h3; exact h3; exfalso; omega)
          replace hB := hB.chg gk (by intro h1; exfalso; have h4 := h1.2; (try dsimp only at *); omega)
          replace hd_2 := hd_2.chg gk (by intro x h1 h2; exact h2.1)
          refine WL.nil (WX.one ⟨hd_2, ?_⟩)
          refine ⟨?_, trivial⟩
          refine DT.step [(46, _), (44, _)] rfl ⟨rfl, rfl, trivial⟩ rfl (fun wq_18 kq_18 => ?_)
          have zs_kq_18 := kq_18.size
          replace hw := hw.pure kq_18
          replace hB := hB.pure kq_18
          replace hd_2 := hd_2.pure kq_18
          replace hI9 := hI9.pure kq_18
          refine WL.store Tryd.sizeOf84 hB rfl rfl rfl rfl ?_
          intro w_19 hs_19 hn_19 k_19
          have zs_k_19 := k_19.size
          replace hw := hw.chg k_19 (by intro x h1 h2; have h3 : _ = _ := h2; subst h3; assumption)
          replace hd_2 := hd_2.chg k_19 (by intro x h1 h2; have h3 : _ = _ := h2; subst h3; assumption)
          replace hI9 := hI9.chg k_19 (by intro b h1 h2 h3; have h4 : _ = _ := h3; (try dsimp only at h2); exfalso; omega)
          replace hB := hn_19
          refine WL.nil (WX.one0 (v := undef) ⟨hd_2, ?_⟩)
          refine DT.done (fun we_20 ke_20 => ?_) _
          have zs_ke_20 := ke_20.size
          replace hw := hw.pure ke_20
          replace hB := hB.pure ke_20
          replace hd_2 := hd_2.pure ke_20
          replace hI9 := hI9.pure ke_20
          rotate_left
          refine DT.step [(39, _), (41, _)] rfl ⟨rfl, rfl, trivial⟩ rfl (fun wq_14 kq_14 => ?_)
          have zs_kq_14 := kq_14.size
          replace hb := hb.pure kq_14
          replace hw := hw.pure kq_14
          replace hB := hB.pure kq_14
          replace hI := hI.pure kq_14
          replace hd_2 := hd_2.pure kq_14
          replace hq := hq.pure kq_14
          refine WL.bld rfl (bld_92_0_1 _ _ _ _ _) rfl (?_)
          refine WL.nil (WX.one ⟨hd_2, ?_⟩)
          refine ⟨?_, ?_, trivial, trivial, trivial⟩
          refine DT.step [(35, _)] rfl ⟨rfl, trivial⟩ rfl (fun wq_15 kq_15 => ?_)
          have zs_kq_15 := kq_15.size
          replace hb := hb.pure kq_15
          replace hw := hw.pure kq_15
          replace hB := hB.pure kq_15
          replace hI := hI.pure kq_15
          replace hd_2 := hd_2.pure kq_15
          replace hq := hq.pure kq_15
          refine WL.loadB Tryd.isAgg84 hB rfl rfl rfl (?_)
          refine WL.nil (WX.one ⟨hd_2, ?_⟩)
          refine ⟨?_, trivial, trivial, trivial⟩
          refine DT.step [(42, _)] rfl ⟨rfl, trivial⟩ rfl (fun wq_16 kq_16 => ?_)
          have zs_kq_16 := kq_16.size
          replace hb := hb.pure kq_16
          replace hw := hw.pure kq_16
          replace hB := hB.pure kq_16
          replace hI := hI.pure kq_16
          replace hd_2 := hd_2.pure kq_16
          replace hq := hq.pure kq_16
          refine WL.build (e := ewr) [((d, a), ⟨some ⟨gq, 0, none⟩, cq, b⟩)] Tryd.underlying84 Tryd.sizeOf92 Tryd.zeroValue92 rfl rfl rfl (by simp [Value.cells] <;> rfl) (by decide) rfl ?_
          intro a_b43 w_b43 b43 l_b43 z_b43 k_b43
          have zs_k_b43 := k_b43.size
          replace hb := hb.pure k_b43
          replace hw := hw.pure k_b43
          replace hB := hB.pure k_b43
          replace hI := hI.pure k_b43
          replace hd_2 := hd_2.pure k_b43
          replace hq := hq.pure k_b43
          refine WL.nil (WX.one ⟨hd_2, ?_⟩)
          refine ⟨?_, trivial, trivial⟩
          refine DT.step [(36, _), (43, _)] rfl ⟨rfl, rfl, trivial⟩ rfl (fun wq_17 kq_17 => ?_)
          have zs_kq_17 := kq_17.size
          replace hb := hb.pure kq_17
          replace hw := hw.pure kq_17
          replace hB := hB.pure kq_17
          replace hI := hI.pure kq_17
          replace hd_2 := hd_2.pure kq_17
          replace hq := hq.pure kq_17
          replace b43 := b43.pure kq_17
          refine WL.append (e := ewr) info_92 rfl Tryd.underlying84 rfl rfl hI.waits (b43.rsl.src Tryd.underlying84) (by constructor <;> (simp only [List.length_cons, List.length_nil]; omega)) (fun x hx => ⟨.inr (by omega), by omega⟩) rfl ?_
          intro ao9 c9 w9 hb9 gg9 n9
          have hq9 : Row (fun x => (A x ∨ w.heap.size ≤ x) ∧ x ≠ R) _ 5 eb (some ⟨gq, 0, none⟩) cq b := hq.mono (fun x hx => ⟨.inr (by omega), by omega⟩)
          have hI9 := hI.setWaits hb9 gg9.chg (fun x hx => hx.1) (fun p hp => by
            rcases List.mem_append.1 hp with h3 | h3
            ·
              exact .inl ⟨p, h3, rfl⟩
            ·
              simp at h3
              right
              rw [h3]
              exact hq9)
          have gk : Chg (fun x => (A x ∨ w.heap.size ≤ x) ∧ x ≠ R) _ w9 := gg9.chg.mono (fun x _ hx => hx.2)
          have zs_gk := gk.size
          replace hw := hw.chg gk (by intro x h1 h2; rcases h2.1 with h3 | h3; exact h3; exfalso; omega)
          replace hB := hB.chg gk (by intro h1; exfalso; have h4 := h1.2; (try dsimp only at *); omega)
          replace hd_2 := hd_2.chg gk (by intro x h1 h2; exact h2.1)
          refine WL.nil (WX.one ⟨hd_2, ?_⟩)
          refine ⟨?_, trivial⟩
          refine DT.step [(46, _), (44, _)] rfl ⟨rfl, rfl, trivial⟩ rfl (fun wq_18 kq_18 => ?_)
          have zs_kq_18 := kq_18.size
          replace hw := hw.pure kq_18
          replace hB := hB.pure kq_18
          replace hd_2 := hd_2.pure kq_18
          replace hI9 := hI9.pure kq_18
          refine WL.store Tryd.sizeOf84 hB rfl rfl rfl rfl ?_
          intro w_19 hs_19 hn_19 k_19
          have zs_k_19 := k_19.size
          replace hw := hw.chg k_19 (by intro x h1 h2; have h3 : _ = _ := h2; subst h3; assumption)
          replace hd_2 := hd_2.chg k_19 (by intro x h1 h2; have h3 : _ = _ := h2; subst h3; assumption)
          replace hI9 := hI9.chg k_19 (by intro b h1 h2 h3; have h4 : _ = _ := h3; (try dsimp only at h2); exfalso; omega)
          replace hB := hn_19
          refine WL.nil (WX.one0 (v := undef) ⟨hd_2, ?_⟩)
          refine DT.done (fun we_20 ke_20 => ?_) _
          have zs_ke_20 := ke_20.size
          replace hw := hw.pure ke_20
          replace hB := hB.pure ke_20
          replace hd_2 := hd_2.pure ke_20
          replace hI9 := hI9.pure ke_20
          rotate_left
          refine DT.step [(42, _)] rfl ⟨rfl, trivial⟩ rfl (fun wq_15 kq_15 => ?_)
          have zs_kq_15 := kq_15.size
          replace hb := hb.pure kq_15
          replace hw := hw.pure kq_15
          replace hB := hB.pure kq_15
          replace hI := hI.pure kq_15
          replace hd_2 := hd_2.pure kq_15
          replace hq := hq.pure kq_15
          refine WL.build (e := ewr) [((d, a), ⟨some ⟨gq, 0, none⟩, cq, b⟩)] Tryd.underlying84 Tryd.sizeOf92 Tryd.zeroValue92 rfl rfl rfl (by simp [Value.cells] <;> rfl) (by decide) rfl ?_
          intro a_b43 w_b43 b43 l_b43 z_b43 k_b43
          have zs_k_b43 := k_b43.size
          replace hb := hb.pure k_b43
          replace hw := hw.pure k_b43
          replace hB := hB.pure k_b43
          replace hI := hI.pure k_b43
          replace hd_2 := hd_2.pure k_b43
          replace hq := hq.pure k_b43
          refine WL.nil (WX.one ⟨hd_2, ?_⟩)
          refine ⟨?_, trivial, trivial, trivial⟩
          refine DT.step [(35, _)] rfl ⟨rfl, trivial⟩ rfl (fun wq_16 kq_16 => ?_)
          have zs_kq_16 := kq_16.size
          replace hb := hb.pure kq_16
          replace hw := hw.pure kq_16
          replace hB := hB.pure kq_16
          replace hI := hI.pure kq_16
          replace hd_2 := hd_2.pure kq_16
          replace hq := hq.pure kq_16
          replace b43 := b43.pure kq_16
          refine WL.loadB Tryd.isAgg84 hB rfl rfl rfl (?_)
          refine WL.nil (WX.one ⟨hd_2, ?_⟩)
          refine ⟨?_, trivial, trivial⟩
          refine DT.step [(36, _), (43, _)] rfl ⟨rfl, rfl, trivial⟩ rfl (fun wq_17 kq_17 => ?_)
          have zs_kq_17 := kq_17.size
          replace hb := hb.pure kq_17
          replace hw := hw.pure kq_17
          replace hB := hB.pure kq_17
          replace hI := hI.pure kq_17
          replace hd_2 := hd_2.pure kq_17
          replace hq := hq.pure kq_17
          replace b43 := b43.pure kq_17
          refine WL.append (e := ewr) info_92 rfl Tryd.underlying84 rfl rfl hI.waits (b43.rsl.src Tryd.underlying84) (by constructor <;> (simp only [List.length_cons, List.length_nil]; omega)) (fun x hx => ⟨.inr (by omega), by omega⟩) rfl ?_
          intro ao9 c9 w9 hb9 gg9 n9
          have hq9 : Row (fun x => (A x ∨ w.heap.size ≤ x) ∧ x ≠ R) _ 5 eb (some ⟨gq, 0, none⟩) cq b := hq.mono (fun x hx => ⟨.inr (by omega), by omega⟩)
          have hI9 := hI.setWaits hb9 gg9.chg (fun x hx => hx.1) (fun p hp => by
            rcases List.mem_append.1 hp with h3 | h3
            ·
              exact .inl ⟨p, h3, rfl⟩
            ·
              simp at h3
              right
              rw [h3]
              exact hq9)
          have gk : Chg (fun x => (A x ∨ w.heap.size ≤ x) ∧ x ≠ R) _ w9 := gg9.chg.mono (fun x _ hx => hx.2)
          have zs_gk := gk.size
          replace hw := hw.chg gk (by intro x h1 h2; rcases h2.1 with h3 | h3; exact h3; exfalso; omega)
          replace hB := hB.chg gk (by intro h1; exfalso; have h4 := h1.2; (try dsimp only at *); omega)
          replace hd_2 := hd_2.chg gk (by intro x h1 h2; exact h2.1)
          refine WL.nil (WX.one ⟨hd_2, ?_⟩)
          refine ⟨?_, trivial⟩
          refine DT.step [(46, _), (44, _)] rfl ⟨rfl, rfl, trivial⟩ rfl (fun wq_18 kq_18 => ?_)
          have zs_kq_18 := kq_18.size
          replace hw := hw.pure kq_18
          replace hB := hB.pure kq_18
          replace hd_2 := hd_2.pure kq_18
          replace hI9 := hI9.pure kq_18
          refine WL.store Tryd.sizeOf84 hB rfl rfl rfl rfl ?_
          intro w_19 hs_19 hn_19 k_19
          have zs_k_19 := k_19.size
          replace hw := hw.chg k_19 (by intro x h1 h2; have h3 : _ = _ := h2; subst h3; assumption)
          replace hd_2 := hd_2.chg k_19 (by intro x h1 h2; have h3 : _ = _ := h2; subst h3; assumption)
          replace hI9 := hI9.chg k_19 (by intro b h1 h2 h3; have h4 : _ = _ := h3; (try dsimp only at h2); exfalso; omega)
          replace hB := hn_19
          refine WL.nil (WX.one0 (v := undef) ⟨hd_2, ?_⟩)
          refine DT.done (fun we_20 ke_20 => ?_) _
          have zs_ke_20 := ke_20.size
          replace hw := hw.pure ke_20
          replace hB := hB.pure ke_20
          replace hd_2 := hd_2.pure ke_20
          replace hI9 := hI9.pure ke_20
          rotate_left
          all_goals
            refine WX.then_normal (WC.seq (WC.region (WL.assign rfl rfl (WL.nil (WX.then_normal (WC.ret (?_)))))))
            refine WX.ret1 (.inl rfl) Tryd.results44 rfl ?_
            first
              | (have hh : (b.length : Int) ≠ 128 := h18
                 have hh2 : b.length ≠ 128 := by omega
                 exact ⟨_, rfl, by simp [writeE, hh2], by rw [show writeS s d a b = s from by simp [writeS, writeE, hh2]]; exact h.mono (fun x hx => .inl hx), hw⟩)
              | (have hh : ¬ inS s d a := h12
                 exact ⟨_, rfl, by simp [writeE, h12], by rw [show writeS s d a b = s from by simp [writeS, writeE, h12]]; exact h.mono (fun x hx => .inl hx), hw⟩)
              | (have hh : goneS s d = true := hg
                 have hh2 : b.length = 128 := by omega
                 exact ⟨_, rfl, by simp [writeE, h12, hh2, hg], by rw [show writeS s d a b = s from by simp [writeS, writeE, h12, hh2, hg]]; exact h.mono (fun x hx => .inl hx), hw⟩)
              | (have hh : offS s = true := ho
                 have hh2 : b.length = 128 := by omega
                 exact ⟨_, rfl, by simp [writeE, h12, hh2, hg, ho], by rw [show writeS s d a b = spendS s from by simp [writeS, writeE, h12, hh2, hg, ho]]; exact h2.mono (fun x hx => .inl hx), hw⟩)
              | (have hh2 : b.length = 128 := by omega
                 have e0 : writeE s d a b.length = 0 := by simp [writeE, h12, hh2, hg, ho]
                 refine ⟨_, rfl, by rw [e0], ⟨aR2, hwok, m, ga, gc, ao9, c9, ws ++ [((d, a), ⟨some ⟨gq, 0, none⟩, cq, b⟩)], ls, Eq.mp (congrArg (Blk _ R 86) ?_) hB, ?_, ?_, ?_⟩, hw⟩
                 ·
                   simp [writeS, e0]
                 ·
                   simp only [writeS, e0, if_true]
                   exact hI9.mono (fun x hx => hx.1)
                 ·
                   simp only [writeS, e0, if_true]
                   exact hls
                 ·
                   simp only [writeS, e0, if_true]
                   rw [spendS_waits] at hws
                   rw [hws]
                   simp [xsm])
        ·
          refine WL.not rfl rfl (WL.assign rfl rfl (WL.nil (WX.then_normal (WC.cond_true rfl (WC.seq (WC.region (WL.assign rfl rfl (?_))))))))
          refine WL.nil (WX.then_normal (WC.ret (WX.block_ret (WX.then_ret (?_)))))
          refine WX.ret1 (.inl rfl) Tryd.results44 rfl ?_
          first
            | (have hh : (b.length : Int) ≠ 128 := h18
               have hh2 : b.length ≠ 128 := by omega
               exact ⟨_, rfl, by simp [writeE, hh2], by rw [show writeS s d a b = s from by simp [writeS, writeE, hh2]]; exact h.mono (fun x hx => .inl hx), hw⟩)
            | (have hh : ¬ inS s d a := h12
               exact ⟨_, rfl, by simp [writeE, h12], by rw [show writeS s d a b = s from by simp [writeS, writeE, h12]]; exact h.mono (fun x hx => .inl hx), hw⟩)
            | (have hh : goneS s d = true := hg
               have hh2 : b.length = 128 := by omega
               exact ⟨_, rfl, by simp [writeE, h12, hh2, hg], by rw [show writeS s d a b = s from by simp [writeS, writeE, h12, hh2, hg]]; exact h.mono (fun x hx => .inl hx), hw⟩)
            | (have hh : offS s = true := ho
               have hh2 : b.length = 128 := by omega
               exact ⟨_, rfl, by simp [writeE, h12, hh2, hg, ho], by rw [show writeS s d a b = spendS s from by simp [writeS, writeE, h12, hh2, hg, ho]]; exact h2.mono (fun x hx => .inl hx), hw⟩)
            | (have hh2 : b.length = 128 := by omega
               have e0 : writeE s d a b.length = 0 := by simp [writeE, h12, hh2, hg, ho]
               refine ⟨_, rfl, by rw [e0], ⟨aR2, hwok, m, ga, gc, ao9, c9, ws ++ [((d, a), ⟨some ⟨gq, 0, none⟩, cq, b⟩)], ls, Eq.mp (congrArg (Blk _ R 86) ?_) hB, ?_, ?_, ?_⟩, hw⟩
               ·
                 simp [writeS, e0]
               ·
                 simp only [writeS, e0, if_true]
                 exact hI9.mono (fun x hx => hx.1)
               ·
                 simp only [writeS, e0, if_true]
                 exact hls
               ·
                 simp only [writeS, e0, if_true]
                 rw [spendS_waits] at hws
                 rw [hws]
                 simp [xsm])
      ·
        refine WL.assign rfl rfl (WL.nil (WX.then_normal (WC.cond_true rfl (WC.seq (WC.region (WL.assign rfl rfl (WL.nil (?_))))))))
        refine WX.then_normal (WC.ret (WX.block_ret (WX.then_ret (?_))))
        refine WX.ret1 (.inl rfl) Tryd.results44 rfl ?_
        first
          | (have hh : (b.length : Int) ≠ 128 := h18
             have hh2 : b.length ≠ 128 := by omega
             exact ⟨_, rfl, by simp [writeE, hh2], by rw [show writeS s d a b = s from by simp [writeS, writeE, hh2]]; exact h.mono (fun x hx => .inl hx), hw⟩)
          | (have hh : ¬ inS s d a := h12
             exact ⟨_, rfl, by simp [writeE, h12], by rw [show writeS s d a b = s from by simp [writeS, writeE, h12]]; exact h.mono (fun x hx => .inl hx), hw⟩)
          | (have hh : goneS s d = true := hg
             have hh2 : b.length = 128 := by omega
             exact ⟨_, rfl, by simp [writeE, h12, hh2, hg], by rw [show writeS s d a b = s from by simp [writeS, writeE, h12, hh2, hg]]; exact h.mono (fun x hx => .inl hx), hw⟩)
          | (have hh : offS s = true := ho
             have hh2 : b.length = 128 := by omega
             exact ⟨_, rfl, by simp [writeE, h12, hh2, hg, ho], by rw [show writeS s d a b = spendS s from by simp [writeS, writeE, h12, hh2, hg, ho]]; exact h2.mono (fun x hx => .inl hx), hw⟩)
          | (have hh2 : b.length = 128 := by omega
             have e0 : writeE s d a b.length = 0 := by simp [writeE, h12, hh2, hg, ho]
             refine ⟨_, rfl, by rw [e0], ⟨aR2, hwok, m, ga, gc, ao9, c9, ws ++ [((d, a), ⟨some ⟨gq, 0, none⟩, cq, b⟩)], ls, Eq.mp (congrArg (Blk _ R 86) ?_) hB, ?_, ?_, ?_⟩, hw⟩
             ·
               simp [writeS, e0]
             ·
               simp only [writeS, e0, if_true]
               exact hI9.mono (fun x hx => hx.1)
             ·
               simp only [writeS, e0, if_true]
               exact hls
             ·
               simp only [writeS, e0, if_true]
               rw [spendS_waits] at hws
               rw [hws]
               simp [xsm])
  ·
    rw [show decide (0 ≤ d ∧ d < (s.dn : Int) ∧ 0 ≤ a ∧ a < (s.sn : Int)) = false from decide_eq_false h12]
    refine WL.not rfl rfl (WL.move rfl rfl (WL.pass rfl rfl rfl rfl (WL.pass rfl rfl rfl rfl (WL.pass rfl rfl rfl rfl (WL.pickT rfl rfl rfl (WL.assign rfl rfl (WL.nil (?_))))))))
    refine WX.then_normal (WC.cond_true rfl (WC.seq (WC.region (WL.assign rfl rfl (WL.nil (WX.then_normal (WC.ret (?_))))))))
    refine WX.block_ret (WX.then_ret (?_))
    refine WX.ret1 (.inl rfl) Tryd.results44 rfl ?_
    first
      | (have hh : (b.length : Int) ≠ 128 := h18
         have hh2 : b.length ≠ 128 := by omega
         exact ⟨_, rfl, by simp [writeE, hh2], by rw [show writeS s d a b = s from by simp [writeS, writeE, hh2]]; exact h.mono (fun x hx => .inl hx), hw⟩)
      | (have hh : ¬ inS s d a := h12
         exact ⟨_, rfl, by simp [writeE, h12], by rw [show writeS s d a b = s from by simp [writeS, writeE, h12]]; exact h.mono (fun x hx => .inl hx), hw⟩)
      | (have hh : goneS s d = true := hg
         have hh2 : b.length = 128 := by omega
         exact ⟨_, rfl, by simp [writeE, h12, hh2, hg], by rw [show writeS s d a b = s from by simp [writeS, writeE, h12, hh2, hg]]; exact h.mono (fun x hx => .inl hx), hw⟩)
      | (have hh : offS s = true := ho
         have hh2 : b.length = 128 := by omega
         exact ⟨_, rfl, by simp [writeE, h12, hh2, hg, ho], by rw [show writeS s d a b = spendS s from by simp [writeS, writeE, h12, hh2, hg, ho]]; exact h2.mono (fun x hx => .inl hx), hw⟩)
      | (have hh2 : b.length = 128 := by omega
         have e0 : writeE s d a b.length = 0 := by simp [writeE, h12, hh2, hg, ho]
         refine ⟨_, rfl, by rw [e0], ⟨aR2, hwok, m, ga, gc, ao9, c9, ws ++ [((d, a), ⟨some ⟨gq, 0, none⟩, cq, b⟩)], ls, Eq.mp (congrArg (Blk _ R 86) ?_) hB, ?_, ?_, ?_⟩, hw⟩
         ·
           simp [writeS, e0]
         ·
           simp only [writeS, e0, if_true]
           exact hI9.mono (fun x hx => hx.1)
         ·
           simp only [writeS, e0, if_true]
           exact hls
         ·
           simp only [writeS, e0, if_true]
           rw [spendS_waits] at hws
           rw [hws]
           simp [xsm])
end Go.Proofs.YtjeldcjchipdgaaDoor
namespace Go.Proofs.YtjeldcjchipdgaaDoor
open Go.RowKit Go.HL
set_option maxRecDepth 100000

/-! writes that come to last, those that kp tells -/
def puts {V : Type} (kp : Nat → Bool) (ws l : List (Pl × V)) : Nat → List (Pl × V)
  | 0 => l
  | i + 1 => match ws[i]? with
    | some x => if kp i = true then mput (puts kp ws l i) x.1 x.2 else puts kp ws l i
    | none => puts kp ws l i
/-- all that waits comes to last -/
def flushS (s : RA) : RA := if offS s = true then spendS s else { spendS s with last := puts (fun _ => true) s.waits s.last s.waits.length, waits := [] }
end Go.Proofs.YtjeldcjchipdgaaDoor
namespace Go.Proofs.YtjeldcjchipdgaaDoor
open Go.RowKit Go.HL
set_option maxRecDepth 100000

/-! the power goes off later -/
/-! the power goes off and comes back -/
/-! a new rack -/
def newS (dn sn : Nat) : RA := ⟨dn, sn, [], List.replicate dn false, [], false, false, 0⟩
theorem newS_ok {dn sn : Nat} (hd : 1 ≤ dn ∧ dn ≤ 16) (hs : 1 ≤ sn ∧ sn ≤ 2000) : (newS dn sn).ok :=
  ⟨hd, hs, by simp [newS], fun p hp => by simp [newS] at hp, fun p hp => by simp [newS] at hp, ⟨fun h => by simp [newS] at h, by simp [newS], by simp [newS]⟩, by simp [newS]⟩
theorem New_calls (w : World) {dn sn : Nat} (hd : 1 ≤ dn ∧ dn ≤ 16) (hs : 1 ≤ sn ∧ sn ≤ 2000) :
    Calls Tryd.prog 15 [vi dn, vi sn].toArray w (Ret fun v w' => (∃ R, v = .tuple #[ptr R, vi 0] ∧ RK (w.heap.size ≤ ·) w' R (newS dn sn)) ∧ Chg Nob w w') := by
  have hw := Chg.refl Nob w
  refine Calls.of_WC Tryd.func15 rfl Tryd.ntmps15 (by simp) ?_
  refine WC.seq (WC.region (WL.assign rfl rfl (WL.assign rfl rfl (WL.nil (WX.then_normal (WC.seq (WC.seq (?_))))))))
  refine WC.region (WL.move rfl rfl (?_))
  refine WL.lss? rfl rfl rfl (fun h7 => ?_) (fun h7 => ?_)
  ·
    refine WL.move rfl rfl (WL.pass rfl rfl rfl rfl (WL.pass rfl rfl rfl rfl (WL.pickT rfl rfl rfl (WL.move rfl rfl (WL.pass rfl rfl rfl rfl (WL.pass rfl rfl rfl rfl (WL.pickT rfl rfl rfl (?_))))))))
    refine WL.move rfl rfl (WL.pass rfl rfl rfl rfl (WL.pass rfl rfl rfl rfl (WL.pickT rfl rfl rfl (WL.nil (WX.then_normal (WC.cond_true rfl (WC.seq (?_))))))))
    refine WC.region (WL.assign rfl rfl (WL.assign rfl rfl (WL.nil (WX.then_normal (WC.ret (WX.then_ret (?_)))))))
    refine WX.ret2 (.inl rfl) Tryd.results15 rfl rfl ?_
    first
      | (exfalso; omega)
      | (refine ⟨_, rfl, ⟨_, rfl, ⟨by omega, newS_ok hd hs, m, _, _, none, 0, [], [], hb_1, ⟨by omega, hM, hm.mono (fun x hx => by omega), Row.nil _ _ _ _, fun p hp => by simp at hp, fun p hp => by simp at hp⟩, rfl, rfl⟩⟩, hw⟩)
  ·
    refine WL.move rfl rfl (WL.want rfl rfl rfl (WL.move rfl rfl (WL.want rfl rfl rfl (?_))))
    refine WL.gtr? rfl rfl rfl (fun h10 => ?_) (fun h10 => ?_)
    ·
      refine WL.pickF rfl rfl rfl (WL.move rfl rfl (WL.pass rfl rfl rfl rfl (WL.pass rfl rfl rfl rfl (WL.pickT rfl rfl rfl (WL.move rfl rfl (WL.pass rfl rfl rfl rfl (WL.pass rfl rfl rfl rfl (?_))))))))
      refine WL.pickT rfl rfl rfl (WL.nil (WX.then_normal (WC.cond_true rfl (WC.seq (WC.region (WL.assign rfl rfl (WL.assign rfl rfl (?_))))))))
      refine WL.nil (WX.then_normal (WC.ret (WX.then_ret (?_))))
      refine WX.ret2 (.inl rfl) Tryd.results15 rfl rfl ?_
      first
        | (exfalso; omega)
        | (refine ⟨_, rfl, ⟨_, rfl, ⟨by omega, newS_ok hd hs, m, _, _, none, 0, [], [], hb_1, ⟨by omega, hM, hm.mono (fun x hx => by omega), Row.nil _ _ _ _, fun p hp => by simp at hp, fun p hp => by simp at hp⟩, rfl, rfl⟩⟩, hw⟩)
    ·
      refine WL.pickF rfl rfl rfl (WL.move rfl rfl (WL.want rfl rfl rfl (WL.move rfl rfl (WL.want rfl rfl rfl (?_)))))
      refine WL.lss? rfl rfl rfl (fun h14 => ?_) (fun h14 => ?_)
      ·
        refine WL.pickF rfl rfl rfl (WL.move rfl rfl (WL.pass rfl rfl rfl rfl (WL.pass rfl rfl rfl rfl (WL.pickT rfl rfl rfl (WL.nil (WX.then_normal (WC.cond_true rfl (?_))))))))
        refine WC.seq (WC.region (WL.assign rfl rfl (WL.assign rfl rfl (WL.nil (WX.then_normal (WC.ret (WX.then_ret (?_))))))))
        refine WX.ret2 (.inl rfl) Tryd.results15 rfl rfl ?_
        first
          | (exfalso; omega)
          | (refine ⟨_, rfl, ⟨_, rfl, ⟨by omega, newS_ok hd hs, m, _, _, none, 0, [], [], hb_1, ⟨by omega, hM, hm.mono (fun x hx => by omega), Row.nil _ _ _ _, fun p hp => by simp at hp, fun p hp => by simp at hp⟩, rfl, rfl⟩⟩, hw⟩)
      ·
        refine WL.pickF rfl rfl rfl (WL.move rfl rfl (WL.want rfl rfl rfl (WL.move rfl rfl (WL.want rfl rfl rfl (?_)))))
        refine WL.gtr? rfl rfl rfl (fun h18 => ?_) (fun h18 => ?_)
        ·
          refine WL.pickF rfl rfl rfl (WL.nil (WX.then_normal (WC.cond_true rfl (WC.seq (WC.region (WL.assign rfl rfl (WL.assign rfl rfl (?_))))))))
          refine WL.nil (WX.then_normal (WC.ret (WX.then_ret (?_))))
          refine WX.ret2 (.inl rfl) Tryd.results15 rfl rfl ?_
          first
            | (exfalso; omega)
            | (refine ⟨_, rfl, ⟨_, rfl, ⟨by omega, newS_ok hd hs, m, _, _, none, 0, [], [], hb_1, ⟨by omega, hM, hm.mono (fun x hx => by omega), Row.nil _ _ _ _, fun p hp => by simp at hp, fun p hp => by simp at hp⟩, rfl, rfl⟩⟩, hw⟩)
        ·
          refine WL.pickF rfl rfl rfl (WL.nil (WX.then_normal (WC.cond_false rfl (WC.skip (WX.then_normal (WC.seq (WC.region (?_))))))))
          refine WL.move rfl rfl (WL.move rfl rfl (?_))
          refine WL.makeMap (kv := kpl) (vv := vsl) rfl ?_
          intro m w1 em lm hM k1
          have zs_k1 := k1.size
          replace hw := hw.pure k1
          refine WL.move rfl rfl (?_)
          refine WL.make (e := ebool) false dn dn Tryd.underlying67 info_4 rfl rfl rfl ⟨rfl, rfl, Nat.le_refl _⟩ (by constructor <;> omega) rfl ?_
          intro g3 w3 hm k3 z3 eg3
          have zs_k3 := k3.size
          replace hw := hw.pure k3
          replace hM := hM.pure k3
          refine WL.bld rfl (bld_86_0_1_2_3 _ _ _ _ _ _) rfl (?_)
          refine WL.box rfl rfl ?_
          intro g_1 w_1 hge_1 hlt_1 hb_1 k_1
          have zs_k_1 := k_1.size
          replace hw := hw.pure k_1
          replace hM := hM.pure k_1
          replace hm := hm.pure k_1
          refine WL.assign rfl rfl (WL.assign rfl rfl (WL.nil (WX.then_normal (WC.ret (?_)))))
          refine WX.ret2 (.inl rfl) Tryd.results15 rfl rfl ?_
          first
            | (exfalso; omega)
            | (refine ⟨_, rfl, ⟨_, rfl, ⟨by omega, newS_ok hd hs, m, _, _, none, 0, [], [], hb_1, ⟨by omega, hM, hm.mono (fun x hx => by omega), Row.nil _ _ _ _, fun p hp => by simp at hp, fun p hp => by simp at hp⟩, rfl, rfl⟩⟩, hw⟩)
end Go.Proofs.YtjeldcjchipdgaaDoor
namespace Go.Proofs.YtjeldcjchipdgaaDoor
open Go.RowKit Go.HL
set_option maxRecDepth 100000

/-! what the calls do to what is read -/
def zeros : List UInt8 := List.replicate 128 0
def lastS (s : RA) (p : Pl) : List UInt8 := (mget s.last p).getD zeros
theorem heldS_eq (s : RA) (p : Pl) : heldS s p = match newV s.waits p with | some b => b | none => lastS s p := rfl
theorem newV_snoc {V : Type} (ws : List (Pl × V)) (p q : Pl) (b : V) : newV (ws ++ [(p, b)]) q = if q = p then some b else newV ws q := by
  unfold newV
  rw [List.reverse_append]
  rfl
structure Up (s : RA) : Prop where
  off : s.off = false
  armed : s.armed = false
theorem Up.offS {s : RA} (h : Up s) : offS s = false := by simp [Go.Proofs.YtjeldcjchipdgaaDoor.offS, h.off, h.armed]
theorem Up.spend {s : RA} (h : Up s) : spendS s = s := by
  have h1 := h.offS
  have h2 := h.armed
  unfold spendS
  rw [h1]
  obtain ⟨dn, sn, last, gone, waits, off, armed, left⟩ := s
  simp only at h2
  subst h2
  rfl
/-- one more that waits -/
def addS (s : RA) (p : Pl) (b : List UInt8) : RA := { s with waits := s.waits ++ [(p, b)] }
theorem Up.write {s : RA} (h : Up s) {d a : Int} {b : List UInt8} (hi : inS s d a) (hg : goneS s d = false) (hb : b.length = 128) : writeE s d a b.length = 0 ∧ writeS s d a b = addS s (d, a) b := by
  have h0 : writeE s d a b.length = 0 := writeE_0.2 ⟨hi, hb, hg, h.offS⟩
  refine ⟨h0, ?_⟩
  rw [writeS, if_pos h0, h.spend]
  rfl
theorem addS_held (s : RA) (p q : Pl) (b : List UInt8) : heldS (addS s p b) q = if q = p then b else heldS s q := by
  rw [heldS_eq, heldS_eq, show (addS s p b).waits = s.waits ++ [(p, b)] from rfl, newV_snoc]
  by_cases h : q = p <;> simp [h]
  rfl
/-- all lasts -/
def allS (s : RA) : RA := { s with last := puts (fun _ => true) s.waits s.last s.waits.length, waits := [] }
theorem Up.flush {s : RA} (h : Up s) : flushS s = allS s := by
  unfold flushS
  rw [h.offS, h.spend]
  rfl
theorem newS_up (d n : Nat) : Up (newS d n) := ⟨rfl, rfl⟩
theorem newS_gone (d n : Nat) (x : Int) : goneS (newS d n) x = false := by
  rw [goneS, show (newS d n).gone = List.replicate d false from rfl, List.getD_eq_getElem?_getD, List.getElem?_replicate]
  split <;> rfl
theorem newS_held (d n : Nat) (q : Pl) : heldS (newS d n) q = zeros := rfl
theorem new_all (dn sn : Nat) (hd : 1 ≤ dn ∧ dn ≤ 16) (hs : 1 ≤ sn ∧ sn ≤ 2000) : ∃ s : RA, s.dn = dn ∧ s.sn = sn ∧ Up s ∧ (∀ d, goneS s d = false) ∧ (∀ q, heldS s q = zeros) ∧ (∀ q, lastS s q = zeros) ∧ s.waits = [] ∧ ∀ w, Calls Tryd.prog 15 [vi dn, vi sn].toArray w (Ret fun v w' => (∃ R, v = .tuple #[ptr R, vi 0] ∧ RK (w.heap.size ≤ ·) w' R s) ∧ Chg Nob w w') :=
  ⟨newS dn sn, rfl, rfl, newS_up dn sn, newS_gone dn sn, newS_held dn sn, fun _ => rfl, rfl, fun w => New_calls w hd hs⟩
end Go.Proofs.YtjeldcjchipdgaaDoor
namespace Go.Proofs.YtjeldcjchipdgaaDoor
open Go.RowKit Go.HL
set_option maxRecDepth 100000

/-! calls of a rack that has power -/
theorem RK.grow {A : Nat → Prop} {w w' : World} {R : Nat} {s : RA} (h : RK (fun x => A x ∨ w.heap.size ≤ x) w' R s) (hA : ∀ x, w.heap.size ≤ x → A x) : RK A w' R s := h.mono (fun x hx => hx.elim (fun h => h) (hA x))
end Go.Proofs.YtjeldcjchipdgaaDoor
namespace Go.Proofs.YtjeldcjchipdgaaDoor
open Go.RowKit Go.HL
set_option maxRecDepth 100000

/-! a label's Write -/
/-- behind the first k drives -/
def lwR (s0 : RA) (at_ : Int) (B : List UInt8) : Nat → RA × Nat × Int
  | 0 => (s0, 0, 0)
  | k + 1 =>
    if (lwR s0 at_ B k).2.2 ≠ 0 then lwR s0 at_ B k
    else if writeE (lwR s0 at_ B k).1 k at_ B.length = 0 then (writeS (lwR s0 at_ B k).1 k at_ B, (lwR s0 at_ B k).2.1 + 1, 0)
    else if writeE (lwR s0 at_ B k).1 k at_ B.length = 3 then (writeS (lwR s0 at_ B k).1 k at_ B, (lwR s0 at_ B k).2.1, 0)
    else (writeS (lwR s0 at_ B k).1 k at_ B, 0, writeE (lwR s0 at_ B k).1 k at_ B.length)
theorem lwR_stuck {s0 : RA} {at_ : Int} {B : List UInt8} {k : Nat} (h : (lwR s0 at_ B k).2.2 ≠ 0) (m : Nat) : lwR s0 at_ B (k + m) = lwR s0 at_ B k := by
  induction m with
  | zero => rfl
  | succ m ih => rw [← Nat.add_assoc, lwR, if_pos (by rw [ih]; exact h), ih]
theorem writeS_dn (s : RA) (d a : Int) (b : List UInt8) : (writeS s d a b).dn = s.dn ∧ (writeS s d a b).sn = s.sn ∧ (writeS s d a b).gone = s.gone ∧ (writeS s d a b).waits.length ≤ s.waits.length + 1 := by
  unfold writeS
  split
  · exact ⟨spendS_dn s, spendS_sn s, spendS_gone s, by simp⟩
  · split
    · exact ⟨spendS_dn s, spendS_sn s, spendS_gone s, by rw [spendS_waits]; omega⟩
    · exact ⟨rfl, rfl, rfl, by omega⟩
theorem lwR_dn (s0 : RA) (at_ : Int) (B : List UInt8) (k : Nat) : (lwR s0 at_ B k).1.dn = s0.dn ∧ (lwR s0 at_ B k).1.sn = s0.sn ∧ (lwR s0 at_ B k).1.gone = s0.gone ∧ (lwR s0 at_ B k).1.waits.length ≤ s0.waits.length + k ∧ (lwR s0 at_ B k).2.1 ≤ k := by
  induction k with
  | zero => exact ⟨rfl, rfl, rfl, Nat.le_refl _, Nat.le_refl _⟩
  | succ k ih =>
    obtain ⟨i1, i2, i3, i4, i5⟩ := ih
    obtain ⟨w1, w2, w3, w4⟩ := writeS_dn (lwR s0 at_ B k).1 k at_ B
    rw [lwR]
    split
    · exact ⟨i1, i2, i3, by omega, by omega⟩
    · split
      · exact ⟨by rw [w1, i1], by rw [w2, i2], by rw [w3, i3], by dsimp only; omega, by dsimp only; omega⟩
      · split
        · exact ⟨by rw [w1, i1], by rw [w2, i2], by rw [w3, i3], by dsimp only; omega, by dsimp only; omega⟩
        · exact ⟨by rw [w1, i1], by rw [w2, i2], by rw [w3, i3], by dsimp only; omega, by dsimp only; omega⟩
/-- what a label's Write makes of a rack, and what it answers -/
def lwS (s : RA) (u : UbV) : RA := if 8 < s.sn ∧ encE u = 0 then (lwR s (u.t % 8) (encB u) s.dn).1 else s
def lwN (s : RA) (u : UbV) : Int := if 8 < s.sn ∧ encE u = 0 then (if (lwR s (u.t % 8) (encB u) s.dn).2.2 = 0 then ((lwR s (u.t % 8) (encB u) s.dn).2.1 : Int) else 0) else 0
def lwE (s : RA) (u : UbV) : Int := if ¬ 8 < s.sn then 1 else if encE u ≠ 0 then encE u else if (lwR s (u.t % 8) (encB u) s.dn).2.2 ≠ 0 then (lwR s (u.t % 8) (encB u) s.dn).2.2 else if (lwR s (u.t % 8) (encB u) s.dn).2.1 = 0 then 4 else 0
theorem right_calls {A : Nat → Prop} {w : World} {R : Nat} {s : RA} (h : RK A w R s) : Calls Tryd.prog 42 [ptr R].toArray w (Ret fun v w' => v = .bool (decide (8 < s.sn)) ∧ Chg Nob w w') := by
  have hw := Chg.refl Nob w
  refine Calls.of_WC Tryd.func42 rfl Tryd.ntmps42 (by simp) ?_
  refine WC.seq (WC.region (WL.assign rfl rfl (WL.nil (WX.then_normal (WC.seq (WC.region (WL.move rfl rfl (?_))))))))
  refine WL.call eg_53 rfl rfl (Sectors_calls h) ?_
  rintro v w1 ⟨rfl, k1⟩
  have zs_k1 := k1.size
  replace h := h.pure k1
  replace hw := hw.pure k1
  refine WL.gtr rfl rfl rfl (WL.assign rfl rfl (WL.nil (WX.then_normal (WC.ret (?_)))))
  refine WX.ret1 (.inl rfl) Tryd.results42 rfl ?_
  refine ⟨_, rfl, ?_, hw⟩
  congr 1
  exact decide_eq_decide.2 (by omega)
theorem encE_t {u : UbV} (h : encE u = 0) : rightP u.p ∧ 1 ≤ u.t ∧ secE (uit u) = 0 ∧ (encB u).length = 128 := by
  unfold encE at h
  split at h
  · rename_i hc
    refine ⟨hc.1, hc.2, h, ?_⟩
    rw [encB, if_pos hc, secB_128 h]
  · cases h
theorem lw_right {s : RA} {u : UbV} (h : ¬ 8 < s.sn) : lwS s u = s ∧ lwN s u = 0 ∧ lwE s u = 1 := by
  rw [lwS, lwN, lwE, if_neg (fun x => h x.1), if_neg (fun x => h x.1), if_pos h]
  exact ⟨rfl, rfl, rfl⟩
theorem lw_enc {s : RA} {u : UbV} (h : 8 < s.sn) (hE : encE u ≠ 0) : lwS s u = s ∧ lwN s u = 0 ∧ lwE s u = encE u := by
  rw [lwS, lwN, lwE, if_neg (fun x => hE x.2), if_neg (fun x => hE x.2), if_neg (fun x => x h), if_pos hE]
  exact ⟨rfl, rfl, rfl⟩
theorem lw_stop {s : RA} {u : UbV} {at_ : Int} {B : List UInt8} {k : Nat} (h : 8 < s.sn) (hE : encE u = 0) (ea : at_ = u.t % 8) (eB : B = encB u) (hk : k < s.dn) (h0 : (lwR s at_ B k).2.2 = 0)
    (h1 : writeE (lwR s at_ B k).1 k at_ B.length ≠ 0) (h2 : writeE (lwR s at_ B k).1 k at_ B.length ≠ 3) : lwS s u = writeS (lwR s at_ B k).1 k at_ B ∧ lwN s u = 0 ∧ lwE s u = writeE (lwR s at_ B k).1 k at_ B.length := by
  have e1 : lwR s at_ B (k + 1) = (writeS (lwR s at_ B k).1 k at_ B, 0, writeE (lwR s at_ B k).1 k at_ B.length) := by
    rw [lwR, if_neg (fun h9 => h9 h0), if_neg h1, if_neg h2]
  have e2 : lwR s at_ B s.dn = lwR s at_ B (k + 1) := by
    have := lwR_stuck (s0 := s) (at_ := at_) (B := B) (k := k + 1) (by rw [e1]; exact h1) (s.dn - (k + 1))
    rw [show k + 1 + (s.dn - (k + 1)) = s.dn from by omega] at this
    exact this
  unfold lwS lwN lwE
  rw [← ea, ← eB, e2, e1]
  simp [h, hE, h1]
theorem lw_end {s : RA} {u : UbV} {at_ : Int} {B : List UInt8} (h : 8 < s.sn) (hE : encE u = 0) (ea : at_ = u.t % 8) (eB : B = encB u) (h0 : (lwR s at_ B s.dn).2.2 = 0) :
    lwS s u = (lwR s at_ B s.dn).1 ∧ lwN s u = ((lwR s at_ B s.dn).2.1 : Int) ∧ lwE s u = if (lwR s at_ B s.dn).2.1 = 0 then 4 else 0 := by
  unfold lwS lwN lwE
  rw [← ea, ← eB]
  simp [h, hE, h0]
set_option maxHeartbeats 2000000 in
theorem lWrite_in {A : Nat → Prop} {w : World} {R : Nat} {s : RA} (h : RK A w R s) (hA : ∀ x, A x → x < w.heap.size) (u : UbV) (hu : WfU u) (hn : s.waits.length ≤ 90000) :
    Calls Tryd.prog 16 [ptr R, .agg (eub.f u).toArray].toArray w (Ret fun v w' => v = .tuple #[vi (lwN s u), vi (lwE s u)] ∧ RK (fun x => A x ∨ w.heap.size ≤ x) w' R (lwS s u) ∧ Chg A w w') := by
  have hw := Chg.refl A w
  have hdn := h.ok.dn
  have lR := hA R h.aR
  obtain ⟨B, eB⟩ : ∃ B, B = encB u := ⟨_, rfl⟩
  refine Calls.of_WC Tryd.func16 rfl Tryd.ntmps16 (by simp) ?_
  refine WC.seq (WC.region (?_))
  refine WL.box rfl rfl ?_
  intro g_1 w_1 hge_1 hlt_1 hb_1 k_1
  have zs_k_1 := k_1.size
  replace h := h.pure k_1
  replace hw := hw.pure k_1
  refine WL.assign rfl rfl (WL.assign rfl rfl (WL.nil (WX.then_normal (WC.seq (WC.seq (WC.region (WL.move rfl rfl (?_))))))))
  refine WL.call eg_42 rfl rfl (right_calls h) ?_
  rintro v w1 ⟨rfl, k1⟩
  have zs_k1 := k1.size
  replace h := h.pure k1
  replace hw := hw.pure k1
  replace hb_1 := hb_1.pure k1
  by_cases h12 : 8 < s.sn
  ·
    rw [decide_eq_true h12]
    refine WL.not rfl rfl (WL.nil (WX.then_normal (WC.cond_false rfl (WC.skip (WX.then_normal (WC.seq (WC.region (?_))))))))
    have hb1 : Blk _ g_1 25 (eub.f u) := hb_1
    refine WL.loads (eub.f u) Tryd.isAgg25 Tryd.sizeOf25 rfl (fun j v hj => by rw [Nat.zero_add]; exact hb1.cell hj) rfl rfl ?_
    refine WL.call eg_12 rfl rfl (encU_calls u _ hu) ?_
    rintro v w2 ⟨⟨ao, c, rfl, hq⟩, k2⟩
    rw [← eB] at hq ⊢
    have zs_k2 := k2.size
    replace h := h.pure k2
    replace hw := hw.pure k2
    replace hb1 := hb1.pure k2
    replace hq := hq.lt
    refine WL.move rfl rfl (WL.extract rfl rfl rfl (WL.extract rfl rfl rfl (WL.assign rfl rfl (WL.assign rfl rfl (WL.nil (WX.then_normal (WC.seq (?_))))))))
    refine WC.seq (WC.region (WL.move rfl rfl (?_)))
    refine WL.neq? rfl rfl rfl (fun h20 => ?_) (fun h20 => ?_)
    ·
      refine WL.nil (WX.then_normal (WC.cond_true rfl (WC.seq (WC.region (WL.move rfl rfl (WL.assign rfl rfl (WL.assign rfl rfl (?_))))))))
      refine WL.nil (WX.then_normal (WC.ret (WX.then_ret (?_))))
      refine WX.ret2 (.inl rfl) Tryd.results16 rfl rfl ?_
      first
        | (have hz : ¬ 8 < s.sn := h12
           obtain ⟨e1, e2, e3⟩ := lw_right (u := u) hz
           rw [e1, e2, e3]
           exact ⟨_, rfl, rfl, h.mono (fun x hx => .inl hx), hw⟩)
        | (have hz : encE u ≠ 0 := h20
           obtain ⟨e1, e2, e3⟩ := lw_enc h12 hz
           rw [e1, e2, e3]
           exact ⟨_, rfl, rfl, h.mono (fun x hx => .inl hx), hw⟩)
        | (have hz : writeE (lwR s at_ B k).1 k at_ B.length ≠ 0 := h37
           have hz2 : writeE (lwR s at_ B k).1 k at_ B.length ≠ 3 := h41
           obtain ⟨e1, e2, e3⟩ := lw_stop h12 h20 eat eB (k := k) (by omega) hk0 hz hz2
           rw [e1, e2, e3]
           exact ⟨_, rfl, rfl, h5.mono (fun x hx => by rcases hx with h6 | h6; exact .inl h6; right; omega), hw5⟩)
        | (obtain rfl : k = s.dn := by omega
           obtain ⟨e1, e2, e3⟩ := lw_end h12 h20 eat eB hk0
           have hmo := h.mono (A' := fun x => A x ∨ w.heap.size ≤ x) (fun x hx => by rcases hx with h6 | h6; exact .inl h6; right; omega)
           by_cases hc : (lwR s at_ B s.dn).2.1 = 0
           ·
             rw [e1, e2, e3, if_pos hc, hc]
             first
               | exact ⟨_, rfl, rfl, hmo, hw⟩
               | (exfalso; omega)
           ·
             rw [e1, e2, e3, if_neg hc]
             first
               | exact ⟨_, rfl, rfl, hmo, hw⟩
               | (exfalso; omega))
    ·
      refine WL.nil (WX.then_normal (WC.cond_false rfl (WC.skip (WX.then_normal (WC.seq (WC.region (WL.assign rfl rfl (?_))))))))
      refine WL.nil (WX.then_normal (WC.seq (WC.seq (WC.region (WL.move rfl rfl (?_))))))
      refine WL.call eg_43 rfl rfl (Drives_calls h) ?_
      rintro v w4 ⟨rfl, k4⟩
      have zs_k4 := k4.size
      replace h := h.pure k4
      replace hw := hw.pure k4
      replace hb1 := hb1.pure k4
      replace hq := hq.pure k4
      refine WL.move rfl rfl (WL.nil (WX.then_normal (WC.block (?_))))
      obtain ⟨t1, t2, t3, t4⟩ := encE_t h20
      rw [← eB] at t4
      obtain ⟨n0, en0⟩ : ∃ n0, n0 = w2.heap.size := ⟨_, rfl⟩
      obtain ⟨at_, eat⟩ : ∃ a : Int, a = u.t % 8 := ⟨_, rfl⟩
      have hat : 0 ≤ at_ ∧ at_ < 8 := by omega
      refine WC.loop (σ := Nat) (fun k => [(0, ptr R), (3, ptr g_1), (6, .slice ao B.length c), (8, vi ((lwR s at_ B k).2.1 : Int)), (23, vi (s.dn : Int)), (24, vi (k : Int))])
        (fun k w' => k ≤ s.dn ∧ (lwR s at_ B k).2.2 = 0 ∧ n0 ≤ w'.heap.size ∧ Blk w' g_1 25 (eub.f u) ∧ Row (fun x => w.heap.size ≤ x ∧ x < n0) w' 5 eb ao c B ∧ RK (fun x => A x ∨ n0 ≤ x) w' R (lwR s at_ B k).1 ∧ Chg A w w') (fun k => s.dn - k) 0 ⟨rfl, rfl, rfl, rfl, rfl, rfl, trivial⟩
        ⟨Nat.zero_le _, rfl, by omega, hb1, hq.mono (fun x hx => by omega), h.mono (fun x hx => .inl hx), hw⟩ ?_
      clear hb1 hq h hw
      rintro k w3 ⟨hk, hk0, hn3, hb1, hq, h, hw⟩
      obtain ⟨d1, d2, d3, d4, d5⟩ := lwR_dn s at_ B k
      refine WC.seq (WC.region (?_))
      refine WL.lss? rfl rfl rfl (fun h25 => ?_) (fun h25 => ?_)
      ·
        refine WL.nil (WX.then_normal (WC.seq (WC.cond_true rfl (WC.skip (WX.then_normal (WC.seq (WC.block (?_))))))))
        refine WC.seq (WC.region (WL.move rfl rfl (WL.assign rfl rfl (WL.nil (WX.then_normal (WC.seq (WC.region (?_))))))))
        refine WL.move rfl rfl (WL.move rfl rfl (WL.fieldAddr (fld_25_0) rfl rfl (WL.loadB Tryd.isAgg3 hb1 rfl rfl rfl (WL.rem64i rfl rfl (by constructor <;> omega) rfl (WL.move rfl rfl (?_))))))
        have hn9 : (lwR s at_ B k).1.waits.length ≤ 100000 := by omega
        have hR0 := hA R
        have aR0 : R < w.heap.size := lR
        have hq2 : RSl (fun x => w.heap.size ≤ x ∧ x < n0) w3 eb ao c B := hq.rsl
        rw [← eat]
        refine WL.call eg_44 rfl rfl (Write_calls h k at_ hq2 (fun x h1 h2 => absurd (h2 ▸ h1.1) (Nat.not_le.2 aR0)) hn9) ?_
        rintro v w5 ⟨rfl, h5, k5⟩
        have z5 := k5.size
        replace h5 : RK (fun x => A x ∨ n0 ≤ x) w5 R (writeS (lwR s at_ B k).1 k at_ B) := h5.mono (fun x hx => by rcases hx with h6 | h6; exact h6; right; omega)
        have hq5 := hq.chg k5 (fun b h1 h2 h3 => by rcases h3 with h4 | h4; have := hA b h4; omega; omega)
        have hb5 := hb1.chg k5 (fun h3 => by rcases h3 with h4 | h4; have := hA _ h4; omega; omega)
        have hw5 : Chg A w w5 := hw.trans k5 (fun x h1 h2 => by rcases h2 with h4 | h4; exact h4; exfalso; omega)
        refine WL.assign rfl rfl (WL.nil (WX.then_normal (WC.seq (WC.region (WL.move rfl rfl (WL.nil (WX.then_normal (?_))))))))
        refine WC.block (WC.seq (WC.region (?_)))
        refine WL.eql? rfl rfl rfl (fun h37 => ?_) (fun h37 => ?_)
        ·
          refine WL.assign rfl rfl (WL.nil (WX.then_normal (WC.cond_true rfl (WC.region (WL.move rfl rfl (WL.add64 rfl rfl (by omega) rfl (WL.assign rfl rfl (?_))))))))
          refine WL.nil (WX.block_normal (WX.block_normal (WX.then_normal (WC.region (WL.add64 rfl rfl (by omega) rfl (WL.move rfl rfl (WL.nil (?_))))))))
          first
            | (have hz : writeE (lwR s at_ B k).1 k at_ B.length = 0 := h37
               have e1 : lwR s at_ B (k + 1) = (writeS (lwR s at_ B k).1 k at_ B, (lwR s at_ B k).2.1 + 1, 0) := by
                 rw [lwR, if_neg (fun h9 => h9 hk0), if_pos hz]
               have f1 : (lwR s at_ B (k + 1)).2.2 = 0 := by rw [e1]
               have f2 : RK (fun x => A x ∨ n0 ≤ x) w5 R (lwR s at_ B (k + 1)).1 := by rw [e1]; exact h5
               have f3 : ((lwR s at_ B (k + 1)).2.1 : Int) = ((lwR s at_ B k).2.1 : Int) + 1 := by rw [e1]; rfl
               refine WX.loop_next (k + 1) ⟨rfl, rfl, rfl, ?_, rfl, rfl, trivial⟩ ⟨by omega, f1, by omega, hb5, hq5, f2, hw5⟩ (by show _ - _ < _ - _; omega)
               rw [f3]
               rfl)
            | (have hz : writeE (lwR s at_ B k).1 k at_ B.length ≠ 0 := h37
               have hz2 : writeE (lwR s at_ B k).1 k at_ B.length = 3 := h41
               have e1 : lwR s at_ B (k + 1) = (writeS (lwR s at_ B k).1 k at_ B, (lwR s at_ B k).2.1, 0) := by
                 rw [lwR, if_neg (fun h9 => h9 hk0), if_neg hz, if_pos hz2]
               have f1 : (lwR s at_ B (k + 1)).2.2 = 0 := by rw [e1]
               have f2 : RK (fun x => A x ∨ n0 ≤ x) w5 R (lwR s at_ B (k + 1)).1 := by rw [e1]; exact h5
               have f3 : ((lwR s at_ B (k + 1)).2.1 : Int) = ((lwR s at_ B k).2.1 : Int) := by rw [e1]
               refine WX.loop_next (k + 1) ⟨rfl, rfl, rfl, ?_, rfl, rfl, trivial⟩ ⟨by omega, f1, by omega, hb5, hq5, f2, hw5⟩ (by show _ - _ < _ - _; omega)
               rw [f3]
               rfl)
        ·
          refine WL.assign rfl rfl (WL.nil (WX.then_normal (WC.cond_false rfl (WC.seq (WC.region (?_))))))
          refine WL.eql? rfl rfl rfl (fun h41 => ?_) (fun h41 => ?_)
          ·
            refine WL.assign rfl rfl (WL.nil (WX.then_normal (WC.cond_true rfl (WC.skip (WX.block_normal (WX.block_normal (WX.then_normal (?_))))))))
            refine WC.region (WL.add64 rfl rfl (by omega) rfl (WL.move rfl rfl (WL.nil (?_))))
            first
              | (have hz : writeE (lwR s at_ B k).1 k at_ B.length = 0 := h37
                 have e1 : lwR s at_ B (k + 1) = (writeS (lwR s at_ B k).1 k at_ B, (lwR s at_ B k).2.1 + 1, 0) := by
                   rw [lwR, if_neg (fun h9 => h9 hk0), if_pos hz]
                 have f1 : (lwR s at_ B (k + 1)).2.2 = 0 := by rw [e1]
                 have f2 : RK (fun x => A x ∨ n0 ≤ x) w5 R (lwR s at_ B (k + 1)).1 := by rw [e1]; exact h5
                 have f3 : ((lwR s at_ B (k + 1)).2.1 : Int) = ((lwR s at_ B k).2.1 : Int) + 1 := by rw [e1]; rfl
                 refine WX.loop_next (k + 1) ⟨rfl, rfl, rfl, ?_, rfl, rfl, trivial⟩ ⟨by omega, f1, by omega, hb5, hq5, f2, hw5⟩ (by show _ - _ < _ - _; omega)
                 rw [f3]
                 rfl)
              | (have hz : writeE (lwR s at_ B k).1 k at_ B.length ≠ 0 := h37
                 have hz2 : writeE (lwR s at_ B k).1 k at_ B.length = 3 := h41
                 have e1 : lwR s at_ B (k + 1) = (writeS (lwR s at_ B k).1 k at_ B, (lwR s at_ B k).2.1, 0) := by
                   rw [lwR, if_neg (fun h9 => h9 hk0), if_neg hz, if_pos hz2]
                 have f1 : (lwR s at_ B (k + 1)).2.2 = 0 := by rw [e1]
                 have f2 : RK (fun x => A x ∨ n0 ≤ x) w5 R (lwR s at_ B (k + 1)).1 := by rw [e1]; exact h5
                 have f3 : ((lwR s at_ B (k + 1)).2.1 : Int) = ((lwR s at_ B k).2.1 : Int) := by rw [e1]
                 refine WX.loop_next (k + 1) ⟨rfl, rfl, rfl, ?_, rfl, rfl, trivial⟩ ⟨by omega, f1, by omega, hb5, hq5, f2, hw5⟩ (by show _ - _ < _ - _; omega)
                 rw [f3]
                 rfl)
          ·
            refine WL.assign rfl rfl (WL.nil (WX.then_normal (WC.cond_false rfl (WC.seq (WC.region (WL.move rfl rfl (WL.assign rfl rfl (?_))))))))
            refine WL.assign rfl rfl (WL.nil (WX.then_normal (WC.ret (WX.block_ret (WX.block_ret (WX.then_ret (WX.then_ret (?_))))))))
            refine WX.block_ret (WX.then_ret (?_))
            refine WX.ret2 (.inl rfl) Tryd.results16 rfl rfl ?_
            first
              | (have hz : ¬ 8 < s.sn := h12
                 obtain ⟨e1, e2, e3⟩ := lw_right (u := u) hz
                 rw [e1, e2, e3]
                 exact ⟨_, rfl, rfl, h.mono (fun x hx => .inl hx), hw⟩)
              | (have hz : encE u ≠ 0 := h20
                 obtain ⟨e1, e2, e3⟩ := lw_enc h12 hz
                 rw [e1, e2, e3]
                 exact ⟨_, rfl, rfl, h.mono (fun x hx => .inl hx), hw⟩)
              | (have hz : writeE (lwR s at_ B k).1 k at_ B.length ≠ 0 := h37
                 have hz2 : writeE (lwR s at_ B k).1 k at_ B.length ≠ 3 := h41
                 obtain ⟨e1, e2, e3⟩ := lw_stop h12 h20 eat eB (k := k) (by omega) hk0 hz hz2
                 rw [e1, e2, e3]
                 exact ⟨_, rfl, rfl, h5.mono (fun x hx => by rcases hx with h6 | h6; exact .inl h6; right; omega), hw5⟩)
              | (obtain rfl : k = s.dn := by omega
                 obtain ⟨e1, e2, e3⟩ := lw_end h12 h20 eat eB hk0
                 have hmo := h.mono (A' := fun x => A x ∨ w.heap.size ≤ x) (fun x hx => by rcases hx with h6 | h6; exact .inl h6; right; omega)
                 by_cases hc : (lwR s at_ B s.dn).2.1 = 0
                 ·
                   rw [e1, e2, e3, if_pos hc, hc]
                   first
                     | exact ⟨_, rfl, rfl, hmo, hw⟩
                     | (exfalso; omega)
                 ·
                   rw [e1, e2, e3, if_neg hc]
                   first
                     | exact ⟨_, rfl, rfl, hmo, hw⟩
                     | (exfalso; omega))
      ·
        refine WL.nil (WX.then_normal (WC.seq (WC.cond_false rfl (WC.exit (WX.then_exit (WX.then_exit (WX.block_here (?_))))))))
        refine WX.then_normal (WC.seq (WC.seq (WC.region (WL.move rfl rfl (?_)))))
        refine WL.eql? rfl rfl rfl (fun h44 => ?_) (fun h44 => ?_)
        ·
          refine WL.nil (WX.then_normal (WC.cond_true rfl (WC.seq (WC.region (WL.assign rfl rfl (WL.assign rfl rfl (WL.nil (?_))))))))
          refine WX.then_normal (WC.ret (WX.then_ret (?_)))
          refine WX.ret2 (.inl rfl) Tryd.results16 rfl rfl ?_
          first
            | (have hz : ¬ 8 < s.sn := h12
               obtain ⟨e1, e2, e3⟩ := lw_right (u := u) hz
               rw [e1, e2, e3]
               exact ⟨_, rfl, rfl, h.mono (fun x hx => .inl hx), hw⟩)
            | (have hz : encE u ≠ 0 := h20
               obtain ⟨e1, e2, e3⟩ := lw_enc h12 hz
               rw [e1, e2, e3]
               exact ⟨_, rfl, rfl, h.mono (fun x hx => .inl hx), hw⟩)
            | (have hz : writeE (lwR s at_ B k).1 k at_ B.length ≠ 0 := h37
               have hz2 : writeE (lwR s at_ B k).1 k at_ B.length ≠ 3 := h41
               obtain ⟨e1, e2, e3⟩ := lw_stop h12 h20 eat eB (k := k) (by omega) hk0 hz hz2
               rw [e1, e2, e3]
               exact ⟨_, rfl, rfl, h5.mono (fun x hx => by rcases hx with h6 | h6; exact .inl h6; right; omega), hw5⟩)
            | (obtain rfl : k = s.dn := by omega
               obtain ⟨e1, e2, e3⟩ := lw_end h12 h20 eat eB hk0
               have hmo := h.mono (A' := fun x => A x ∨ w.heap.size ≤ x) (fun x hx => by rcases hx with h6 | h6; exact .inl h6; right; omega)
               by_cases hc : (lwR s at_ B s.dn).2.1 = 0
               ·
                 rw [e1, e2, e3, if_pos hc, hc]
                 first
                   | exact ⟨_, rfl, rfl, hmo, hw⟩
                   | (exfalso; omega)
               ·
                 rw [e1, e2, e3, if_neg hc]
                 first
                   | exact ⟨_, rfl, rfl, hmo, hw⟩
                   | (exfalso; omega))
        ·
          refine WL.nil (WX.then_normal (WC.cond_false rfl (WC.skip (WX.then_normal (WC.seq (WC.region (WL.move rfl rfl (?_))))))))
          refine WL.assign rfl rfl (WL.assign rfl rfl (WL.nil (WX.then_normal (WC.ret (?_)))))
          refine WX.ret2 (.inl rfl) Tryd.results16 rfl rfl ?_
          first
            | (have hz : ¬ 8 < s.sn := h12
               obtain ⟨e1, e2, e3⟩ := lw_right (u := u) hz
               rw [e1, e2, e3]
               exact ⟨_, rfl, rfl, h.mono (fun x hx => .inl hx), hw⟩)
            | (have hz : encE u ≠ 0 := h20
               obtain ⟨e1, e2, e3⟩ := lw_enc h12 hz
               rw [e1, e2, e3]
               exact ⟨_, rfl, rfl, h.mono (fun x hx => .inl hx), hw⟩)
            | (have hz : writeE (lwR s at_ B k).1 k at_ B.length ≠ 0 := h37
               have hz2 : writeE (lwR s at_ B k).1 k at_ B.length ≠ 3 := h41
               obtain ⟨e1, e2, e3⟩ := lw_stop h12 h20 eat eB (k := k) (by omega) hk0 hz hz2
               rw [e1, e2, e3]
               exact ⟨_, rfl, rfl, h5.mono (fun x hx => by rcases hx with h6 | h6; exact .inl h6; right; omega), hw5⟩)
            | (obtain rfl : k = s.dn := by omega
               obtain ⟨e1, e2, e3⟩ := lw_end h12 h20 eat eB hk0
               have hmo := h.mono (A' := fun x => A x ∨ w.heap.size ≤ x) (fun x hx => by rcases hx with h6 | h6; exact .inl h6; right; omega)
               by_cases hc : (lwR s at_ B s.dn).2.1 = 0
               ·
                 rw [e1, e2, e3, if_pos hc, hc]
                 first
                   | exact ⟨_, rfl, rfl, hmo, hw⟩
                   | (exfalso; omega)
               ·
                 rw [e1, e2, e3, if_neg hc]
                 first
                   | exact ⟨_, rfl, rfl, hmo, hw⟩
                   | (exfalso; omega))
  ·
    rw [decide_eq_false h12]
    refine WL.not rfl rfl (WL.nil (WX.then_normal (WC.cond_true rfl (WC.seq (WC.region (WL.assign rfl rfl (WL.assign rfl rfl (?_))))))))
    refine WL.nil (WX.then_normal (WC.ret (WX.then_ret (?_))))
    refine WX.ret2 (.inl rfl) Tryd.results16 rfl rfl ?_
    first
      | (have hz : ¬ 8 < s.sn := h12
         obtain ⟨e1, e2, e3⟩ := lw_right (u := u) hz
         rw [e1, e2, e3]
         exact ⟨_, rfl, rfl, h.mono (fun x hx => .inl hx), hw⟩)
      | (have hz : encE u ≠ 0 := h20
         obtain ⟨e1, e2, e3⟩ := lw_enc h12 hz
         rw [e1, e2, e3]
         exact ⟨_, rfl, rfl, h.mono (fun x hx => .inl hx), hw⟩)
      | (have hz : writeE (lwR s at_ B k).1 k at_ B.length ≠ 0 := h37
         have hz2 : writeE (lwR s at_ B k).1 k at_ B.length ≠ 3 := h41
         obtain ⟨e1, e2, e3⟩ := lw_stop h12 h20 eat eB (k := k) (by omega) hk0 hz hz2
         rw [e1, e2, e3]
         exact ⟨_, rfl, rfl, h5.mono (fun x hx => by rcases hx with h6 | h6; exact .inl h6; right; omega), hw5⟩)
      | (obtain rfl : k = s.dn := by omega
         obtain ⟨e1, e2, e3⟩ := lw_end h12 h20 eat eB hk0
         have hmo := h.mono (A' := fun x => A x ∨ w.heap.size ≤ x) (fun x hx => by rcases hx with h6 | h6; exact .inl h6; right; omega)
         by_cases hc : (lwR s at_ B s.dn).2.1 = 0
         ·
           rw [e1, e2, e3, if_pos hc, hc]
           first
             | exact ⟨_, rfl, rfl, hmo, hw⟩
             | (exfalso; omega)
         ·
           rw [e1, e2, e3, if_neg hc]
           first
             | exact ⟨_, rfl, rfl, hmo, hw⟩
             | (exfalso; omega))
theorem lWrite_calls {A : Nat → Prop} {w : World} {R : Nat} {s : RA} (h : RK A w R s) (u : UbV) (hu : WfU u) (hn : s.waits.length ≤ 90000) :
    Calls Tryd.prog 16 [ptr R, .agg (eub.f u).toArray].toArray w (Ret fun v w' => v = .tuple #[vi (lwN s u), vi (lwE s u)] ∧ RK (fun x => A x ∨ w.heap.size ≤ x) w' R (lwS s u) ∧ Chg A w w') := by
  refine (lWrite_in h.old (fun x hx => hx.2) u hu hn).mono ?_
  rintro e w' ⟨v, rfl, rfl, hR, k⟩
  exact ⟨_, rfl, rfl, hR.mono (fun x hx => hx.elim (fun h => .inl h.1) .inr), k.mono (fun x _ hx => hx.1)⟩
end Go.Proofs.YtjeldcjchipdgaaDoor
namespace Go.Proofs.YtjeldcjchipdgaaDoor
open Go.RowKit Go.HL
set_option maxRecDepth 100000

/-! the records of a drive -/
theorem Blk.eqc {w : World} {g : Nat} {T : TypeId} {cs cs' : List Value} (h : Blk w g T cs) (e : cs = cs') : Blk w g T cs' := e ▸ h
theorem decU_t {b : List UInt8} (h : decEr b = 0) : 1 ≤ (decV b).t := by
  unfold decEr at h
  unfold decV
  cases hd : decU b with
  | none => rw [hd] at h; cases h
  | some u =>
    unfold decU at hd
    split at hd
    · split at hd
      · rename_i hc
        injection hd with hd
        subst hd
        exact hc.2.2.1
      · cases hd
    · cases hd
def slotU (s : RA) (d : Int) (a : Nat) : UbV := if decEr (heldS s (d, a)) = 0 ∧ (decV (heldS s (d, a))).t % 8 = a then decV (heldS s (d, a)) else ⟨-1, zeroP⟩
def errD (s : RA) (d : Int) : Int := if goneS s d = true then 3 else if s.off = true then 16 else 0
def outK (s : RA) (d : Int) (k : Nat) : List UbV := (List.range 8).map fun i => if i < k then slotU s d i else zeroU
def wholeL (s : RA) (d : Int) : List UbV := if errD s d = 0 then outK s d 8 else []
theorem outK_len (s : RA) (d : Int) (k : Nat) : (outK s d k).length = 8 := by simp [outK]
theorem outK_0 (s : RA) (d : Int) : outK s d 0 = List.replicate 8 zeroU := by rfl
theorem outK_set (s : RA) (d : Int) {k : Nat} (hk : k < 8) : (outK s d k).set k (slotU s d k) = outK s d (k + 1) := by
  apply List.ext_getElem?
  intro i
  simp only [outK, List.getElem?_set, List.length_map, List.length_range, List.getElem?_map]
  by_cases h : k = i
  · subst h
    simp [hk]
  · by_cases hi : i < 8
    · simp only [h, if_false, List.getElem?_range hi, Option.map_some]
      have : (i < k) ↔ (i < k + 1) := by omega
      simp only [this]
    · simp [h, hi]
theorem errS_D {s : RA} {d : Int} (hd : isS s d) (h8 : 8 < s.sn) {a : Nat} (ha : a < 8) : errS s d a = errD s d := by
  unfold errS errD
  rw [if_neg (fun h => h ⟨hd.1, hd.2, by omega, by omega⟩)]
set_option maxHeartbeats 2000000 in
theorem whole_calls {A : Nat → Prop} {w : World} {R : Nat} {s : RA} (h : RK A w R s) {d : Int} (hd : isS s d) (h8 : 8 < s.sn) :
    Calls Tryd.prog 50 [ptr R, vi d].toArray w (Ret fun v w' => (∃ (ao : Option Addr) (c : Nat), v = .tuple #[.slice ao (wholeL s d).length c, vi (errD s d)] ∧ Row (w.heap.size ≤ ·) w' 25 eub ao c (wholeL s d)) ∧ Chg Nob w w') := by
  have hw := Chg.refl Nob w
  replace h : RK (fun x => x < w.heap.size) w R s := h.old.mono (fun x hx => hx.2)
  refine Calls.of_WC Tryd.func50 rfl Tryd.ntmps50 (by simp) ?_
  refine WC.seq (WC.region (WL.assign rfl rfl (WL.assign rfl rfl (WL.nil (WX.then_normal (WC.seq (WC.region (?_))))))))
  refine WL.make (e := eub) zeroU 8 8 Tryd.underlying98 info_25 rfl rfl rfl ⟨rfl, rfl, Nat.le_refl _⟩ (by constructor <;> omega) rfl ?_
  intro g0 w0 hO k0 z0 eg0
  rw [← outK_0 s d] at hO ⊢
  rw [outK_len]
  have zs_k0 := k0.size
  replace h := h.pure k0
  replace hw := hw.pure k0
  refine WL.assign rfl rfl (WL.nil (WX.then_normal (WC.seq (WC.seq (WC.region (WL.move rfl rfl (WL.len Tryd.underlying98 rfl rfl (?_))))))))
  refine WL.move rfl rfl (WL.nil (WX.then_normal (WC.block (?_))))
  refine WC.loop (σ := Nat) (fun k => [(0, ptr R), (1, vi d), (6, .slice (some ⟨g0, 0, none⟩) 8 8), (13, vi 8), (14, vi (k : Int))])
    (fun k w' => k ≤ 8 ∧ (0 < k → errD s d = 0) ∧ Row (fun x => x = g0) w' 25 eub (some ⟨g0, 0, none⟩) 8 (outK s d k) ∧ RK (fun x => x < w.heap.size) w' R s ∧ Chg Nob w w') (fun k => 8 - k) 0 ⟨rfl, rfl, rfl, rfl, rfl, trivial⟩
    ⟨Nat.zero_le _, fun h9 => absurd h9 (Nat.lt_irrefl _), ⟨fun a ea => by injection ea with ea; subst ea; rfl, hO.own⟩, h, hw⟩ ?_
  clear hO h hw
  rintro k w1 ⟨hk, hE, hO, h, hw⟩
  have zw := hw.size
  have lg0 : g0 < w1.heap.size := hO.own.lt _ rfl
  refine WC.seq (WC.region (?_))
  refine WL.lss? rfl rfl rfl (fun h15 => ?_) (fun h15 => ?_)
  ·
    refine WL.nil (WX.then_normal (WC.seq (WC.cond_true rfl (WC.skip (WX.then_normal (WC.seq (WC.block (?_))))))))
    refine WC.seq (WC.region (WL.move rfl rfl (WL.assign rfl rfl (WL.nil (WX.then_normal (WC.seq (WC.region (?_))))))))
    refine WL.move rfl rfl (WL.move rfl rfl (WL.move rfl rfl (?_)))
    refine WL.call eg_27 rfl rfl (Read_calls h d k) ?_
    rintro v w2 ⟨⟨r, e, rfl, he, hx, -, hq⟩, k2⟩
    rw [errS_D hd h8 (by omega)] at he
    have zs_k2 := k2.size
    replace hO := hO.pure k2
    replace h := h.pure k2
    replace hw := hw.pure k2
    replace hq := hq.lt
    refine WL.move rfl rfl (WL.extract rfl rfl rfl (WL.extract rfl rfl rfl (WL.assign rfl rfl (WL.assign rfl rfl (WL.nil (WX.then_normal (WC.seq (?_))))))))
    refine WC.seq (WC.region (WL.move rfl rfl (?_)))
    refine WL.neq? rfl rfl rfl (fun h25 => ?_) (fun h25 => ?_)
    ·
      refine WL.nil (WX.then_normal (WC.cond_true rfl (WC.seq (WC.region (WL.move rfl rfl (WL.assign rfl rfl (WL.assign rfl rfl (?_))))))))
      refine WL.nil (WX.then_normal (WC.ret (WX.then_ret (WX.block_ret (WX.then_ret (WX.then_ret (WX.block_ret (?_))))))))
      refine WX.then_ret (?_)
      refine WX.ret2 (.inl rfl) Tryd.results50 rfl rfl ?_
      first
        | (have hz : e ≠ 0 := h25
           have hl : wholeL s d = [] := by rw [wholeL, if_neg (by rw [← he]; exact hz)]
           refine ⟨_, rfl, ⟨none, 0, ?_, ?_⟩, hw⟩
           ·
             rw [hl, ← he]
             rfl
           ·
             rw [hl]
             exact Row.nil _ _ _ _)
        | (have h0 := hE (by omega)
           have hk8 : k = 8 := by omega
           have hl : wholeL s d = outK s d k := by rw [wholeL, if_pos h0, hk8]
           refine ⟨_, rfl, ⟨some ⟨g0, 0, none⟩, 8, ?_, ?_⟩, hw⟩
           ·
             rw [hl, outK_len, h0]
           ·
             rw [hl]
             exact hO.mono (fun x hx => by omega))
    ·
      refine WL.nil (WX.then_normal (WC.cond_false rfl (WC.skip (WX.then_normal (WC.seq (WC.region (WL.move rfl rfl (?_))))))))
      have hxs := hx (by omega)
      have hxl : r.xs.length = 128 := by rw [hxs]; exact heldS_len h.ok _
      have hq2 := hq.rsl.old
      refine WL.call eg_14 rfl rfl (decU_calls hq2 (by omega)) ?_
      rintro v w3 ⟨rfl, k3⟩
      rw [hxs]
      have zs_k3 := k3.size
      replace hO := hO.pure k3
      replace h := h.pure k3
      replace hw := hw.pure k3
      replace hq := hq.pure k3
      refine WL.move rfl rfl (WL.extract rfl rfl rfl (WL.extract rfl rfl rfl (?_)))
      refine WL.alloc Tryd.zeroValue25 rfl ?_
      intro g_1 w_1 hge_1 hlt_1 hb_1 k_1
      have zs_k_1 := k_1.size
      replace hO := hO.pure k_1
      replace h := h.pure k_1
      replace hw := hw.pure k_1
      replace hq := hq.pure k_1
      refine WL.stores Tryd.sizeOf25 hb_1 rfl rfl (by rfl) (by exact Enc.one _ _) (by exact Nat.le_of_ble_eq_true rfl) rfl ?_
      intro w_2 hs_2 hn_2 k_2
      have zs_k_2 := k_2.size
      replace hO := hO.chg k_2 (by intro b h1 h2 h3; have h4 : _ = _ := h3; (try dsimp only at h2); exfalso; omega)
      replace h := h.chg k_2 (by intro b h1 h2 h3; have h4 : _ = _ := h3; (try dsimp only at h2); exfalso; omega)
      replace hw := hw.chg k_2 (by intro x h1 h2; have h3 : _ = _ := h2; exfalso; omega)
      replace hq := hq.chg k_2 (by intro b h1 h2 h3; have h4 : _ = _ := h3; (try dsimp only at h2); exfalso; omega)
      replace hb_1 := hn_2
      refine WL.assign rfl rfl (WL.nil (WX.then_normal (WC.seq (WC.seq (WC.region (WL.move rfl rfl (?_)))))))
      refine WL.neq? rfl rfl rfl (fun h33 => ?_) (fun h33 => ?_)
      ·
        refine WL.move rfl rfl (WL.pass rfl rfl rfl rfl (WL.pass rfl rfl rfl rfl (WL.pass rfl rfl rfl rfl (WL.pass rfl rfl rfl rfl (WL.pass rfl rfl rfl rfl (WL.pickT rfl rfl rfl (WL.nil (?_))))))))
        refine WX.then_normal (WC.cond_true rfl (WC.region (WL.bld rfl (bld_25_0 _) rfl (?_))))
        refine WL.stores Tryd.sizeOf25 hb_1 rfl rfl (by simp; done) (by simp [Value.oneCell']; done) (by simp [Value.cells]; omega) rfl ?_
        intro w_3 hs_3 hn_3 k_3
        have zs_k_3 := k_3.size
        replace hO := hO.chg k_3 (by intro b h1 h2 h3; have h4 : _ = _ := h3; (try dsimp only at h2); exfalso; omega)
        replace h := h.chg k_3 (by intro b h1 h2 h3; have h4 : _ = _ := h3; (try dsimp only at h2); exfalso; omega)
        replace hw := hw.chg k_3 (by intro x h1 h2; have h3 : _ = _ := h2; exfalso; omega)
        replace hq := hq.chg k_3 (by intro b h1 h2 h3; have h4 : _ = _ := h3; (try dsimp only at h2); exfalso; omega)
        replace hb_1 := hn_3
        refine WL.nil (WX.then_normal (WC.region (WL.move rfl rfl (WL.move rfl rfl (?_)))))
        have hb10 := Blk.eqc (cs' := eub.f (slotU s d k)) hb_1 (by
          by_cases hc : decEr (heldS s (d, (k : Int))) = 0 ∧ (decV (heldS s (d, (k : Int)))).t % 8 = k
          ·
            rw [slotU, if_pos hc]
            first
              | rfl
              | (exfalso; exact h33 hc.1)
              | (exfalso; exact h39 hc.2)
          ·
            rw [slotU, if_neg hc]
            first
              | rfl
              | (exfalso; exact hc ⟨h33, h39⟩))
        refine WL.loads (eub.f (slotU s d k)) Tryd.isAgg25 Tryd.sizeOf25 rfl (fun j v hj => by rw [Nat.zero_add]; exact hb10.cell hj) rfl rfl ?_
        refine WL.index (j := k) Tryd.underlying98 Tryd.sizeOf25 rfl rfl rfl (by omega) rfl ?_
        refine WL.storeE (e := eub) (vs := eub.f (slotU s d k)) (ys := (outK s d k).set k (slotU s d k)) Tryd.sizeOf25 hO rfl rfl rfl (eub.one _) (by rw [outK_len]; show 0 + k * 5 + 5 ≤ 8 * 5; omega) (List.length_set ..) (by rw [Nat.zero_add]; exact (Enc.all_set eub (by rw [outK_len]; omega) _).symm) ?_
        intro w9 z9 hO9 k9
        rw [outK_set s d (by omega)] at hO9
        have zs_k9 := k9.size
        replace h := h.chg k9 (by intro b h1 h2 h3; have h4 : _ = _ := h3; (try dsimp only at h2); exfalso; omega)
        replace hw := hw.chg k9 (by intro x h1 h2; have h3 : _ = _ := h2; exfalso; omega)
        replace hq := hq.chg k9 (by intro b h1 h2 h3; have h4 : _ = _ := h3; (try dsimp only at h2); exfalso; omega)
        replace hb10 := hb10.chg k9 (by intro h1; have h2 : _ = _ := h1; exfalso; omega)
        refine WL.nil (WX.block_normal (WX.then_normal (WC.region (WL.add64 rfl rfl (by omega) rfl (WL.move rfl rfl (WL.nil (?_)))))))
        exact WX.loop_next (k + 1) ⟨rfl, rfl, rfl, rfl, rfl, trivial⟩ ⟨by omega, fun _ => by rw [← he]; exact h25, hO9, h, hw⟩ (by show _ - _ < _ - _; omega)
      ·
        refine WL.move rfl rfl (WL.want rfl rfl rfl (WL.fieldAddr (fld_25_0) rfl rfl (WL.want rfl rfl rfl (WL.loadB Tryd.isAgg3 hb_1 rfl rfl rfl (WL.want rfl rfl rfl (?_))))))
        have hz : decEr (heldS s (d, (k : Int))) = 0 := h33
        have ht := decU_t hz
        refine WL.rem64i rfl rfl (by constructor <;> omega) rfl ?_
        refine WL.want rfl rfl rfl (WL.move rfl rfl (WL.want rfl rfl rfl (?_)))
        refine WL.neq? rfl rfl rfl (fun h39 => ?_) (fun h39 => ?_)
        ·
          refine WL.pickF rfl rfl rfl (WL.nil (WX.then_normal (WC.cond_true rfl (WC.region (WL.bld rfl (bld_25_0 _) rfl (?_))))))
          refine WL.stores Tryd.sizeOf25 hb_1 rfl rfl (by simp; done) (by simp [Value.oneCell']; done) (by simp [Value.cells]; omega) rfl ?_
          intro w_3 hs_3 hn_3 k_3
          have zs_k_3 := k_3.size
          replace hO := hO.chg k_3 (by intro b h1 h2 h3; have h4 : _ = _ := h3; (try dsimp only at h2); exfalso; omega)
          replace h := h.chg k_3 (by intro b h1 h2 h3; have h4 : _ = _ := h3; (try dsimp only at h2); exfalso; omega)
          replace hw := hw.chg k_3 (by intro x h1 h2; have h3 : _ = _ := h2; exfalso; omega)
          replace hq := hq.chg k_3 (by intro b h1 h2 h3; have h4 : _ = _ := h3; (try dsimp only at h2); exfalso; omega)
          replace hb_1 := hn_3
          refine WL.nil (WX.then_normal (WC.region (WL.move rfl rfl (WL.move rfl rfl (?_)))))
          have hb10 := Blk.eqc (cs' := eub.f (slotU s d k)) hb_1 (by
            by_cases hc : decEr (heldS s (d, (k : Int))) = 0 ∧ (decV (heldS s (d, (k : Int)))).t % 8 = k
            ·
              rw [slotU, if_pos hc]
              first
                | rfl
                | (exfalso; exact h33 hc.1)
                | (exfalso; exact h39 hc.2)
            ·
              rw [slotU, if_neg hc]
              first
                | rfl
                | (exfalso; exact hc ⟨h33, h39⟩))
          refine WL.loads (eub.f (slotU s d k)) Tryd.isAgg25 Tryd.sizeOf25 rfl (fun j v hj => by rw [Nat.zero_add]; exact hb10.cell hj) rfl rfl ?_
          refine WL.index (j := k) Tryd.underlying98 Tryd.sizeOf25 rfl rfl rfl (by omega) rfl ?_
          refine WL.storeE (e := eub) (vs := eub.f (slotU s d k)) (ys := (outK s d k).set k (slotU s d k)) Tryd.sizeOf25 hO rfl rfl rfl (eub.one _) (by rw [outK_len]; show 0 + k * 5 + 5 ≤ 8 * 5; omega) (List.length_set ..) (by rw [Nat.zero_add]; exact (Enc.all_set eub (by rw [outK_len]; omega) _).symm) ?_
          intro w9 z9 hO9 k9
          rw [outK_set s d (by omega)] at hO9
          have zs_k9 := k9.size
          replace h := h.chg k9 (by intro b h1 h2 h3; have h4 : _ = _ := h3; (try dsimp only at h2); exfalso; omega)
          replace hw := hw.chg k9 (by intro x h1 h2; have h3 : _ = _ := h2; exfalso; omega)
          replace hq := hq.chg k9 (by intro b h1 h2 h3; have h4 : _ = _ := h3; (try dsimp only at h2); exfalso; omega)
          replace hb10 := hb10.chg k9 (by intro h1; have h2 : _ = _ := h1; exfalso; omega)
          refine WL.nil (WX.block_normal (WX.then_normal (WC.region (WL.add64 rfl rfl (by omega) rfl (WL.move rfl rfl (WL.nil (?_)))))))
          exact WX.loop_next (k + 1) ⟨rfl, rfl, rfl, rfl, rfl, trivial⟩ ⟨by omega, fun _ => by rw [← he]; exact h25, hO9, h, hw⟩ (by show _ - _ < _ - _; omega)
        ·
          refine WL.pickF rfl rfl rfl (WL.nil (WX.then_normal (WC.cond_false rfl (WC.skip (WX.then_normal (WC.region (WL.move rfl rfl (?_))))))))
          refine WL.move rfl rfl (?_)
          have hb10 := Blk.eqc (cs' := eub.f (slotU s d k)) hb_1 (by
            by_cases hc : decEr (heldS s (d, (k : Int))) = 0 ∧ (decV (heldS s (d, (k : Int)))).t % 8 = k
            ·
              rw [slotU, if_pos hc]
              first
                | rfl
                | (exfalso; exact h33 hc.1)
                | (exfalso; exact h39 hc.2)
            ·
              rw [slotU, if_neg hc]
              first
                | rfl
                | (exfalso; exact hc ⟨h33, h39⟩))
          refine WL.loads (eub.f (slotU s d k)) Tryd.isAgg25 Tryd.sizeOf25 rfl (fun j v hj => by rw [Nat.zero_add]; exact hb10.cell hj) rfl rfl ?_
          refine WL.index (j := k) Tryd.underlying98 Tryd.sizeOf25 rfl rfl rfl (by omega) rfl ?_
          refine WL.storeE (e := eub) (vs := eub.f (slotU s d k)) (ys := (outK s d k).set k (slotU s d k)) Tryd.sizeOf25 hO rfl rfl rfl (eub.one _) (by rw [outK_len]; show 0 + k * 5 + 5 ≤ 8 * 5; omega) (List.length_set ..) (by rw [Nat.zero_add]; exact (Enc.all_set eub (by rw [outK_len]; omega) _).symm) ?_
          intro w9 z9 hO9 k9
          rw [outK_set s d (by omega)] at hO9
          have zs_k9 := k9.size
          replace h := h.chg k9 (by intro b h1 h2 h3; have h4 : _ = _ := h3; (try dsimp only at h2); exfalso; omega)
          replace hw := hw.chg k9 (by intro x h1 h2; have h3 : _ = _ := h2; exfalso; omega)
          replace hq := hq.chg k9 (by intro b h1 h2 h3; have h4 : _ = _ := h3; (try dsimp only at h2); exfalso; omega)
          replace hb10 := hb10.chg k9 (by intro h1; have h2 : _ = _ := h1; exfalso; omega)
          refine WL.nil (WX.block_normal (WX.then_normal (WC.region (WL.add64 rfl rfl (by omega) rfl (WL.move rfl rfl (WL.nil (?_)))))))
          exact WX.loop_next (k + 1) ⟨rfl, rfl, rfl, rfl, rfl, trivial⟩ ⟨by omega, fun _ => by rw [← he]; exact h25, hO9, h, hw⟩ (by show _ - _ < _ - _; omega)
  ·
    refine WL.nil (WX.then_normal (WC.seq (WC.cond_false rfl (WC.exit (WX.then_exit (WX.then_exit (WX.block_here (?_))))))))
    refine WX.then_normal (WC.seq (WC.region (WL.move rfl rfl (WL.assign rfl rfl (WL.assign rfl rfl (WL.nil (WX.then_normal (?_))))))))
    refine WC.ret (?_)
    refine WX.ret2 (.inl rfl) Tryd.results50 rfl rfl ?_
    first
      | (have hz : e ≠ 0 := h25
         have hl : wholeL s d = [] := by rw [wholeL, if_neg (by rw [← he]; exact hz)]
         refine ⟨_, rfl, ⟨none, 0, ?_, ?_⟩, hw⟩
         ·
           rw [hl, ← he]
           rfl
         ·
           rw [hl]
           exact Row.nil _ _ _ _)
      | (have h0 := hE (by omega)
         have hk8 : k = 8 := by omega
         have hl : wholeL s d = outK s d k := by rw [wholeL, if_pos h0, hk8]
         refine ⟨_, rfl, ⟨some ⟨g0, 0, none⟩, 8, ?_, ?_⟩, hw⟩
         ·
           rw [hl, outK_len, h0]
         ·
           rw [hl]
           exact hO.mono (fun x hx => by omega))
end Go.Proofs.YtjeldcjchipdgaaDoor
namespace Go.Proofs.YtjeldcjchipdgaaDoor
open Go.RowKit Go.HL
set_option maxRecDepth 100000

/-! the newest record -/
def better (b u : UbV) : UbV := if b.t < u.t then u else b
def bestR (s : RA) : Nat → UbV
  | 0 => zeroU
  | k + 1 => (wholeL s k).foldl better (bestR s k)
def downS (s : RA) : Bool := (List.range s.dn).any fun d => decide (errD s d = 16)
def nwE (s : RA) : Int := if ¬ 8 < s.sn then 1 else if downS s = true then 16 else if (bestR s s.dn).t = 0 then 7 else 0
def nwU (s : RA) : UbV := if nwE s = 0 then bestR s s.dn else zeroU
theorem fold_take (l : List UbV) (b : UbV) {j : Nat} {u : UbV} (h : l[j]? = some u) : (l.take (j + 1)).foldl better b = better ((l.take j).foldl better b) u := by
  rw [List.take_add_one, h, List.foldl_append]
  rfl
theorem down_no {s : RA} (h : ∀ d, d < s.dn → errD s (d : Nat) ≠ 16) : downS s = false := by
  unfold downS
  rw [List.any_eq_false]
  intro d hd
  have := h d (List.mem_range.1 hd)
  simpa using this
theorem down_yes {s : RA} {d : Nat} (hd : d < s.dn) (h : errD s d = 16) : downS s = true := by
  unfold downS
  rw [List.any_eq_true]
  exact ⟨d, List.mem_range.2 hd, decide_eq_true h⟩
theorem nw_right {s : RA} (h : ¬ 8 < s.sn) : nwE s = 1 ∧ nwU s = zeroU := by
  have e : nwE s = 1 := by rw [nwE, if_pos h]
  exact ⟨e, by rw [nwU, e, if_neg (by decide)]⟩
theorem nw_down {s : RA} (h : 8 < s.sn) {d : Nat} (hd : d < s.dn) (h16 : errD s d = 16) : nwE s = 16 ∧ nwU s = zeroU := by
  have e : nwE s = 16 := by rw [nwE, if_neg (fun x => x h), if_pos (down_yes hd h16)]
  exact ⟨e, by rw [nwU, e, if_neg (by decide)]⟩
theorem nw_none {s : RA} (h : 8 < s.sn) (hd : downS s = false) (h0 : (bestR s s.dn).t = 0) : nwE s = 7 ∧ nwU s = zeroU := by
  have e : nwE s = 7 := by rw [nwE, if_neg (fun x => x h), if_neg (by rw [hd]; decide), if_pos h0]
  exact ⟨e, by rw [nwU, e, if_neg (by decide)]⟩
theorem nw_some {s : RA} (h : 8 < s.sn) (hd : downS s = false) (h0 : (bestR s s.dn).t ≠ 0) : nwE s = 0 ∧ nwU s = bestR s s.dn := by
  have e : nwE s = 0 := by rw [nwE, if_neg (fun x => x h), if_neg (by rw [hd]; decide), if_neg h0]
  exact ⟨e, by rw [nwU, if_pos e]⟩
set_option maxHeartbeats 2000000 in
theorem lNewest_calls {A : Nat → Prop} {w : World} {R : Nat} {s : RA} (h : RK A w R s) :
    Calls Tryd.prog 20 [ptr R].toArray w (Ret fun v w' => v = .tuple #[.agg (eub.f (nwU s)).toArray, vi (nwE s)] ∧ Chg Nob w w') := by
  have hw := Chg.refl Nob w
  have hdn := h.ok.dn
  replace h : RK (fun x => x < w.heap.size) w R s := h.old.mono (fun x hx => hx.2)
  refine Calls.of_WC Tryd.func20 rfl Tryd.ntmps20 (by simp) ?_
  refine WC.seq (WC.region (?_))
  refine WL.alloc Tryd.zeroValue25 rfl ?_
  intro g_1 w_1 hge_1 hlt_1 hb_1 k_1
  have zs_k_1 := k_1.size
  replace h := h.pure k_1
  replace hw := hw.pure k_1
  refine WL.assign rfl rfl (WL.nil (WX.then_normal (WC.seq (WC.seq (WC.region (WL.move rfl rfl (?_)))))))
  refine WL.call eg_42 rfl rfl (right_calls h) ?_
  rintro v w1 ⟨rfl, k1⟩
  have zs_k1 := k1.size
  replace h := h.pure k1
  replace hw := hw.pure k1
  replace hb_1 := hb_1.pure k1
  by_cases h12 : 8 < s.sn
  ·
    rw [decide_eq_true h12]
    refine WL.not rfl rfl (WL.nil (WX.then_normal (WC.cond_false rfl (WC.skip (WX.then_normal (WC.seq (WC.region (?_))))))))
    refine WL.alloc Tryd.zeroValue25 rfl ?_
    intro g_2 w_2 hge_2 hlt_2 hb_2 k_2
    have zs_k_2 := k_2.size
    replace h := h.pure k_2
    replace hw := hw.pure k_2
    replace hb_1 := hb_1.pure k_2
    refine WL.nil (WX.then_normal (WC.seq (WC.seq (WC.region (WL.move rfl rfl (?_))))))
    refine WL.call eg_43 rfl rfl (Drives_calls h) ?_
    rintro v w4 ⟨rfl, k4⟩
    have zs_k4 := k4.size
    replace h := h.pure k4
    replace hw := hw.pure k4
    replace hb_1 := hb_1.pure k4
    replace hb_2 := hb_2.pure k4
    refine WL.move rfl rfl (WL.nil (WX.then_normal (WC.block (?_))))
    have hb1 := Blk.eqc (cs' := eub.f zeroU) hb_1 rfl
    have hb2 := Blk.eqc (cs' := eub.f zeroU) hb_2 rfl
    refine WC.loop (σ := Nat) (fun k => [(0, ptr R), (2, ptr g_1), (4, ptr g_2), (15, vi (s.dn : Int)), (16, vi (k : Int))])
      (fun k w' => k ≤ s.dn ∧ (∀ d, d < k → errD s (d : Nat) ≠ 16) ∧ Blk w' g_1 25 (eub.f zeroU) ∧ Blk w' g_2 25 (eub.f (bestR s k)) ∧ RK (fun x => x < w.heap.size) w' R s ∧ Chg Nob w w') (fun k => s.dn - k) 0 ⟨rfl, rfl, rfl, rfl, rfl, trivial⟩
      ⟨Nat.zero_le _, fun d hd => absurd hd (Nat.not_lt_zero d), hb1, hb2, h, hw⟩ ?_
    have hg12 : w.heap.size ≤ g_1 ∧ g_1 < g_2 := by omega
    clear hb1 hb2 hb_1 hb_2 h hw
    rintro k w3 ⟨hk, hE, hb1, hb2, h, hw⟩
    have lg1 := hb1.lt
    have lg2 := hb2.lt
    refine WC.seq (WC.region (?_))
    refine WL.lss? rfl rfl rfl (fun h17 => ?_) (fun h17 => ?_)
    ·
      refine WL.nil (WX.then_normal (WC.seq (WC.cond_true rfl (WC.skip (WX.then_normal (WC.seq (WC.block (?_))))))))
      refine WC.seq (WC.region (WL.move rfl rfl (WL.assign rfl rfl (WL.nil (WX.then_normal (WC.seq (WC.region (?_))))))))
      refine WL.move rfl rfl (WL.move rfl rfl (?_))
      have hsd : isS s (k : Int) := ⟨by omega, by omega⟩
      refine WL.call eg_50 rfl rfl (whole_calls h hsd h12) ?_
      rintro v w5 ⟨⟨ao, c, rfl, hq⟩, k5⟩
      obtain ⟨L, eL⟩ : ∃ L, L = wholeL s k := ⟨_, rfl⟩
      have hLl : L.length ≤ 8 := by rw [eL, wholeL]; split; rw [outK_len]; omega; simp
      rw [← eL] at hq ⊢
      have zs_k5 := k5.size
      replace hb1 := hb1.pure k5
      replace hb2 := hb2.pure k5
      replace h := h.pure k5
      replace hw := hw.pure k5
      replace hq := hq.lt
      refine WL.move rfl rfl (WL.extract rfl rfl rfl (WL.extract rfl rfl rfl (WL.assign rfl rfl (WL.assign rfl rfl (WL.nil (WX.then_normal (WC.seq (?_))))))))
      refine WC.seq (WC.region (WL.move rfl rfl (?_)))
      refine WL.eql? rfl rfl rfl (fun h26 => ?_) (fun h26 => ?_)
      ·
        refine WL.nil (WX.then_normal (WC.cond_true rfl (WC.seq (WC.region (WL.bld rfl (bld_25_z) rfl (WL.move rfl rfl (?_)))))))
        refine WL.stores Tryd.sizeOf25 hb1 rfl rfl (by simp; done) (by simp [Value.oneCell']; done) (by exact Nat.le_of_ble_eq_true rfl) rfl ?_
        intro w_3 hs_3 hn_3 k_3
        have zs_k_3 := k_3.size
        replace hb2 := hb2.chg k_3 (by intro h1; have h2 : _ = _ := h1; exfalso; omega)
        replace h := h.chg k_3 (by intro b h1 h2 h3; have h4 : _ = _ := h3; (try dsimp only at h2); exfalso; omega)
        replace hw := hw.chg k_3 (by intro x h1 h2; have h3 : _ = _ := h2; exfalso; omega)
        replace hq := hq.chg k_3 (by intro b h1 h2 h3; have h4 : _ = _ := h3; (try dsimp only at h2); exfalso; omega)
        replace hb1 := hn_3
        refine WL.assign rfl rfl (WL.nil (WX.then_normal (WC.ret (WX.then_ret (WX.block_ret (WX.then_ret (WX.then_ret (?_))))))))
        refine WX.block_ret (WX.then_ret (?_))
        refine WX.ret2c (.inl rfl) Tryd.results20 Tryd.isAgg25 Tryd.sizeOf25 hb1 rfl (by rfl) rfl ?_
        first
          | (have hz : ¬ 8 < s.sn := h12
             obtain ⟨e1, e2⟩ := nw_right hz
             rw [e1, e2]
             exact ⟨_, rfl, rfl, hw⟩)
          | (have hz : errD s k = 16 := h26
             obtain ⟨e1, e2⟩ := nw_down h12 (d := k) (by omega) hz
             rw [e1, e2]
             refine ⟨_, rfl, ?_, hw⟩
             rw [← hz]
             rfl)
          | (have hkd : k = s.dn := by omega
             subst hkd
             have hno := down_no hE
             by_cases hc : (bestR s s.dn).t = 0
             ·
               obtain ⟨e1, e2⟩ := nw_none h12 hno hc
               rw [e1, e2]
               first
                 | exact ⟨_, rfl, rfl, hw⟩
                 | (exfalso; omega)
             ·
               obtain ⟨e1, e2⟩ := nw_some h12 hno hc
               rw [e1, e2]
               first
                 | exact ⟨_, rfl, rfl, hw⟩
                 | (exfalso; omega))
      ·
        refine WL.nil (WX.then_normal (WC.cond_false rfl (WC.skip (WX.then_normal (WC.seq (WC.region (WL.move rfl rfl (?_))))))))
        refine WL.len Tryd.underlying98 rfl rfl (WL.move rfl rfl (WL.nil (WX.then_normal (WC.block (?_)))))
        obtain ⟨n5, en5⟩ : ∃ n5, n5 = w5.heap.size := ⟨_, rfl⟩
        refine WC.loop (σ := Nat) (fun j => [(0, ptr R), (2, ptr g_1), (4, ptr g_2), (15, vi (s.dn : Int)), (16, vi (k : Int)), (29, .slice ao L.length c), (30, vi (L.length : Int)), (31, vi (j : Int))])
          (fun j w' => j ≤ L.length ∧ Blk w' g_1 25 (eub.f zeroU) ∧ Blk w' g_2 25 (eub.f ((L.take j).foldl better (bestR s k))) ∧ Row (fun x => w3.heap.size ≤ x ∧ x < n5) w' 25 eub ao c L ∧ n5 ≤ w'.heap.size ∧ RK (fun x => x < w.heap.size) w' R s ∧ Chg Nob w w') (fun j => L.length - j) 0 ⟨rfl, rfl, rfl, rfl, rfl, rfl, rfl, rfl, trivial⟩
          ⟨Nat.zero_le _, hb1, hb2, hq.mono (fun x hx => by omega), by omega, h, hw⟩ ?_
        clear hb1 hb2 hq h hw
        rintro j w6 ⟨hj, hb1, hb2, hq, hn5, h, hw⟩
        have lg11 := hb1.lt
        have lg22 := hb2.lt
        refine WC.seq (WC.region (?_))
        refine WL.lss? rfl rfl rfl (fun h32 => ?_) (fun h32 => ?_)
        ·
          refine WL.nil (WX.then_normal (WC.seq (WC.cond_true rfl (WC.skip (WX.then_normal (WC.seq (WC.block (?_))))))))
          refine WC.seq (WC.region (?_))
          obtain ⟨u, hu⟩ : ∃ u, L[j]? = some u := ⟨_, List.getElem?_eq_getElem (by omega)⟩
          refine WL.indexT Tryd.underlying98 Tryd.sizeOf25 hq.rsl rfl rfl ⟨hu, rfl⟩ rfl ?_
          intro b_3 o_3 hc_3
          refine WL.loads _ Tryd.isAgg25 Tryd.sizeOf25 rfl hc_3 rfl rfl (?_)
          refine WL.alloc Tryd.zeroValue25 rfl ?_
          intro g_4 w_4 hge_4 hlt_4 hb_4 k_4
          have zs_k_4 := k_4.size
          replace hb1 := hb1.pure k_4
          replace hb2 := hb2.pure k_4
          replace hq := hq.pure k_4
          replace h := h.pure k_4
          replace hw := hw.pure k_4
          refine WL.stores Tryd.sizeOf25 hb_4 rfl rfl (by rfl) (by exact Enc.one _ _) (by exact Nat.le_of_ble_eq_true rfl) rfl ?_
          intro w_5 hs_5 hn_5 k_5
          have zs_k_5 := k_5.size
          replace hb1 := hb1.chg k_5 (by intro h1; have h2 : _ = _ := h1; exfalso; omega)
          replace hb2 := hb2.chg k_5 (by intro h1; have h2 : _ = _ := h1; exfalso; omega)
          replace hq := hq.chg k_5 (by intro b h1 h2 h3; have h4 : _ = _ := h3; (try dsimp only at h2); exfalso; omega)
          replace h := h.chg k_5 (by intro b h1 h2 h3; have h4 : _ = _ := h3; (try dsimp only at h2); exfalso; omega)
          replace hw := hw.chg k_5 (by intro x h1 h2; have h3 : _ = _ := h2; exfalso; omega)
          replace hb_4 := hn_5
          refine WL.nil (WX.then_normal (WC.seq (WC.region (WL.fieldAddr (fld_25_0) rfl rfl (?_)))))
          have hb9 := Blk.eqc (cs' := eub.f u) hb_4 rfl
          refine WL.loadB Tryd.isAgg3 hb9 rfl rfl rfl ?_
          refine WL.fieldAddr (fld_25_0) rfl rfl (WL.loadB Tryd.isAgg3 hb2 rfl rfl rfl (?_))
          refine WL.gtr? rfl rfl rfl (fun h39 => ?_) (fun h39 => ?_)
          ·
            refine WL.nil (WX.then_normal (WC.cond_true rfl (WC.region (?_))))
            refine WL.loads (eub.f u) Tryd.isAgg25 Tryd.sizeOf25 rfl (fun j v hj => by rw [Nat.zero_add]; exact hb9.cell hj) rfl rfl ?_
            refine WL.stores Tryd.sizeOf25 hb2 rfl rfl (by rfl) (by exact Enc.one _ _) (by exact Nat.le_of_ble_eq_true rfl) rfl ?_
            intro w_6 hs_6 hn_6 k_6
            have zs_k_6 := k_6.size
            replace hb1 := hb1.chg k_6 (by intro h1; have h2 : _ = _ := h1; exfalso; omega)
            replace hq := hq.chg k_6 (by intro b h1 h2 h3; have h4 : _ = _ := h3; (try dsimp only at h2); exfalso; omega)
            replace h := h.chg k_6 (by intro b h1 h2 h3; have h4 : _ = _ := h3; (try dsimp only at h2); exfalso; omega)
            replace hw := hw.chg k_6 (by intro x h1 h2; have h3 : _ = _ := h2; exfalso; omega)
            replace hb9 := hb9.chg k_6 (by intro h1; have h2 : _ = _ := h1; exfalso; omega)
            replace hb2 := hn_6
            refine WL.nil (WX.block_normal (WX.then_normal (WC.region (WL.add64 rfl rfl (by omega) rfl (WL.move rfl rfl (WL.nil (?_)))))))
            first
              | (have hz : (List.foldl better (bestR s k) (List.take j L)).t < u.t := h39
                 have e1 := fold_take L (bestR s k) hu
                 have hb2' := Blk.eqc (cs' := eub.f ((L.take (j + 1)).foldl better (bestR s k))) hb2 (by rw [e1, better, if_pos hz]; rfl)
                 exact WX.loop_next (j + 1) ⟨rfl, rfl, rfl, rfl, rfl, rfl, rfl, rfl, trivial⟩ ⟨by omega, hb1, hb2', hq, by omega, h, hw⟩ (by show _ - _ < _ - _; omega))
              | (have hz : u.t ≤ (List.foldl better (bestR s k) (List.take j L)).t := h39
                 have e1 := fold_take L (bestR s k) hu
                 have hb2' := Blk.eqc (cs' := eub.f ((L.take (j + 1)).foldl better (bestR s k))) hb2 (by rw [e1, better, if_neg (by omega)])
                 exact WX.loop_next (j + 1) ⟨rfl, rfl, rfl, rfl, rfl, rfl, rfl, rfl, trivial⟩ ⟨by omega, hb1, hb2', hq, by omega, h, hw⟩ (by show _ - _ < _ - _; omega))
              | (have hz : (L.length : Int) ≤ j := h32
                 have hjl : L.take j = L := List.take_of_length_le (by omega)
                 have hz2 : errD s k ≠ 16 := h26
                 have hb2' := Blk.eqc (cs' := eub.f (bestR s (k + 1))) hb2 (by rw [bestR, ← eL, hjl])
                 refine WX.loop_next (k + 1) ⟨rfl, rfl, rfl, rfl, rfl, trivial⟩ ⟨by omega, fun d hd => ?_, hb1, hb2', h, hw⟩ (by show _ - _ < _ - _; omega)
                 rcases Nat.lt_or_ge d k with h9 | h9
                 ·
                   exact hE d h9
                 ·
                   rw [show d = k from by omega]; exact hz2)
          ·
            refine WL.nil (WX.then_normal (WC.cond_false rfl (WC.skip (WX.block_normal (WX.then_normal (WC.region (WL.add64 rfl rfl (by omega) rfl (?_))))))))
            refine WL.move rfl rfl (WL.nil (?_))
            first
              | (have hz : (List.foldl better (bestR s k) (List.take j L)).t < u.t := h39
                 have e1 := fold_take L (bestR s k) hu
                 have hb2' := Blk.eqc (cs' := eub.f ((L.take (j + 1)).foldl better (bestR s k))) hb2 (by rw [e1, better, if_pos hz]; rfl)
                 exact WX.loop_next (j + 1) ⟨rfl, rfl, rfl, rfl, rfl, rfl, rfl, rfl, trivial⟩ ⟨by omega, hb1, hb2', hq, by omega, h, hw⟩ (by show _ - _ < _ - _; omega))
              | (have hz : u.t ≤ (List.foldl better (bestR s k) (List.take j L)).t := h39
                 have e1 := fold_take L (bestR s k) hu
                 have hb2' := Blk.eqc (cs' := eub.f ((L.take (j + 1)).foldl better (bestR s k))) hb2 (by rw [e1, better, if_neg (by omega)])
                 exact WX.loop_next (j + 1) ⟨rfl, rfl, rfl, rfl, rfl, rfl, rfl, rfl, trivial⟩ ⟨by omega, hb1, hb2', hq, by omega, h, hw⟩ (by show _ - _ < _ - _; omega))
              | (have hz : (L.length : Int) ≤ j := h32
                 have hjl : L.take j = L := List.take_of_length_le (by omega)
                 have hz2 : errD s k ≠ 16 := h26
                 have hb2' := Blk.eqc (cs' := eub.f (bestR s (k + 1))) hb2 (by rw [bestR, ← eL, hjl])
                 refine WX.loop_next (k + 1) ⟨rfl, rfl, rfl, rfl, rfl, trivial⟩ ⟨by omega, fun d hd => ?_, hb1, hb2', h, hw⟩ (by show _ - _ < _ - _; omega)
                 rcases Nat.lt_or_ge d k with h9 | h9
                 ·
                   exact hE d h9
                 ·
                   rw [show d = k from by omega]; exact hz2)
        ·
          refine WL.nil (WX.then_normal (WC.seq (WC.cond_false rfl (WC.exit (WX.then_exit (WX.then_exit (WX.block_here (?_))))))))
          refine WX.block_normal (WX.then_normal (WC.region (WL.add64 rfl rfl (by omega) rfl (WL.move rfl rfl (WL.nil (?_))))))
          first
            | (have hz : (List.foldl better (bestR s k) (List.take j L)).t < u.t := h39
               have e1 := fold_take L (bestR s k) hu
               have hb2' := Blk.eqc (cs' := eub.f ((L.take (j + 1)).foldl better (bestR s k))) hb2 (by rw [e1, better, if_pos hz]; rfl)
               exact WX.loop_next (j + 1) ⟨rfl, rfl, rfl, rfl, rfl, rfl, rfl, rfl, trivial⟩ ⟨by omega, hb1, hb2', hq, by omega, h, hw⟩ (by show _ - _ < _ - _; omega))
            | (have hz : u.t ≤ (List.foldl better (bestR s k) (List.take j L)).t := h39
               have e1 := fold_take L (bestR s k) hu
               have hb2' := Blk.eqc (cs' := eub.f ((L.take (j + 1)).foldl better (bestR s k))) hb2 (by rw [e1, better, if_neg (by omega)])
               exact WX.loop_next (j + 1) ⟨rfl, rfl, rfl, rfl, rfl, rfl, rfl, rfl, trivial⟩ ⟨by omega, hb1, hb2', hq, by omega, h, hw⟩ (by show _ - _ < _ - _; omega))
            | (have hz : (L.length : Int) ≤ j := h32
               have hjl : L.take j = L := List.take_of_length_le (by omega)
               have hz2 : errD s k ≠ 16 := h26
               have hb2' := Blk.eqc (cs' := eub.f (bestR s (k + 1))) hb2 (by rw [bestR, ← eL, hjl])
               refine WX.loop_next (k + 1) ⟨rfl, rfl, rfl, rfl, rfl, trivial⟩ ⟨by omega, fun d hd => ?_, hb1, hb2', h, hw⟩ (by show _ - _ < _ - _; omega)
               rcases Nat.lt_or_ge d k with h9 | h9
               ·
                 exact hE d h9
               ·
                 rw [show d = k from by omega]; exact hz2)
    ·
      refine WL.nil (WX.then_normal (WC.seq (WC.cond_false rfl (WC.exit (WX.then_exit (WX.then_exit (WX.block_here (?_))))))))
      refine WX.then_normal (WC.seq (WC.seq (WC.region (WL.fieldAddr (fld_25_0) rfl rfl (WL.loadB Tryd.isAgg3 hb2 rfl rfl rfl (?_))))))
      refine WL.eql? rfl rfl rfl (fun h45 => ?_) (fun h45 => ?_)
      ·
        refine WL.nil (WX.then_normal (WC.cond_true rfl (WC.seq (WC.region (WL.bld rfl (bld_25_z) rfl (?_))))))
        refine WL.stores Tryd.sizeOf25 hb1 rfl rfl (by simp; done) (by simp [Value.oneCell']; done) (by exact Nat.le_of_ble_eq_true rfl) rfl ?_
        intro w_3 hs_3 hn_3 k_3
        have zs_k_3 := k_3.size
        replace hb2 := hb2.chg k_3 (by intro h1; have h2 : _ = _ := h1; exfalso; omega)
        replace h := h.chg k_3 (by intro b h1 h2 h3; have h4 : _ = _ := h3; (try dsimp only at h2); exfalso; omega)
        replace hw := hw.chg k_3 (by intro x h1 h2; have h3 : _ = _ := h2; exfalso; omega)
        replace hb1 := hn_3
        refine WL.assign rfl rfl (WL.nil (WX.then_normal (WC.ret (WX.then_ret (?_)))))
        refine WX.ret2c (.inl rfl) Tryd.results20 Tryd.isAgg25 Tryd.sizeOf25 hb1 rfl (by rfl) rfl ?_
        first
          | (have hz : ¬ 8 < s.sn := h12
             obtain ⟨e1, e2⟩ := nw_right hz
             rw [e1, e2]
             exact ⟨_, rfl, rfl, hw⟩)
          | (have hz : errD s k = 16 := h26
             obtain ⟨e1, e2⟩ := nw_down h12 (d := k) (by omega) hz
             rw [e1, e2]
             refine ⟨_, rfl, ?_, hw⟩
             rw [← hz]
             rfl)
          | (have hkd : k = s.dn := by omega
             subst hkd
             have hno := down_no hE
             by_cases hc : (bestR s s.dn).t = 0
             ·
               obtain ⟨e1, e2⟩ := nw_none h12 hno hc
               rw [e1, e2]
               first
                 | exact ⟨_, rfl, rfl, hw⟩
                 | (exfalso; omega)
             ·
               obtain ⟨e1, e2⟩ := nw_some h12 hno hc
               rw [e1, e2]
               first
                 | exact ⟨_, rfl, rfl, hw⟩
                 | (exfalso; omega))
      ·
        refine WL.nil (WX.then_normal (WC.cond_false rfl (WC.skip (WX.then_normal (WC.seq (WC.region (WL.loadsB Tryd.isAgg25 Tryd.sizeOf25 hb2 rfl (by rfl) rfl (?_))))))))
        refine WL.stores Tryd.sizeOf25 hb1 rfl rfl (by rfl) (by exact Enc.one _ _) (by exact Nat.le_of_ble_eq_true rfl) rfl ?_
        intro w_3 hs_3 hn_3 k_3
        have zs_k_3 := k_3.size
        replace hb2 := hb2.chg k_3 (by intro h1; have h2 : _ = _ := h1; exfalso; omega)
        replace h := h.chg k_3 (by intro b h1 h2 h3; have h4 : _ = _ := h3; (try dsimp only at h2); exfalso; omega)
        replace hw := hw.chg k_3 (by intro x h1 h2; have h3 : _ = _ := h2; exfalso; omega)
        replace hb1 := hn_3
        refine WL.assign rfl rfl (WL.nil (WX.then_normal (WC.ret (?_))))
        refine WX.ret2c (.inl rfl) Tryd.results20 Tryd.isAgg25 Tryd.sizeOf25 hb1 rfl (by rfl) rfl ?_
        first
          | (have hz : ¬ 8 < s.sn := h12
             obtain ⟨e1, e2⟩ := nw_right hz
             rw [e1, e2]
             exact ⟨_, rfl, rfl, hw⟩)
          | (have hz : errD s k = 16 := h26
             obtain ⟨e1, e2⟩ := nw_down h12 (d := k) (by omega) hz
             rw [e1, e2]
             refine ⟨_, rfl, ?_, hw⟩
             rw [← hz]
             rfl)
          | (have hkd : k = s.dn := by omega
             subst hkd
             have hno := down_no hE
             by_cases hc : (bestR s s.dn).t = 0
             ·
               obtain ⟨e1, e2⟩ := nw_none h12 hno hc
               rw [e1, e2]
               first
                 | exact ⟨_, rfl, rfl, hw⟩
                 | (exfalso; omega)
             ·
               obtain ⟨e1, e2⟩ := nw_some h12 hno hc
               rw [e1, e2]
               first
                 | exact ⟨_, rfl, rfl, hw⟩
                 | (exfalso; omega))
  ·
    rw [decide_eq_false h12]
    refine WL.not rfl rfl (WL.nil (WX.then_normal (WC.cond_true rfl (WC.seq (WC.region (WL.bld rfl (bld_25_z) rfl (?_)))))))
    refine WL.stores Tryd.sizeOf25 hb_1 rfl rfl (by simp; done) (by simp [Value.oneCell']; done) (by simp [Value.cells]; done) rfl ?_
    intro w_2 hs_2 hn_2 k_2
    have zs_k_2 := k_2.size
    replace h := h.chg k_2 (by intro b h1 h2 h3; have h4 : _ = _ := h3; (try dsimp only at h2); exfalso; omega)
    replace hw := hw.chg k_2 (by intro x h1 h2; have h3 : _ = _ := h2; exfalso; omega)
    replace hb_1 := hn_2
    refine WL.assign rfl rfl (WL.nil (WX.then_normal (WC.ret (WX.then_ret (?_)))))
    refine WX.ret2c (.inl rfl) Tryd.results20 Tryd.isAgg25 Tryd.sizeOf25 hb_1 rfl (by rfl) rfl ?_
    first
      | (have hz : ¬ 8 < s.sn := h12
         obtain ⟨e1, e2⟩ := nw_right hz
         rw [e1, e2]
         exact ⟨_, rfl, rfl, hw⟩)
      | (have hz : errD s k = 16 := h26
         obtain ⟨e1, e2⟩ := nw_down h12 (d := k) (by omega) hz
         rw [e1, e2]
         refine ⟨_, rfl, ?_, hw⟩
         rw [← hz]
         rfl)
      | (have hkd : k = s.dn := by omega
         subst hkd
         have hno := down_no hE
         by_cases hc : (bestR s s.dn).t = 0
         ·
           obtain ⟨e1, e2⟩ := nw_none h12 hno hc
           rw [e1, e2]
           first
             | exact ⟨_, rfl, rfl, hw⟩
             | (exfalso; omega)
         ·
           obtain ⟨e1, e2⟩ := nw_some h12 hno hc
           rw [e1, e2]
           first
             | exact ⟨_, rfl, rfl, hw⟩
             | (exfalso; omega))
end Go.Proofs.YtjeldcjchipdgaaDoor
namespace Go.Proofs.YtjeldcjchipdgaaDoor
open Go.RowKit Go.HL
set_option maxRecDepth 100000

/-! plain: what is read behind what was written -/
theorem dec_enc {u : UbV} (h : encE u = 0) (hw : WfU u) : decU (encB u) = some u := by
  obtain ⟨t1, t2, t3, t4⟩ := encE_t h
  have hu := un_sec t3 (uit_rit hw)
  have hp := unp_ptr t1 hw.2
  unfold decU
  rw [encB, if_pos ⟨t1, t2⟩, hu]
  simp [uit, hp, t2]
theorem zeros_no : decU zeros = none := by
  refine decU_bad (.inl ?_)
  have hz : unS zeros = none := by
    unfold unS
    rw [if_neg]
    rintro ⟨_, _, _, h⟩
    have h0 : ((zeros.take (1 + (zeros.getD 0 0).toNat)).drop 1) = [] := by decide +kernel
    rw [h0] at h
    exact absurd h (by decide)
  rw [(un_none hz).2]
  decide
theorem slot_zeros {s : RA} {d : Int} {a : Nat} (h : heldS s (d, a) = zeros) : slotU s d a = ⟨-1, zeroP⟩ := by
  rw [slotU, h, (decU_no zeros_no).2, if_neg (fun h => absurd h.1 (by decide))]
theorem slot_enc {s : RA} {d : Int} {a : Nat} {u : UbV} (h : heldS s (d, a) = encB u) (hE : encE u = 0) (hw : WfU u) (ha : u.t % 8 = a) : slotU s d a = u := by
  obtain ⟨e1, e2⟩ := decU_yes (dec_enc hE hw)
  rw [slotU, h, e1, e2, if_pos ⟨rfl, ha⟩]
/-- the drives that are written -/
def addAll (s : RA) (a : Int) (B : List UInt8) : Nat → RA
  | 0 => s
  | k + 1 => if goneS s (k : Nat) = true then addAll s a B k else addS (addAll s a B k) ((k : Nat), a) B
def cntD (s : RA) : Nat → Nat
  | 0 => 0
  | k + 1 => if goneS s (k : Nat) = true then cntD s k else cntD s k + 1
theorem addAll_dn (s : RA) (a : Int) (B : List UInt8) (k : Nat) : (addAll s a B k).dn = s.dn ∧ (addAll s a B k).sn = s.sn ∧ (addAll s a B k).gone = s.gone ∧ (addAll s a B k).off = s.off ∧ (addAll s a B k).armed = s.armed ∧ (addAll s a B k).last = s.last := by
  induction k with
  | zero => exact ⟨rfl, rfl, rfl, rfl, rfl, rfl⟩
  | succ k ih =>
    rw [addAll]
    split
    · exact ih
    · exact ih
theorem addAll_up {s : RA} (h : Up s) (a : Int) (B : List UInt8) (k : Nat) : Up (addAll s a B k) :=
  ⟨(addAll_dn s a B k).2.2.2.1.trans h.off, (addAll_dn s a B k).2.2.2.2.1.trans h.armed⟩
theorem addAll_gone (s : RA) (a : Int) (B : List UInt8) (k : Nat) (d : Int) : goneS (addAll s a B k) d = goneS s d := by
  unfold goneS
  rw [(addAll_dn s a B k).2.2.1]
theorem addAll_held (s : RA) (a : Int) (B : List UInt8) (k : Nat) (q : Pl) : heldS (addAll s a B k) q = if (∃ d, d < k ∧ q = (((d : Nat) : Int), a) ∧ goneS s (d : Nat) = false) then B else heldS s q := by
  induction k with
  | zero =>
    rw [if_neg]
    · rfl
    · rintro ⟨d, hd, _⟩
      omega
  | succ k ih =>
    rw [addAll]
    by_cases hg : goneS s (k : Nat) = true
    · rw [if_pos hg, ih]
      have : (∃ d, d < k ∧ q = (((d : Nat) : Int), a) ∧ goneS s (d : Nat) = false) ↔ (∃ d, d < k + 1 ∧ q = (((d : Nat) : Int), a) ∧ goneS s (d : Nat) = false) := by
        constructor
        · rintro ⟨d, h1, h2, h3⟩
          exact ⟨d, by omega, h2, h3⟩
        · rintro ⟨d, h1, h2, h3⟩
          refine ⟨d, ?_, h2, h3⟩
          rcases Nat.lt_or_ge d k with h4 | h4
          · exact h4
          · have : d = k := by omega
            subst this
            rw [hg] at h3
            cases h3
      simp only [this]
    · rw [if_neg hg, addS_held]
      by_cases hq : q = (((k : Nat) : Int), a)
      · rw [if_pos hq, if_pos ⟨k, by omega, hq, by simpa using hg⟩]
      · rw [if_neg hq, ih]
        have : (∃ d, d < k ∧ q = (((d : Nat) : Int), a) ∧ goneS s (d : Nat) = false) ↔ (∃ d, d < k + 1 ∧ q = (((d : Nat) : Int), a) ∧ goneS s (d : Nat) = false) := by
          constructor
          · rintro ⟨d, h1, h2, h3⟩
            exact ⟨d, by omega, h2, h3⟩
          · rintro ⟨d, h1, h2, h3⟩
            refine ⟨d, ?_, h2, h3⟩
            rcases Nat.lt_or_ge d k with h4 | h4
            · exact h4
            · have : d = k := by omega
              subst this
              exact absurd h2 hq
        simp only [this]
theorem lwR_up {s : RA} (h : Up s) (hs : 8 < s.sn) {a : Int} (ha : 0 ≤ a ∧ a < 8) {B : List UInt8} (hB : B.length = 128) (k : Nat) (hk : k ≤ s.dn) : lwR s a B k = (addAll s a B k, cntD s k, 0) := by
  induction k with
  | zero => rfl
  | succ k ih =>
    have ih := ih (by omega)
    have hi : inS (addAll s a B k) (k : Nat) a := by
      unfold inS
      rw [(addAll_dn s a B k).1, (addAll_dn s a B k).2.1]
      omega
    rw [lwR, ih]
    simp only [ne_eq, not_true_eq_false, if_false]
    cases hg : goneS s (k : Nat) with
    | false =>
      obtain ⟨e1, e2⟩ := (addAll_up h a B k).write hi (by rw [addAll_gone]; exact hg) hB
      rw [if_pos e1, e2, addAll, cntD, if_neg (by rw [hg]; decide), if_neg (by rw [hg]; decide)]
    | true =>
      have e1 : writeE (addAll s a B k) (k : Nat) a B.length = 3 := by
        unfold writeE
        rw [if_neg (fun x => x.elim (fun y => y hi) (fun y => y hB)), if_pos (by rw [addAll_gone]; exact hg)]
      have e2 : writeS (addAll s a B k) (k : Nat) a B = addAll s a B k := by
        unfold writeS
        rw [e1, if_neg (by decide), if_neg (by decide)]
      rw [e1, if_neg (by decide), if_pos rfl, e2, addAll, cntD, if_pos hg, if_pos hg]
theorem lw_up {s : RA} (h : Up s) (hs : 8 < s.sn) {u : UbV} (hE : encE u = 0) : lwS s u = addAll s (u.t % 8) (encB u) s.dn ∧ lwN s u = cntD s s.dn ∧ lwE s u = if cntD s s.dn = 0 then 4 else 0 := by
  obtain ⟨t1, t2, t3, t4⟩ := encE_t hE
  have e := lwR_up h hs (a := u.t % 8) (by omega) t4 s.dn (Nat.le_refl _)
  obtain ⟨e1, e2, e3⟩ := lw_end hs hE rfl rfl (by rw [e])
  rw [e1, e2, e3, e]
  exact ⟨rfl, rfl, rfl⟩
/-! the newest -/
theorem fold_best (u : UbV) : ∀ (l : List UbV) (b : UbV), (∀ x ∈ l, x.t ≤ u.t ∧ (x.t = u.t → x = u)) → (b.t ≤ u.t ∧ (b.t = u.t → b = u)) → (u ∈ l ∨ b = u) → l.foldl better b = u
  | [], b, _, _, h => by
    rcases h with h | h
    · cases h
    · exact h
  | x :: l, b, hl, hb, h => by
    have hx := hl x (.head _)
    have hb2 : (better b x).t ≤ u.t ∧ ((better b x).t = u.t → better b x = u) := by
      unfold better
      split
      · exact hx
      · exact hb
    refine fold_best u l (better b x) (fun y hy => hl y (.tail _ hy)) hb2 ?_
    rcases h with h | h
    · rcases List.mem_cons.1 h with h1 | h1
      · right
        subst h1
        unfold better
        split
        · rfl
        · exact hb.2 (by omega)
      · exact .inl h1
    · right
      subst h
      unfold better
      split
      · exfalso; have := hx.1; omega
      · rfl
theorem bestR_fold (s : RA) (k : Nat) : bestR s k = ((List.range k).flatMap fun d => wholeL s (d : Nat)).foldl better zeroU := by
  induction k with
  | zero => rfl
  | succ k ih => rw [bestR, ih, List.range_succ, List.flatMap_append, List.foldl_append]; simp
theorem mem_whole {s : RA} {d : Int} {x : UbV} : x ∈ wholeL s d ↔ errD s d = 0 ∧ ∃ a, a < 8 ∧ slotU s d a = x := by
  unfold wholeL
  split
  · rename_i h
    simp only [outK, List.mem_map, List.mem_range]
    constructor
    · rintro ⟨a, ha, hx⟩
      rw [if_pos ha] at hx
      exact ⟨h, a, ha, hx⟩
    · rintro ⟨_, a, ha, hx⟩
      exact ⟨a, ha, by rw [if_pos ha, hx]⟩
  · rename_i h
    constructor
    · intro h1; cases h1
    · rintro ⟨h1, _⟩; exact absurd h1 h
theorem best_is {s : RA} {u : UbV} (h0 : 0 < u.t) (h1 : ∃ d, d < s.dn ∧ errD s (d : Nat) = 0 ∧ ∃ a, a < 8 ∧ slotU s (d : Nat) a = u)
    (h2 : ∀ d, d < s.dn → errD s (d : Nat) = 0 → ∀ a, a < 8 → (slotU s (d : Nat) a).t ≤ u.t ∧ ((slotU s (d : Nat) a).t = u.t → slotU s (d : Nat) a = u)) : bestR s s.dn = u := by
  rw [bestR_fold]
  refine fold_best u _ _ (fun x hx => ?_) ⟨by show (0 : Int) ≤ _; omega, fun h => by have : (0 : Int) = u.t := h; omega⟩ (.inl ?_)
  · obtain ⟨d, hd, hx⟩ := List.mem_flatMap.1 hx
    obtain ⟨he, a, ha, rfl⟩ := mem_whole.1 hx
    exact h2 d (List.mem_range.1 hd) he a ha
  · obtain ⟨d, hd, he, ha⟩ := h1
    exact List.mem_flatMap.2 ⟨d, List.mem_range.2 hd, mem_whole.2 ⟨he, ha⟩⟩
end Go.Proofs.YtjeldcjchipdgaaDoor
