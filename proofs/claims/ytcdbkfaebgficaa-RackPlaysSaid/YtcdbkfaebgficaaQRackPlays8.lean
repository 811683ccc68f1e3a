import Derived.Test.YtcdbkfaebgficaaQRackPlays7
namespace Go.Proofs.Ytcdbkfaebgficaa
open Go.RowKit Go.HL

set_option maxHeartbeats 1000000 in
theorem step_calls {lo : Nat} {w : World} {R D : Nat} {A B : Nat → Prop} {s : RA} (h : H2 (fun x => lo ≤ x) w R D A B s s) (hlo : lo ≤ w.heap.size) (o : OpV) (hp : RSl (· < lo) w ei o.pao o.pcap o.picks) (hpl : o.picks.length * 8 ≤ 140737488351232) (hon : -9223372036854775808 ≤ o.n ∧ o.n ≤ 9223372036854775807) (hn : s.waits.length ≤ 90000) :
    Calls Try.prog 12 [ptr R, ptr D, .agg (eop.f o).toArray].toArray w (Ret fun v w' => v = .bool true ∧ St lo w w' R D s ∧ Chg (fun x => lo ≤ x) w w') := by
  obtain ⟨ok, od, oa, of_, on, opa, opc, ops⟩ := o
  have hp' : RSl (· < lo) w ei opa opc ops := hp
  clear hp
  have hpl' : ops.length * 8 ≤ 140737488351232 := hpl
  have hon' : -9223372036854775808 ≤ on ∧ on ≤ 9223372036854775807 := hon
  clear hpl hon
  have hp := hp'
  clear hp'
  have hw := Chg.refl (fun x => lo ≤ x) w
  have hA0 : ∀ x, A x ∨ B x → x < w.heap.size := fun x hx => hx.elim (fun h1 => (h.a x h1).2) (fun h1 => (h.b x h1).2)
  have hR0 := hA0 R (.inl h.r.aR)
  refine Calls.of_WC Try.func12 rfl Try.ntmps12 (by simp) ?_
  refine WC.seq (WC.region (?_))
  refine WL.box rfl rfl ?_
  intro g_1 w_1 hge_1 hlt_1 hb_1 k_1
  have zs_k_1 := k_1.size
  replace h := h.pure k_1
  replace hp := hp.pure k_1
  replace hw := hw.pure k_1
  refine WL.assign rfl rfl (WL.nil (WX.then_normal (WC.seq (WC.seq (WC.region (WL.fieldAddr (fld_39_0) rfl rfl (?_)))))))
  have hX : Blk w_1 g_1 39 [vi ok, vi od, vi oa, vi of_, vi on, .slice opa ops.length opc] := hb_1
  have hg1 : lo ≤ g_1 := by omega
  have h' : H2 (fun x => lo ≤ x ∧ x ≠ g_1) w_1 R D A B s s := ⟨h.r, h.d, fun x hx => ⟨⟨(h.a x hx).1, by rintro rfl; have := hA0 _ (.inl hx); omega⟩, (h.a x hx).2⟩, fun x hx => ⟨⟨(h.b x hx).1, by rintro rfl; have := hA0 _ (.inr hx); omega⟩, (h.b x hx).2⟩, h.ne⟩
  clear h
  have h := h'
  clear h'
  clear hb_1
  have hL : ∀ x, w_1.heap.size ≤ x → lo ≤ x ∧ x ≠ g_1 := fun x hx => ⟨by omega, by omega⟩
  refine WL.loadB Try.isAgg3 hX rfl rfl rfl ?_
  refine WL.nil (WX.then_normal (WC.block (WC.seq (WC.region (?_)))))
  refine WL.eql? rfl rfl rfl (fun h22 => ?_) (fun h22 => ?_)
  ·
    refine WL.assign rfl rfl (WL.nil (WX.then_normal (WC.cond_true rfl (WC.seq (WC.region (WL.move rfl rfl (WL.fieldAddr (fld_39_1) rfl rfl (?_))))))))
    refine WL.loadB Try.isAgg3 hX rfl rfl rfl (WL.fieldAddr (fld_39_2) rfl rfl (WL.loadB Try.isAgg3 hX rfl rfl rfl (?_)))
    refine WL.call eg_19 rfl rfl (Read_calls h.r od oa) ?_
    rintro v w3 ⟨⟨r, e, rfl, he, hx, hx0, hq⟩, k3⟩
    obtain ⟨rao, rcap, rxs⟩ := r
    have hst : bs rxs = (if errS s od oa = 0 then bs (heldS s (od, oa)) else bs []) := by
      by_cases h0 : errS s od oa = 0
      ·
        rw [if_pos h0]
        exact congrArg bs (hx (he.trans h0))
      ·
        rw [if_neg h0]
        have h1 := hx0 (fun e1 => h0 (he.symm.trans e1))
        injection h1 with _ _ h1
        rw [h1]
    replace hq : Row (w_1.heap.size ≤ ·) w3 5 eb rao rcap rxs := hq
    have hql : ∀ x, A x ∨ B x → x < w_1.heap.size := fun x hx => by have := hA0 x hx; omega
    have hrl : rxs.length ≤ 128 := by
      by_cases h0 : e = 0
      ·
        have h1 : rxs = heldS s (od, oa) := hx h0
        rw [h1, heldS_len h.r.ok]
        exact Nat.le_refl _
      ·
        have h1 := hx0 h0
        injection h1 with _ _ h1
        rw [h1]
        exact Nat.zero_le _
    have zs_k3 := k3.size
    replace h := h.pure k3
    replace hp := hp.pure k3
    replace hw := hw.pure k3
    replace hX := hX.pure k3
    refine WL.move rfl rfl (WL.extract rfl rfl rfl (WL.extract rfl rfl rfl (WL.assign rfl rfl (WL.assign rfl rfl (WL.nil (WX.then_normal (WC.seq (?_))))))))
    refine WC.region (WL.move rfl rfl (WL.fieldAddr (fld_39_1) rfl rfl (WL.loadB Try.isAgg3 hX rfl rfl rfl (WL.fieldAddr (fld_39_2) rfl rfl (WL.loadB Try.isAgg3 hX rfl rfl rfl (?_))))))
    refine WL.call eg_24 rfl rfl (dRead_calls h.d (by omega) od oa) ?_
    rintro v w4 ⟨rfl, k4⟩
    have zs_k4 := k4.size
    replace h := h.pure k4
    replace hp := hp.pure k4
    replace hw := hw.pure k4
    replace hX := hX.pure k4
    replace hq := hq.pure k4
    refine WL.move rfl rfl (WL.extract rfl rfl rfl (WL.extract rfl rfl rfl (WL.assign rfl rfl (WL.assign rfl rfl (WL.nil (WX.then_normal (WC.seq (?_))))))))
    refine WC.region (WL.move rfl rfl (?_))
    refine WL.toStr Try.underlying43 Try.underlying5 Try.underlying9 hq.rsl rfl rfl ?_
    refine WL.move rfl rfl (?_)
    refine WL.seqlT rfl rfl rfl (hst) ?_
    refine WL.move rfl rfl (WL.want rfl rfl rfl (WL.move rfl rfl (WL.want rfl rfl rfl (WL.move rfl rfl (WL.want rfl rfl rfl (?_))))))
    refine WL.eqlT rfl rfl rfl (he) ?_
    refine WL.pickT rfl rfl rfl (WL.assign rfl rfl (WL.nil (WX.then_normal (WC.seq (WC.seq (WC.region (WL.assign rfl rfl (?_))))))))
    refine WL.nil (WX.then_normal (WC.block (?_)))
    refine WC.loop (σ := Nat × List UInt8) (fun q => [(7, .slice rao q.2.length rcap), (11, .bool true), (12, vi q.1)])
      (fun q w' => q.1 ≤ rxs.length ∧ q.2.length = rxs.length ∧ Row (w_1.heap.size ≤ ·) w' 5 eb rao rcap q.2 ∧ H2 (fun x => lo ≤ x ∧ x ≠ g_1) w' R D A B s s ∧ Chg (fun x => lo ≤ x) w w') (fun q => rxs.length - q.1) (0, rxs) ⟨rfl, rfl, rfl, trivial⟩ ⟨Nat.zero_le _, rfl, hq, h, hw⟩ ?_
    clear hq h hw
    rintro ⟨i, ys⟩ w5 ⟨hi, hyl, hq, h, hw⟩
    simp only at hi hyl hq
    dsimp only
    refine WC.seq (WC.seq (WC.region (WL.move rfl rfl (WL.move rfl rfl (WL.len Try.underlying43 rfl rfl (?_))))))
    refine WL.lss? rfl rfl rfl (fun h53 => ?_) (fun h53 => ?_)
    ·
      refine WL.nil (WX.then_normal (WC.cond_true rfl (WC.skip (WX.then_normal (WC.seq (WC.block (WC.region (?_))))))))
      refine WL.move rfl rfl (WL.move rfl rfl (?_))
      obtain ⟨gq, hgq⟩ := hq.place0 (j := i) (by omega)
      refine WL.index (sz := 1) (j := i) Try.underlying43 Try.sizeOf5 (by show some (Value.slice rao _ _) = some (Value.slice (some ⟨gq, 0, none⟩) _ _); rw [hgq]) rfl rfl (by omega) rfl ?_
      have hqq := hq
      rw [hgq] at hqq
      have hgw : w_1.heap.size ≤ gq := hq.at_ _ hgq
      refine WL.storeRow (z := (170 : UInt8)) i Try.sizeOf5 hqq rfl rfl rfl (by show 0 + i * 1 = i; omega) (by omega) rfl ?_
      intro w6 z6 hQ6 k6
      rw [← hgq] at hQ6
      replace h := h.chg k6 (fun x hx e => by have h1 := hql x hx; have h2 : x = gq := e; omega)
      replace hw := hw.chg k6 (fun x _ e => by have h2 : x = gq := e; show lo ≤ x; omega)
      refine WL.nil (WX.block_normal (WX.then_normal (WC.region (WL.move rfl rfl (WL.add64 rfl rfl (by first | omega | (constructor <;> omega)) rfl (WL.assign rfl rfl (WL.nil (?_))))))))
      first
        | exact WX.loop_next (i + 1, ys.set i 170) ⟨by show _ = some (Value.slice rao (ys.set i 170).length rcap); rw [List.length_set]; rfl, rfl, rfl, trivial⟩ ⟨by show i + 1 ≤ _; omega, by show (ys.set i 170).length = _; rw [List.length_set]; exact hyl, hQ6, h, hw⟩ (by show rxs.length - (i + 1) < rxs.length - i; omega)
        | exact WX.loop_next (i + 1, ys.set i 85) ⟨rfl, rfl, by show _ = some (Value.slice _ (ys.set i 85).length _); rw [List.length_set]; rfl, rfl, rfl, rfl, trivial⟩ ⟨by show i + 1 ≤ _; omega, by show (ys.set i 85).length = _; rw [List.length_set]; exact hyl, hQ6, h, hX, hw⟩ (by show Bx.length - (i + 1) < Bx.length - i; omega)
    ·
      refine WL.nil (WX.then_normal (WC.cond_false rfl (WC.exit (WX.then_exit (WX.then_exit (WX.block_here (WX.then_normal (?_))))))))
      refine WC.seq (WC.region (WL.move rfl rfl (WL.assign rfl rfl (WL.nil (WX.then_normal (WC.ret (WX.block_ret (?_))))))))
      refine WX.then_ret (?_)
      refine WX.ret1 (.inl rfl) Try.results12 rfl ?_
      have hsl := Nat.le_succ s.waits.length
      first
        | exact ⟨_, rfl, rfl, St.of h (Chg.refl _ _) hsl rfl rfl, hw⟩
        | exact ⟨_, rfl, by simp, St.of hf (Chg.refl _ _) (writeS_len s od oa Bx).1 (writeS_len s od oa Bx).2.1 (writeS_len s od oa Bx).2.2, hw⟩
        | exact ⟨_, rfl, by simp, St.of hf (Chg.refl _ _) (flushS_len s).1 (flushS_len s).2.1 (flushS_len s).2.2, hw⟩
        | exact ⟨_, rfl, rfl, St.of hf (Chg.refl _ _) hsl rfl rfl, hw⟩
        | exact ⟨_, rfl, rfl, St.of hf (Chg.refl _ _) (Nat.zero_le _) rfl rfl, hw⟩
        | exact ⟨_, rfl, by simp, St.of hf (Chg.refl _ _) (loseI_len s od).1 (loseI_len s od).2.1 (loseI_len s od).2.2, hw⟩
        | exact ⟨_, rfl, by simp, St.of hf (Chg.refl _ _) (replaceI_len s od).1 (replaceI_len s od).2.1 (replaceI_len s od).2.2, hw⟩
        | exact ⟨_, rfl, by simp, St.of hf (Chg.refl _ _) (rotI_len s od oa on).1 (rotI_len s od oa on).2.1 (rotI_len s od oa on).2.2, hw⟩
  ·
    refine WL.assign rfl rfl (WL.nil (WX.then_normal (WC.cond_false rfl (WC.seq (WC.region (?_))))))
    refine WL.eql? rfl rfl rfl (fun h61 => ?_) (fun h61 => ?_)
    ·
      refine WL.assign rfl rfl (WL.nil (WX.then_normal (WC.cond_true rfl (WC.seq (WC.region (WL.fieldAddr (fld_39_4) rfl rfl (WL.loadB Try.isAgg3 hX rfl rfl rfl (?_))))))))
      refine WL.assign rfl rfl (WL.nil (WX.then_normal (WC.seq (WC.seq (WC.region (WL.move rfl rfl (?_)))))))
      refine WL.lss? rfl rfl rfl (fun h65 => ?_) (fun h65 => ?_)
      ·
        refine WL.move rfl rfl (WL.pass rfl rfl rfl rfl (WL.pass rfl rfl rfl rfl (WL.pickT rfl rfl rfl (WL.nil (WX.then_normal (WC.cond_true rfl (WC.region (?_))))))))
        refine WL.assign rfl rfl (WL.nil (WX.then_normal (WC.seq (WC.region (WL.fieldAddr (fld_39_3) rfl rfl (WL.loadB Try.isAgg3 hX rfl rfl rfl (WL.move rfl rfl (?_))))))))
        first
          | (have hc9 : on < -200 := h65
             obtain ⟨Bx, hBl, hBc⟩ := bytes_any of_ 1 (by decide)
             refine WL.call eg_18 rfl rfl (hBc _) ?_)
          | (have hc9 : 200 < on := h68
             obtain ⟨Bx, hBl, hBc⟩ := bytes_any of_ 1 (by decide)
             refine WL.call eg_18 rfl rfl (hBc _) ?_)
          | (obtain ⟨Bx, hBl, hBc⟩ := bytes_any of_ on (by omega)
             refine WL.call eg_18 rfl rfl (hBc _) ?_)
        rintro v w3 ⟨⟨g, rfl, hb9, hgw, hgl⟩, k3⟩
        have hgN : ∀ x, A x ∨ B x → x ≠ g := fun x hx e => by have := hA0 x hx; omega
        have hg1g : g_1 < g := by omega
        have zs_k3 := k3.size
        replace h := h.pure k3
        replace hp := hp.pure k3
        replace hw := hw.pure k3
        replace hX := hX.pure k3
        refine WL.assign rfl rfl (WL.nil (WX.then_normal (WC.seq (WC.region (WL.move rfl rfl (?_))))))
        refine WL.toStr Try.underlying43 Try.underlying5 Try.underlying9 hb9.rsl rfl rfl ?_
        refine WL.assign rfl rfl (WL.nil (WX.then_normal (WC.seq (WC.region (WL.move rfl rfl (WL.fieldAddr (fld_39_1) rfl rfl (WL.loadB Try.isAgg3 hX rfl rfl rfl (?_))))))))
        refine WL.fieldAddr (fld_39_2) rfl rfl (WL.loadB Try.isAgg3 hX rfl rfl rfl (WL.move rfl rfl (?_)))
        refine WL.call eg_17 rfl rfl (Write_calls h.r od oa hb9.rsl (fun x h1 h2 => hgN R (.inl h.r.aR) (h2.symm.trans h1)) (by omega)) ?_
        rintro v w4 ⟨rfl, hR4, k4⟩
        have h4 := h.left (fun x hx => ⟨by omega, by omega⟩) hR4 k4
        replace hb9 := hb9.chg k4 (fun x _ e m => hgN x (.inl m) e)
        replace hX := hX.chg k4 (fun m => (h.a _ m).1.2 rfl)
        replace hw := hw.chg k4 (fun x _ m => (h.a x m).1.1)
        have z4 := k4.size
        have hgN4 : ∀ x, ((A x ∨ w3.heap.size ≤ x) ∧ x < w4.heap.size) ∨ B x → x ≠ g := fun x hx e => by
          rcases hx with hx | hx
          ·
            rcases hx.1 with hx | hx
            ·
              exact hgN x (.inl hx) e
            ·
              omega
          ·
            exact hgN x (.inr hx) e
        refine WL.assign rfl rfl (WL.nil (WX.then_normal (WC.seq (WC.seq (WC.region (WL.assign rfl rfl (WL.nil (?_))))))))
        refine WX.then_normal (WC.block (?_))
        refine WC.loop (σ := Nat × List UInt8) (fun q => [(1, ptr D), (5, ptr g_1), (14, .slice (some ⟨g, 0, none⟩) q.2.length Bx.length), (15, .string (bs Bx)), (16, vi (writeE s od oa Bx.length)), (17, vi q.1)])
          (fun q w' => q.1 ≤ Bx.length ∧ q.2.length = Bx.length ∧ Row (· = g) w' 5 eb (some ⟨g, 0, none⟩) Bx.length q.2 ∧ H2 (fun x => lo ≤ x ∧ x ≠ g_1) w' R D (fun x => (A x ∨ w3.heap.size ≤ x) ∧ x < w4.heap.size) B (writeS s od oa Bx) s ∧ Blk w' g_1 39 [vi ok, vi od, vi oa, vi of_, vi on, .slice opa ops.length opc] ∧ Chg (fun x => lo ≤ x) w w') (fun q => Bx.length - q.1) (0, Bx) ⟨rfl, rfl, rfl, rfl, rfl, rfl, trivial⟩ ⟨Nat.zero_le _, rfl, hb9, h4, hX, hw⟩ ?_
        clear hb9 h4 h hX hw hp
        rintro ⟨i, ys⟩ w5 ⟨hi, hyl, hb9, h, hX, hw⟩
        simp only at hi hyl hb9
        dsimp only
        refine WC.seq (WC.seq (WC.region (WL.move rfl rfl (WL.move rfl rfl (WL.len Try.underlying43 rfl rfl (?_))))))
        refine WL.lss? rfl rfl rfl (fun h86 => ?_) (fun h86 => ?_)
        ·
          refine WL.nil (WX.then_normal (WC.cond_true rfl (WC.skip (WX.then_normal (WC.seq (WC.block (WC.region (?_))))))))
          refine WL.move rfl rfl (WL.move rfl rfl (?_))
          refine WL.index (sz := 1) (j := i) Try.underlying43 Try.sizeOf5 rfl rfl rfl (by omega) rfl ?_
          refine WL.storeRow (z := (85 : UInt8)) i Try.sizeOf5 hb9 rfl rfl rfl (by show 0 + i * 1 = i; omega) (by omega) rfl ?_
          intro w6 z6 hQ6 k6
          replace h := h.chg k6 (fun x hx e => hgN4 x hx e)
          replace hX := hX.chg k6 (fun e => by have h2 : g_1 = g := e; omega)
          replace hw := hw.chg k6 (fun x _ e => by have h2 : x = g := e; show lo ≤ x; omega)
          refine WL.nil (WX.block_normal (WX.then_normal (WC.region (WL.move rfl rfl (WL.add64 rfl rfl (by first | omega | (constructor <;> omega)) rfl (WL.assign rfl rfl (WL.nil (?_))))))))
          first
            | exact WX.loop_next (i + 1, ys.set i 170) ⟨by show _ = some (Value.slice rao (ys.set i 170).length rcap); rw [List.length_set]; rfl, rfl, rfl, trivial⟩ ⟨by show i + 1 ≤ _; omega, by show (ys.set i 170).length = _; rw [List.length_set]; exact hyl, hQ6, h, hw⟩ (by show rxs.length - (i + 1) < rxs.length - i; omega)
            | exact WX.loop_next (i + 1, ys.set i 85) ⟨rfl, rfl, by show _ = some (Value.slice _ (ys.set i 85).length _); rw [List.length_set]; rfl, rfl, rfl, rfl, trivial⟩ ⟨by show i + 1 ≤ _; omega, by show (ys.set i 85).length = _; rw [List.length_set]; exact hyl, hQ6, h, hX, hw⟩ (by show Bx.length - (i + 1) < Bx.length - i; omega)
        ·
          refine WL.nil (WX.then_normal (WC.cond_false rfl (WC.exit (WX.then_exit (WX.then_exit (WX.block_here (WX.then_normal (?_))))))))
          refine WC.seq (WC.region (WL.move rfl rfl (WL.move rfl rfl (WL.fieldAddr (fld_39_1) rfl rfl (WL.loadB Try.isAgg3 hX rfl rfl rfl (WL.fieldAddr (fld_39_2) rfl rfl (WL.loadB Try.isAgg3 hX rfl rfl rfl (?_))))))))
          refine WL.move rfl rfl (?_)
          refine WL.call eg_25 rfl rfl (dWrite_calls h.d (by omega) od oa Bx) ?_
          rintro v w7 ⟨rfl, hD7, k7⟩
          have hf := h.right (fun x hx => ⟨by have := hw.size; omega, by have := hX.lt; omega⟩) hD7 k7
          replace hw := hw.chg k7 (fun x _ m => (h.b x m).1.1)
          refine WL.eql rfl rfl rfl (WL.assign rfl rfl (WL.nil (WX.then_normal (WC.ret (WX.block_ret (WX.then_ret (?_)))))))
          refine WX.ret1 (.inl rfl) Try.results12 rfl ?_
          have hsl := Nat.le_succ s.waits.length
          first
            | exact ⟨_, rfl, rfl, St.of h (Chg.refl _ _) hsl rfl rfl, hw⟩
            | exact ⟨_, rfl, by simp, St.of hf (Chg.refl _ _) (writeS_len s od oa Bx).1 (writeS_len s od oa Bx).2.1 (writeS_len s od oa Bx).2.2, hw⟩
            | exact ⟨_, rfl, by simp, St.of hf (Chg.refl _ _) (flushS_len s).1 (flushS_len s).2.1 (flushS_len s).2.2, hw⟩
            | exact ⟨_, rfl, rfl, St.of hf (Chg.refl _ _) hsl rfl rfl, hw⟩
            | exact ⟨_, rfl, rfl, St.of hf (Chg.refl _ _) (Nat.zero_le _) rfl rfl, hw⟩
            | exact ⟨_, rfl, by simp, St.of hf (Chg.refl _ _) (loseI_len s od).1 (loseI_len s od).2.1 (loseI_len s od).2.2, hw⟩
            | exact ⟨_, rfl, by simp, St.of hf (Chg.refl _ _) (replaceI_len s od).1 (replaceI_len s od).2.1 (replaceI_len s od).2.2, hw⟩
            | exact ⟨_, rfl, by simp, St.of hf (Chg.refl _ _) (rotI_len s od oa on).1 (rotI_len s od oa on).2.1 (rotI_len s od oa on).2.2, hw⟩
      ·
        refine WL.move rfl rfl (WL.want rfl rfl rfl (WL.move rfl rfl (WL.want rfl rfl rfl (?_))))
        refine WL.gtr? rfl rfl rfl (fun h68 => ?_) (fun h68 => ?_)
        ·
          refine WL.pickF rfl rfl rfl (WL.nil (WX.then_normal (WC.cond_true rfl (WC.region (WL.assign rfl rfl (WL.nil (WX.then_normal (?_))))))))
          refine WC.seq (WC.region (WL.fieldAddr (fld_39_3) rfl rfl (WL.loadB Try.isAgg3 hX rfl rfl rfl (WL.move rfl rfl (?_)))))
          first
            | (have hc9 : on < -200 := h65
               obtain ⟨Bx, hBl, hBc⟩ := bytes_any of_ 1 (by decide)
               refine WL.call eg_18 rfl rfl (hBc _) ?_)
            | (have hc9 : 200 < on := h68
               obtain ⟨Bx, hBl, hBc⟩ := bytes_any of_ 1 (by decide)
               refine WL.call eg_18 rfl rfl (hBc _) ?_)
            | (obtain ⟨Bx, hBl, hBc⟩ := bytes_any of_ on (by omega)
               refine WL.call eg_18 rfl rfl (hBc _) ?_)
          rintro v w3 ⟨⟨g, rfl, hb9, hgw, hgl⟩, k3⟩
          have hgN : ∀ x, A x ∨ B x → x ≠ g := fun x hx e => by have := hA0 x hx; omega
          have hg1g : g_1 < g := by omega
          have zs_k3 := k3.size
          replace h := h.pure k3
          replace hp := hp.pure k3
          replace hw := hw.pure k3
          replace hX := hX.pure k3
          refine WL.assign rfl rfl (WL.nil (WX.then_normal (WC.seq (WC.region (WL.move rfl rfl (?_))))))
          refine WL.toStr Try.underlying43 Try.underlying5 Try.underlying9 hb9.rsl rfl rfl ?_
          refine WL.assign rfl rfl (WL.nil (WX.then_normal (WC.seq (WC.region (WL.move rfl rfl (WL.fieldAddr (fld_39_1) rfl rfl (WL.loadB Try.isAgg3 hX rfl rfl rfl (?_))))))))
          refine WL.fieldAddr (fld_39_2) rfl rfl (WL.loadB Try.isAgg3 hX rfl rfl rfl (WL.move rfl rfl (?_)))
          refine WL.call eg_17 rfl rfl (Write_calls h.r od oa hb9.rsl (fun x h1 h2 => hgN R (.inl h.r.aR) (h2.symm.trans h1)) (by omega)) ?_
          rintro v w4 ⟨rfl, hR4, k4⟩
          have h4 := h.left (fun x hx => ⟨by omega, by omega⟩) hR4 k4
          replace hb9 := hb9.chg k4 (fun x _ e m => hgN x (.inl m) e)
          replace hX := hX.chg k4 (fun m => (h.a _ m).1.2 rfl)
          replace hw := hw.chg k4 (fun x _ m => (h.a x m).1.1)
          have z4 := k4.size
          have hgN4 : ∀ x, ((A x ∨ w3.heap.size ≤ x) ∧ x < w4.heap.size) ∨ B x → x ≠ g := fun x hx e => by
            rcases hx with hx | hx
            ·
              rcases hx.1 with hx | hx
              ·
                exact hgN x (.inl hx) e
              ·
                omega
            ·
              exact hgN x (.inr hx) e
          refine WL.assign rfl rfl (WL.nil (WX.then_normal (WC.seq (WC.seq (WC.region (WL.assign rfl rfl (WL.nil (?_))))))))
          refine WX.then_normal (WC.block (?_))
          refine WC.loop (σ := Nat × List UInt8) (fun q => [(1, ptr D), (5, ptr g_1), (14, .slice (some ⟨g, 0, none⟩) q.2.length Bx.length), (15, .string (bs Bx)), (16, vi (writeE s od oa Bx.length)), (17, vi q.1)])
            (fun q w' => q.1 ≤ Bx.length ∧ q.2.length = Bx.length ∧ Row (· = g) w' 5 eb (some ⟨g, 0, none⟩) Bx.length q.2 ∧ H2 (fun x => lo ≤ x ∧ x ≠ g_1) w' R D (fun x => (A x ∨ w3.heap.size ≤ x) ∧ x < w4.heap.size) B (writeS s od oa Bx) s ∧ Blk w' g_1 39 [vi ok, vi od, vi oa, vi of_, vi on, .slice opa ops.length opc] ∧ Chg (fun x => lo ≤ x) w w') (fun q => Bx.length - q.1) (0, Bx) ⟨rfl, rfl, rfl, rfl, rfl, rfl, trivial⟩ ⟨Nat.zero_le _, rfl, hb9, h4, hX, hw⟩ ?_
          clear hb9 h4 h hX hw hp
          rintro ⟨i, ys⟩ w5 ⟨hi, hyl, hb9, h, hX, hw⟩
          simp only at hi hyl hb9
          dsimp only
          refine WC.seq (WC.seq (WC.region (WL.move rfl rfl (WL.move rfl rfl (WL.len Try.underlying43 rfl rfl (?_))))))
          refine WL.lss? rfl rfl rfl (fun h86 => ?_) (fun h86 => ?_)
          ·
            refine WL.nil (WX.then_normal (WC.cond_true rfl (WC.skip (WX.then_normal (WC.seq (WC.block (WC.region (?_))))))))
            refine WL.move rfl rfl (WL.move rfl rfl (?_))
            refine WL.index (sz := 1) (j := i) Try.underlying43 Try.sizeOf5 rfl rfl rfl (by omega) rfl ?_
            refine WL.storeRow (z := (85 : UInt8)) i Try.sizeOf5 hb9 rfl rfl rfl (by show 0 + i * 1 = i; omega) (by omega) rfl ?_
            intro w6 z6 hQ6 k6
            replace h := h.chg k6 (fun x hx e => hgN4 x hx e)
            replace hX := hX.chg k6 (fun e => by have h2 : g_1 = g := e; omega)
            replace hw := hw.chg k6 (fun x _ e => by have h2 : x = g := e; show lo ≤ x; omega)
            refine WL.nil (WX.block_normal (WX.then_normal (WC.region (WL.move rfl rfl (WL.add64 rfl rfl (by first | omega | (constructor <;> omega)) rfl (WL.assign rfl rfl (WL.nil (?_))))))))
            first
              | exact WX.loop_next (i + 1, ys.set i 170) ⟨by show _ = some (Value.slice rao (ys.set i 170).length rcap); rw [List.length_set]; rfl, rfl, rfl, trivial⟩ ⟨by show i + 1 ≤ _; omega, by show (ys.set i 170).length = _; rw [List.length_set]; exact hyl, hQ6, h, hw⟩ (by show rxs.length - (i + 1) < rxs.length - i; omega)
              | exact WX.loop_next (i + 1, ys.set i 85) ⟨rfl, rfl, by show _ = some (Value.slice _ (ys.set i 85).length _); rw [List.length_set]; rfl, rfl, rfl, rfl, trivial⟩ ⟨by show i + 1 ≤ _; omega, by show (ys.set i 85).length = _; rw [List.length_set]; exact hyl, hQ6, h, hX, hw⟩ (by show Bx.length - (i + 1) < Bx.length - i; omega)
          ·
            refine WL.nil (WX.then_normal (WC.cond_false rfl (WC.exit (WX.then_exit (WX.then_exit (WX.block_here (WX.then_normal (?_))))))))
            refine WC.seq (WC.region (WL.move rfl rfl (WL.move rfl rfl (WL.fieldAddr (fld_39_1) rfl rfl (WL.loadB Try.isAgg3 hX rfl rfl rfl (WL.fieldAddr (fld_39_2) rfl rfl (WL.loadB Try.isAgg3 hX rfl rfl rfl (?_))))))))
            refine WL.move rfl rfl (?_)
            refine WL.call eg_25 rfl rfl (dWrite_calls h.d (by omega) od oa Bx) ?_
            rintro v w7 ⟨rfl, hD7, k7⟩
            have hf := h.right (fun x hx => ⟨by have := hw.size; omega, by have := hX.lt; omega⟩) hD7 k7
            replace hw := hw.chg k7 (fun x _ m => (h.b x m).1.1)
            refine WL.eql rfl rfl rfl (WL.assign rfl rfl (WL.nil (WX.then_normal (WC.ret (WX.block_ret (WX.then_ret (?_)))))))
            refine WX.ret1 (.inl rfl) Try.results12 rfl ?_
            have hsl := Nat.le_succ s.waits.length
            first
              | exact ⟨_, rfl, rfl, St.of h (Chg.refl _ _) hsl rfl rfl, hw⟩
              | exact ⟨_, rfl, by simp, St.of hf (Chg.refl _ _) (writeS_len s od oa Bx).1 (writeS_len s od oa Bx).2.1 (writeS_len s od oa Bx).2.2, hw⟩
              | exact ⟨_, rfl, by simp, St.of hf (Chg.refl _ _) (flushS_len s).1 (flushS_len s).2.1 (flushS_len s).2.2, hw⟩
              | exact ⟨_, rfl, rfl, St.of hf (Chg.refl _ _) hsl rfl rfl, hw⟩
              | exact ⟨_, rfl, rfl, St.of hf (Chg.refl _ _) (Nat.zero_le _) rfl rfl, hw⟩
              | exact ⟨_, rfl, by simp, St.of hf (Chg.refl _ _) (loseI_len s od).1 (loseI_len s od).2.1 (loseI_len s od).2.2, hw⟩
              | exact ⟨_, rfl, by simp, St.of hf (Chg.refl _ _) (replaceI_len s od).1 (replaceI_len s od).2.1 (replaceI_len s od).2.2, hw⟩
              | exact ⟨_, rfl, by simp, St.of hf (Chg.refl _ _) (rotI_len s od oa on).1 (rotI_len s od oa on).2.1 (rotI_len s od oa on).2.2, hw⟩
        ·
          refine WL.pickF rfl rfl rfl (WL.nil (WX.then_normal (WC.cond_false rfl (WC.skip (WX.then_normal (WC.seq (WC.region (?_))))))))
          refine WL.fieldAddr (fld_39_3) rfl rfl (WL.loadB Try.isAgg3 hX rfl rfl rfl (WL.move rfl rfl (?_)))
          first
            | (have hc9 : on < -200 := h65
               obtain ⟨Bx, hBl, hBc⟩ := bytes_any of_ 1 (by decide)
               refine WL.call eg_18 rfl rfl (hBc _) ?_)
            | (have hc9 : 200 < on := h68
               obtain ⟨Bx, hBl, hBc⟩ := bytes_any of_ 1 (by decide)
               refine WL.call eg_18 rfl rfl (hBc _) ?_)
            | (obtain ⟨Bx, hBl, hBc⟩ := bytes_any of_ on (by omega)
               refine WL.call eg_18 rfl rfl (hBc _) ?_)
          rintro v w3 ⟨⟨g, rfl, hb9, hgw, hgl⟩, k3⟩
          have hgN : ∀ x, A x ∨ B x → x ≠ g := fun x hx e => by have := hA0 x hx; omega
          have hg1g : g_1 < g := by omega
          have zs_k3 := k3.size
          replace h := h.pure k3
          replace hp := hp.pure k3
          replace hw := hw.pure k3
          replace hX := hX.pure k3
          refine WL.assign rfl rfl (WL.nil (WX.then_normal (WC.seq (WC.region (WL.move rfl rfl (?_))))))
          refine WL.toStr Try.underlying43 Try.underlying5 Try.underlying9 hb9.rsl rfl rfl ?_
          refine WL.assign rfl rfl (WL.nil (WX.then_normal (WC.seq (WC.region (WL.move rfl rfl (WL.fieldAddr (fld_39_1) rfl rfl (WL.loadB Try.isAgg3 hX rfl rfl rfl (?_))))))))
          refine WL.fieldAddr (fld_39_2) rfl rfl (WL.loadB Try.isAgg3 hX rfl rfl rfl (WL.move rfl rfl (?_)))
          refine WL.call eg_17 rfl rfl (Write_calls h.r od oa hb9.rsl (fun x h1 h2 => hgN R (.inl h.r.aR) (h2.symm.trans h1)) (by omega)) ?_
          rintro v w4 ⟨rfl, hR4, k4⟩
          have h4 := h.left (fun x hx => ⟨by omega, by omega⟩) hR4 k4
          replace hb9 := hb9.chg k4 (fun x _ e m => hgN x (.inl m) e)
          replace hX := hX.chg k4 (fun m => (h.a _ m).1.2 rfl)
          replace hw := hw.chg k4 (fun x _ m => (h.a x m).1.1)
          have z4 := k4.size
          have hgN4 : ∀ x, ((A x ∨ w3.heap.size ≤ x) ∧ x < w4.heap.size) ∨ B x → x ≠ g := fun x hx e => by
            rcases hx with hx | hx
            ·
              rcases hx.1 with hx | hx
              ·
                exact hgN x (.inl hx) e
              ·
                omega
            ·
              exact hgN x (.inr hx) e
          refine WL.assign rfl rfl (WL.nil (WX.then_normal (WC.seq (WC.seq (WC.region (WL.assign rfl rfl (WL.nil (?_))))))))
          refine WX.then_normal (WC.block (?_))
          refine WC.loop (σ := Nat × List UInt8) (fun q => [(1, ptr D), (5, ptr g_1), (14, .slice (some ⟨g, 0, none⟩) q.2.length Bx.length), (15, .string (bs Bx)), (16, vi (writeE s od oa Bx.length)), (17, vi q.1)])
            (fun q w' => q.1 ≤ Bx.length ∧ q.2.length = Bx.length ∧ Row (· = g) w' 5 eb (some ⟨g, 0, none⟩) Bx.length q.2 ∧ H2 (fun x => lo ≤ x ∧ x ≠ g_1) w' R D (fun x => (A x ∨ w3.heap.size ≤ x) ∧ x < w4.heap.size) B (writeS s od oa Bx) s ∧ Blk w' g_1 39 [vi ok, vi od, vi oa, vi of_, vi on, .slice opa ops.length opc] ∧ Chg (fun x => lo ≤ x) w w') (fun q => Bx.length - q.1) (0, Bx) ⟨rfl, rfl, rfl, rfl, rfl, rfl, trivial⟩ ⟨Nat.zero_le _, rfl, hb9, h4, hX, hw⟩ ?_
          clear hb9 h4 h hX hw hp
          rintro ⟨i, ys⟩ w5 ⟨hi, hyl, hb9, h, hX, hw⟩
          simp only at hi hyl hb9
          dsimp only
          refine WC.seq (WC.seq (WC.region (WL.move rfl rfl (WL.move rfl rfl (WL.len Try.underlying43 rfl rfl (?_))))))
          refine WL.lss? rfl rfl rfl (fun h86 => ?_) (fun h86 => ?_)
          ·
            refine WL.nil (WX.then_normal (WC.cond_true rfl (WC.skip (WX.then_normal (WC.seq (WC.block (WC.region (?_))))))))
            refine WL.move rfl rfl (WL.move rfl rfl (?_))
            refine WL.index (sz := 1) (j := i) Try.underlying43 Try.sizeOf5 rfl rfl rfl (by omega) rfl ?_
            refine WL.storeRow (z := (85 : UInt8)) i Try.sizeOf5 hb9 rfl rfl rfl (by show 0 + i * 1 = i; omega) (by omega) rfl ?_
            intro w6 z6 hQ6 k6
            replace h := h.chg k6 (fun x hx e => hgN4 x hx e)
            replace hX := hX.chg k6 (fun e => by have h2 : g_1 = g := e; omega)
            replace hw := hw.chg k6 (fun x _ e => by have h2 : x = g := e; show lo ≤ x; omega)
            refine WL.nil (WX.block_normal (WX.then_normal (WC.region (WL.move rfl rfl (WL.add64 rfl rfl (by first | omega | (constructor <;> omega)) rfl (WL.assign rfl rfl (WL.nil (?_))))))))
            first
              | exact WX.loop_next (i + 1, ys.set i 170) ⟨by show _ = some (Value.slice rao (ys.set i 170).length rcap); rw [List.length_set]; rfl, rfl, rfl, trivial⟩ ⟨by show i + 1 ≤ _; omega, by show (ys.set i 170).length = _; rw [List.length_set]; exact hyl, hQ6, h, hw⟩ (by show rxs.length - (i + 1) < rxs.length - i; omega)
              | exact WX.loop_next (i + 1, ys.set i 85) ⟨rfl, rfl, by show _ = some (Value.slice _ (ys.set i 85).length _); rw [List.length_set]; rfl, rfl, rfl, rfl, trivial⟩ ⟨by show i + 1 ≤ _; omega, by show (ys.set i 85).length = _; rw [List.length_set]; exact hyl, hQ6, h, hX, hw⟩ (by show Bx.length - (i + 1) < Bx.length - i; omega)
          ·
            refine WL.nil (WX.then_normal (WC.cond_false rfl (WC.exit (WX.then_exit (WX.then_exit (WX.block_here (WX.then_normal (?_))))))))
            refine WC.seq (WC.region (WL.move rfl rfl (WL.move rfl rfl (WL.fieldAddr (fld_39_1) rfl rfl (WL.loadB Try.isAgg3 hX rfl rfl rfl (WL.fieldAddr (fld_39_2) rfl rfl (WL.loadB Try.isAgg3 hX rfl rfl rfl (?_))))))))
            refine WL.move rfl rfl (?_)
            refine WL.call eg_25 rfl rfl (dWrite_calls h.d (by omega) od oa Bx) ?_
            rintro v w7 ⟨rfl, hD7, k7⟩
            have hf := h.right (fun x hx => ⟨by have := hw.size; omega, by have := hX.lt; omega⟩) hD7 k7
            replace hw := hw.chg k7 (fun x _ m => (h.b x m).1.1)
            refine WL.eql rfl rfl rfl (WL.assign rfl rfl (WL.nil (WX.then_normal (WC.ret (WX.block_ret (WX.then_ret (?_)))))))
            refine WX.ret1 (.inl rfl) Try.results12 rfl ?_
            have hsl := Nat.le_succ s.waits.length
            first
              | exact ⟨_, rfl, rfl, St.of h (Chg.refl _ _) hsl rfl rfl, hw⟩
              | exact ⟨_, rfl, by simp, St.of hf (Chg.refl _ _) (writeS_len s od oa Bx).1 (writeS_len s od oa Bx).2.1 (writeS_len s od oa Bx).2.2, hw⟩
              | exact ⟨_, rfl, by simp, St.of hf (Chg.refl _ _) (flushS_len s).1 (flushS_len s).2.1 (flushS_len s).2.2, hw⟩
              | exact ⟨_, rfl, rfl, St.of hf (Chg.refl _ _) hsl rfl rfl, hw⟩
              | exact ⟨_, rfl, rfl, St.of hf (Chg.refl _ _) (Nat.zero_le _) rfl rfl, hw⟩
              | exact ⟨_, rfl, by simp, St.of hf (Chg.refl _ _) (loseI_len s od).1 (loseI_len s od).2.1 (loseI_len s od).2.2, hw⟩
              | exact ⟨_, rfl, by simp, St.of hf (Chg.refl _ _) (replaceI_len s od).1 (replaceI_len s od).2.1 (replaceI_len s od).2.2, hw⟩
              | exact ⟨_, rfl, by simp, St.of hf (Chg.refl _ _) (rotI_len s od oa on).1 (rotI_len s od oa on).2.1 (rotI_len s od oa on).2.2, hw⟩
    ·
      refine WL.assign rfl rfl (WL.nil (WX.then_normal (WC.cond_false rfl (WC.seq (WC.region (?_))))))
      refine WL.eql? rfl rfl rfl (fun h102 => ?_) (fun h102 => ?_)
      ·
        refine WL.assign rfl rfl (WL.nil (WX.then_normal (WC.cond_true rfl (WC.seq (WC.region (WL.move rfl rfl (?_)))))))
        refine WL.call eg_6 rfl rfl (Flush_calls h.r) ?_
        rintro v w3 ⟨rfl, hR3, k3⟩
        have h3 := h.left0 hL hR3 k3
        replace hw := hw.chg k3 (fun x _ m => (h.a x m).1.1)
        have z3 := k3.size
        refine WL.move rfl rfl (?_)
        refine WL.call eg_26 rfl rfl (dFlush_calls h3.d (by omega)) ?_
        rintro v w4 ⟨rfl, hD4, k4⟩
        have hf := h3.right0 (fun x hx => ⟨by omega, by omega⟩) hD4 k4
        replace hw := hw.chg k4 (fun x _ m => (h3.b x m).1.1)
        refine WL.eql rfl rfl rfl (WL.assign rfl rfl (WL.nil (WX.then_normal (WC.ret (WX.block_ret (WX.then_ret (?_)))))))
        refine WX.ret1 (.inl rfl) Try.results12 rfl ?_
        have hsl := Nat.le_succ s.waits.length
        first
          | exact ⟨_, rfl, rfl, St.of h (Chg.refl _ _) hsl rfl rfl, hw⟩
          | exact ⟨_, rfl, by simp, St.of hf (Chg.refl _ _) (writeS_len s od oa Bx).1 (writeS_len s od oa Bx).2.1 (writeS_len s od oa Bx).2.2, hw⟩
          | exact ⟨_, rfl, by simp, St.of hf (Chg.refl _ _) (flushS_len s).1 (flushS_len s).2.1 (flushS_len s).2.2, hw⟩
          | exact ⟨_, rfl, rfl, St.of hf (Chg.refl _ _) hsl rfl rfl, hw⟩
          | exact ⟨_, rfl, rfl, St.of hf (Chg.refl _ _) (Nat.zero_le _) rfl rfl, hw⟩
          | exact ⟨_, rfl, by simp, St.of hf (Chg.refl _ _) (loseI_len s od).1 (loseI_len s od).2.1 (loseI_len s od).2.2, hw⟩
          | exact ⟨_, rfl, by simp, St.of hf (Chg.refl _ _) (replaceI_len s od).1 (replaceI_len s od).2.1 (replaceI_len s od).2.2, hw⟩
          | exact ⟨_, rfl, by simp, St.of hf (Chg.refl _ _) (rotI_len s od oa on).1 (rotI_len s od oa on).2.1 (rotI_len s od oa on).2.2, hw⟩
      ·
        refine WL.assign rfl rfl (WL.nil (WX.then_normal (WC.cond_false rfl (WC.seq (WC.region (?_))))))
        refine WL.eql? rfl rfl rfl (fun h109 => ?_) (fun h109 => ?_)
        ·
          refine WL.assign rfl rfl (WL.nil (WX.then_normal (WC.cond_true rfl (WC.seq (WC.region (WL.move rfl rfl (WL.fieldAddr (fld_39_4) rfl rfl (?_))))))))
          refine WL.loadB Try.isAgg3 hX rfl rfl rfl (?_)
          refine WL.call eg_27 rfl rfl (Arm_calls h.r on hon') ?_
          rintro v w3 ⟨rfl, hR3, k3⟩
          have h3 := h.left0 hL hR3 k3
          replace hX := hX.chg k3 (fun m => (h.a _ m).1.2 rfl)
          replace hw := hw.chg k3 (fun x _ m => (h.a x m).1.1)
          have z3 := k3.size
          refine WL.nil (WX.then_normal (WC.seq (WC.region (WL.move rfl rfl (WL.fieldAddr (fld_39_4) rfl rfl (WL.loadB Try.isAgg3 hX rfl rfl rfl (?_)))))))
          refine WL.call eg_28 rfl rfl (dArm_calls h3.d on hon') ?_
          rintro v w4 ⟨rfl, hD4, k4⟩
          have hf := h3.right0 (fun x hx => ⟨by omega, by omega⟩) hD4 k4
          replace hw := hw.chg k4 (fun x _ m => (h3.b x m).1.1)
          refine WL.nil (WX.then_normal (WC.seq (WC.region (WL.assign rfl rfl (WL.nil (WX.then_normal (WC.ret (?_))))))))
          refine WX.block_ret (WX.then_ret (?_))
          refine WX.ret1 (.inl rfl) Try.results12 rfl ?_
          have hsl := Nat.le_succ s.waits.length
          first
            | exact ⟨_, rfl, rfl, St.of h (Chg.refl _ _) hsl rfl rfl, hw⟩
            | exact ⟨_, rfl, by simp, St.of hf (Chg.refl _ _) (writeS_len s od oa Bx).1 (writeS_len s od oa Bx).2.1 (writeS_len s od oa Bx).2.2, hw⟩
            | exact ⟨_, rfl, by simp, St.of hf (Chg.refl _ _) (flushS_len s).1 (flushS_len s).2.1 (flushS_len s).2.2, hw⟩
            | exact ⟨_, rfl, rfl, St.of hf (Chg.refl _ _) hsl rfl rfl, hw⟩
            | exact ⟨_, rfl, rfl, St.of hf (Chg.refl _ _) (Nat.zero_le _) rfl rfl, hw⟩
            | exact ⟨_, rfl, by simp, St.of hf (Chg.refl _ _) (loseI_len s od).1 (loseI_len s od).2.1 (loseI_len s od).2.2, hw⟩
            | exact ⟨_, rfl, by simp, St.of hf (Chg.refl _ _) (replaceI_len s od).1 (replaceI_len s od).2.1 (replaceI_len s od).2.2, hw⟩
            | exact ⟨_, rfl, by simp, St.of hf (Chg.refl _ _) (rotI_len s od oa on).1 (rotI_len s od oa on).2.1 (rotI_len s od oa on).2.2, hw⟩
        ·
          refine WL.assign rfl rfl (WL.nil (WX.then_normal (WC.cond_false rfl (WC.seq (WC.region (?_))))))
          refine WL.eql? rfl rfl rfl (fun h119 => ?_) (fun h119 => ?_)
          ·
            refine WL.assign rfl rfl (WL.nil (WX.then_normal (WC.cond_true rfl (WC.seq (WC.region (WL.move rfl rfl (?_)))))))
            refine WL.build (e := ei) [] Try.underlying37 Try.sizeOf3 Try.zeroValue3 rfl rfl rfl (by first | (simp [Value.cells]; done) | (simp [Value.cells] <;> rfl) | (simp [Value.cells, eb, ei, es, ebool, e32, e64]; done)) (by decide) rfl ?_
            intro a_b121 w_b121 b121 l_b121 z_b121 k_b121
            have zs_k_b121 := k_b121.size
            replace h := h.pure k_b121
            replace hp := hp.pure k_b121
            replace hw := hw.pure k_b121
            replace hX := hX.pure k_b121
            refine WL.fieldAddr (fld_39_5) rfl rfl (WL.loadB Try.isAgg37 hX rfl rfl rfl (?_))
            refine WL.append (e := ei) (S := fun x => w_1.heap.size ≤ x) info_3 rfl Try.underlying37 rfl rfl (b121.mono (fun x hx => hx)) (hp.src Try.underlying37) (by constructor <;> (simp only [List.length_nil]; omega)) (fun x hx => by omega) rfl ?_
            intro a9 c9 w9 hO9 g9 n9
            have k9 := g9.chg
            rw [List.nil_append] at hO9 ⊢
            have h9 := h.chg k9 (fun x hx m => by have := hA0 x hx; have := m.2; omega)
            replace hp := hp.chg k9 (fun x _ h1 m => by have := m.2; omega)
            replace hX := hX.chg k9 (fun m => by have := m.2; omega)
            replace hw := hw.chg k9 (fun x _ m => by have := m.2; show lo ≤ x; omega)
            have z9 := k9.size
            refine WL.call eg_13 rfl rfl (Crash_calls h9.r hO9.rsl (fun x h1 h2 => by have := hA0 x (.inl h2); have h3 : w_1.heap.size ≤ x := h1; omega)) ?_
            rintro v w3 ⟨rfl, hR3, k3⟩
            have h3 := h9.left0 (fun x hx => ⟨by omega, by omega⟩) hR3 k3
            replace hp := hp.chg k3 (fun x _ h1 m => by have := (h9.a x m).1.1; omega)
            replace hX := hX.chg k3 (fun m => (h9.a _ m).1.2 rfl)
            replace hw := hw.chg k3 (fun x _ m => (h9.a x m).1.1)
            have z3 := k3.size
            refine WL.nil (WX.then_normal (WC.seq (WC.region (WL.move rfl rfl (WL.fieldAddr (fld_39_5) rfl rfl (WL.loadB Try.isAgg37 hX rfl rfl rfl (?_)))))))
            refine WL.call eg_14 rfl rfl (dCrash_calls h3.d (by omega) hp (fun x h1 h2 => by have := (h3.b x h2).1.1; omega)) ?_
            rintro v w4 ⟨rfl, hD4, k4⟩
            have hf := h3.right0 (fun x hx => ⟨by omega, by omega⟩) hD4 k4
            replace hw := hw.chg k4 (fun x _ m => (h3.b x m).1.1)
            refine WL.nil (WX.then_normal (WC.seq (WC.region (WL.assign rfl rfl (WL.nil (WX.then_normal (WC.ret (?_))))))))
            refine WX.block_ret (WX.then_ret (?_))
            refine WX.ret1 (.inl rfl) Try.results12 rfl ?_
            have hsl := Nat.le_succ s.waits.length
            first
              | exact ⟨_, rfl, rfl, St.of h (Chg.refl _ _) hsl rfl rfl, hw⟩
              | exact ⟨_, rfl, by simp, St.of hf (Chg.refl _ _) (writeS_len s od oa Bx).1 (writeS_len s od oa Bx).2.1 (writeS_len s od oa Bx).2.2, hw⟩
              | exact ⟨_, rfl, by simp, St.of hf (Chg.refl _ _) (flushS_len s).1 (flushS_len s).2.1 (flushS_len s).2.2, hw⟩
              | exact ⟨_, rfl, rfl, St.of hf (Chg.refl _ _) hsl rfl rfl, hw⟩
              | exact ⟨_, rfl, rfl, St.of hf (Chg.refl _ _) (Nat.zero_le _) rfl rfl, hw⟩
              | exact ⟨_, rfl, by simp, St.of hf (Chg.refl _ _) (loseI_len s od).1 (loseI_len s od).2.1 (loseI_len s od).2.2, hw⟩
              | exact ⟨_, rfl, by simp, St.of hf (Chg.refl _ _) (replaceI_len s od).1 (replaceI_len s od).2.1 (replaceI_len s od).2.2, hw⟩
              | exact ⟨_, rfl, by simp, St.of hf (Chg.refl _ _) (rotI_len s od oa on).1 (rotI_len s od oa on).2.1 (rotI_len s od oa on).2.2, hw⟩
          ·
            refine WL.assign rfl rfl (WL.nil (WX.then_normal (WC.cond_false rfl (WC.seq (WC.region (?_))))))
            refine WL.eql? rfl rfl rfl (fun h131 => ?_) (fun h131 => ?_)
            ·
              refine WL.assign rfl rfl (WL.nil (WX.then_normal (WC.cond_true rfl (WC.seq (?_)))))
              refine WC.draw ((fun x => lo ≤ x ∧ x ≠ g_1)) [0, 1, 2, 4, 5, 6] [3, 7, 8, 9] mixed rfl rfl (fun wd_2 kd_2 zd_2 => ?_)
              have zs_kd_2 := kd_2.size
              replace h := h.pure kd_2
              replace hp := hp.pure kd_2
              replace hw := hw.pure kd_2
              replace hX := hX.pure kd_2
              apply DQ.step (E' := [(0, _)])
              case ho => rfl
              case hs => exact ⟨rfl, trivial⟩
              case hk => rfl
              case h1 =>
                intro wq_4 kq_4
                refine WL.move rfl rfl (?_)
                refine WL.nil ?_
                exact WX.one ⟨rfl, by first | exact Chg.refl _ _ | assumption⟩
              apply DQ.step (E' := [(5, _)])
              case ho => rfl
              case hs => exact ⟨rfl, trivial⟩
              case hk => rfl
              case h1 =>
                intro wq_5 kq_5
                refine WL.fieldAddr (fld_39_1) rfl rfl (?_)
                refine WL.nil ?_
                exact WX.one ⟨rfl, by first | exact Chg.refl _ _ | assumption⟩
              apply DQ.step (E' := [(133, _)])
              case ho => rfl
              case hs => exact ⟨rfl, trivial⟩
              case hk => rfl
              case h1 =>
                intro wq_6 kq_6
                have zs_kq_6 := kq_6.size
                replace hX := hX.chg kq_6 (by first | (intro x h1 h2; exact h2) | (intro x h1 h2; have h3 : _ = _ := h2; exfalso; omega) | (intro b h1 h2 h3; have h4 : _ = _ := h3; (try dsimp only at h2); exfalso; omega) | (intro h1; have h2 : _ = _ := h1; exfalso; omega) | (intro h1; have h2 : _ ≤ _ := h1; exfalso; omega) | (intros; exfalso; (try dsimp only at *); omega) | (intro b h1 h2 h3; exfalso; have h4 := h3.2; (try dsimp only at *); omega) | (intro h1; exfalso; have h4 := h1.2; (try dsimp only at *); omega) | (intro x h1 h2; exact h2.1))
                refine WL.loadB Try.isAgg3 hX rfl rfl rfl (?_)
                refine WL.nil ?_
                exact WX.one ⟨rfl, by first | exact Chg.refl _ _ | assumption⟩
              apply DQ.step (E' := [(1, _)])
              case ho => rfl
              case hs => exact ⟨rfl, trivial⟩
              case hk => rfl
              case h1 =>
                intro wq_7 kq_7
                refine WL.move rfl rfl (?_)
                refine WL.nil ?_
                exact WX.one ⟨rfl, by first | exact Chg.refl _ _ | assumption⟩
              apply DQ.step (E' := [(5, _)])
              case ho => rfl
              case hs => exact ⟨rfl, trivial⟩
              case hk => rfl
              case h1 =>
                intro wq_8 kq_8
                refine WL.fieldAddr (fld_39_1) rfl rfl (?_)
                refine WL.nil ?_
                exact WX.one ⟨rfl, by first | exact Chg.refl _ _ | assumption⟩
              apply DQ.step (E' := [(137, _)])
              case ho => rfl
              case hs => exact ⟨rfl, trivial⟩
              case hk => rfl
              case h1 =>
                intro wq_9 kq_9
                have zs_kq_9 := kq_9.size
                replace hX := hX.chg kq_9 (by first | (intro x h1 h2; exact h2) | (intro x h1 h2; have h3 : _ = _ := h2; exfalso; omega) | (intro b h1 h2 h3; have h4 : _ = _ := h3; (try dsimp only at h2); exfalso; omega) | (intro h1; have h2 : _ = _ := h1; exfalso; omega) | (intro h1; have h2 : _ ≤ _ := h1; exfalso; omega) | (intros; exfalso; (try dsimp only at *); omega) | (intro b h1 h2 h3; exfalso; have h4 := h3.2; (try dsimp only at *); omega) | (intro h1; exfalso; have h4 := h1.2; (try dsimp only at *); omega) | (intro x h1 h2; exact h2.1))
                refine WL.loadB Try.isAgg3 hX rfl rfl rfl (?_)
                refine WL.nil ?_
                exact WX.one ⟨rfl, by first | exact Chg.refl _ _ | assumption⟩
              refine DQ.done (fun hd_3 => ?_)
              refine DL.step [(132, _), (134, _)] rfl ⟨rfl, rfl, trivial⟩ rfl (fun wq_10 kq_10 => ?_)
              have zs_kq_10 := kq_10.size
              replace h := h.pure kq_10
              replace hp := hp.pure kq_10
              replace hw := hw.pure kq_10
              replace hX := hX.pure kq_10
              replace hd_3 := hd_3.pure kq_10
              refine WL.call eg_7 rfl rfl (Lose_calls h.r od) ?_
              rintro v w3 ⟨rfl, hR3, k3⟩
              have h3 := h.left0 (fun x hx => ⟨by omega, by omega⟩) hR3 k3
              have hk3 := k3.mono (M' := fun x => lo ≤ x ∧ x ≠ g_1) (fun x _ m => (h.a x m).1)
              have z3 := k3.size
              have zs_hk3 := hk3.size
              replace hp := hp.chg hk3 (by first | (intro x h1 h2; exact h2) | (intro x h1 h2; have h3 : _ = _ := h2; exfalso; omega) | (intro b h1 h2 h3; have h4 : _ = _ := h3; (try dsimp only at h2); exfalso; omega) | (intro h1; have h2 : _ = _ := h1; exfalso; omega) | (intro h1; have h2 : _ ≤ _ := h1; exfalso; omega) | (intros; exfalso; (try dsimp only at *); omega) | (intro b h1 h2 h3; exfalso; have h4 := h3.2; (try dsimp only at *); omega) | (intro h1; exfalso; have h4 := h1.2; (try dsimp only at *); omega) | (intro x h1 h2; exact h2.1))
              replace hw := hw.chg hk3 (by first | (intro x h1 h2; exact h2) | (intro x h1 h2; have h3 : _ = _ := h2; exfalso; omega) | (intro b h1 h2 h3; have h4 : _ = _ := h3; (try dsimp only at h2); exfalso; omega) | (intro h1; have h2 : _ = _ := h1; exfalso; omega) | (intro h1; have h2 : _ ≤ _ := h1; exfalso; omega) | (intros; exfalso; (try dsimp only at *); omega) | (intro b h1 h2 h3; exfalso; have h4 := h3.2; (try dsimp only at *); omega) | (intro h1; exfalso; have h4 := h1.2; (try dsimp only at *); omega) | (intro x h1 h2; exact h2.1))
              replace hX := hX.chg hk3 (by first | (intro x h1 h2; exact h2) | (intro x h1 h2; have h3 : _ = _ := h2; exfalso; omega) | (intro b h1 h2 h3; have h4 : _ = _ := h3; (try dsimp only at h2); exfalso; omega) | (intro h1; have h2 : _ = _ := h1; exfalso; omega) | (intro h1; have h2 : _ ≤ _ := h1; exfalso; omega) | (intros; exfalso; (try dsimp only at *); omega) | (intro b h1 h2 h3; exfalso; have h4 := h3.2; (try dsimp only at *); omega) | (intro h1; exfalso; have h4 := h1.2; (try dsimp only at *); omega) | (intro x h1 h2; exact h2.1))
              replace hd_3 := hd_3.chg hk3 (by first | (intro x h1 h2; exact h2) | (intro x h1 h2; have h3 : _ = _ := h2; exfalso; omega) | (intro b h1 h2 h3; have h4 : _ = _ := h3; (try dsimp only at h2); exfalso; omega) | (intro h1; have h2 : _ = _ := h1; exfalso; omega) | (intro h1; have h2 : _ ≤ _ := h1; exfalso; omega) | (intros; exfalso; (try dsimp only at *); omega) | (intro b h1 h2 h3; exfalso; have h4 := h3.2; (try dsimp only at *); omega) | (intro h1; exfalso; have h4 := h1.2; (try dsimp only at *); omega) | (intro x h1 h2; exact h2.1))
              refine WL.nil ?_
              refine WX.one ⟨hd_3, ?_⟩
              refine DL.step [(136, _), (138, _)] rfl ⟨rfl, rfl, trivial⟩ rfl (fun wq_11 kq_11 => ?_)
              have zs_kq_11 := kq_11.size
              replace hp := hp.pure kq_11
              replace hw := hw.pure kq_11
              replace hX := hX.pure kq_11
              replace hd_3 := hd_3.pure kq_11
              replace h3 := h3.pure kq_11
              refine WL.call eg_29 rfl rfl (dLose_calls h3.d (by omega) od) ?_
              rintro v w4 ⟨rfl, hD4, k4⟩
              have hf := h3.right (fun x hx => ⟨by omega, by omega⟩) hD4 k4
              have hk4 := k4.mono (M' := fun x => lo ≤ x ∧ x ≠ g_1) (fun x _ m => (h3.b x m).1)
              have zs_hk4 := hk4.size
              replace hp := hp.chg hk4 (by first | (intro x h1 h2; exact h2) | (intro x h1 h2; have h3 : _ = _ := h2; exfalso; omega) | (intro b h1 h2 h3; have h4 : _ = _ := h3; (try dsimp only at h2); exfalso; omega) | (intro h1; have h2 : _ = _ := h1; exfalso; omega) | (intro h1; have h2 : _ ≤ _ := h1; exfalso; omega) | (intros; exfalso; (try dsimp only at *); omega) | (intro b h1 h2 h3; exfalso; have h4 := h3.2; (try dsimp only at *); omega) | (intro h1; exfalso; have h4 := h1.2; (try dsimp only at *); omega) | (intro x h1 h2; exact h2.1))
              replace hw := hw.chg hk4 (by first | (intro x h1 h2; exact h2) | (intro x h1 h2; have h3 : _ = _ := h2; exfalso; omega) | (intro b h1 h2 h3; have h4 : _ = _ := h3; (try dsimp only at h2); exfalso; omega) | (intro h1; have h2 : _ = _ := h1; exfalso; omega) | (intro h1; have h2 : _ ≤ _ := h1; exfalso; omega) | (intros; exfalso; (try dsimp only at *); omega) | (intro b h1 h2 h3; exfalso; have h4 := h3.2; (try dsimp only at *); omega) | (intro h1; exfalso; have h4 := h1.2; (try dsimp only at *); omega) | (intro x h1 h2; exact h2.1))
              replace hX := hX.chg hk4 (by first | (intro x h1 h2; exact h2) | (intro x h1 h2; have h3 : _ = _ := h2; exfalso; omega) | (intro b h1 h2 h3; have h4 : _ = _ := h3; (try dsimp only at h2); exfalso; omega) | (intro h1; have h2 : _ = _ := h1; exfalso; omega) | (intro h1; have h2 : _ ≤ _ := h1; exfalso; omega) | (intros; exfalso; (try dsimp only at *); omega) | (intro b h1 h2 h3; exfalso; have h4 := h3.2; (try dsimp only at *); omega) | (intro h1; exfalso; have h4 := h1.2; (try dsimp only at *); omega) | (intro x h1 h2; exact h2.1))
              replace hd_3 := hd_3.chg hk4 (by first | (intro x h1 h2; exact h2) | (intro x h1 h2; have h3 : _ = _ := h2; exfalso; omega) | (intro b h1 h2 h3; have h4 : _ = _ := h3; (try dsimp only at h2); exfalso; omega) | (intro h1; have h2 : _ = _ := h1; exfalso; omega) | (intro h1; have h2 : _ ≤ _ := h1; exfalso; omega) | (intros; exfalso; (try dsimp only at *); omega) | (intro b h1 h2 h3; exfalso; have h4 := h3.2; (try dsimp only at *); omega) | (intro h1; exfalso; have h4 := h1.2; (try dsimp only at *); omega) | (intro x h1 h2; exact h2.1))
              refine WL.nil ?_
              refine WX.one ⟨hd_3, ?_⟩
              refine DL.step [(135, _), (139, _)] rfl ⟨rfl, rfl, trivial⟩ rfl (fun wq_12 kq_12 => ?_)
              have zs_kq_12 := kq_12.size
              replace hp := hp.pure kq_12
              replace hw := hw.pure kq_12
              replace hX := hX.pure kq_12
              replace hd_3 := hd_3.pure kq_12
              replace hf := hf.pure kq_12
              refine WL.eql rfl rfl rfl (?_)
              refine WL.nil ?_
              refine WX.one ⟨hd_3, ?_⟩
              refine DL.step [(140, _)] rfl ⟨rfl, trivial⟩ rfl (fun wq_13 kq_13 => ?_)
              have zs_kq_13 := kq_13.size
              replace hp := hp.pure kq_13
              replace hw := hw.pure kq_13
              replace hX := hX.pure kq_13
              replace hd_3 := hd_3.pure kq_13
              replace hf := hf.pure kq_13
              refine WL.assign rfl rfl (?_)
              refine WL.nil ?_
              refine WX.one ⟨hd_3, ?_⟩
              refine DL.done (fun we_14 ke_14 => ?_)
              have zs_ke_14 := ke_14.size
              replace hp := hp.pure ke_14
              replace hw := hw.pure ke_14
              replace hX := hX.pure ke_14
              replace hd_3 := hd_3.pure ke_14
              replace hf := hf.pure ke_14
              refine WX.then_normal (WC.ret (WX.block_ret (WX.then_ret (?_))))
              refine WX.ret1 (.inl rfl) Try.results12 rfl ?_
              have hsl := Nat.le_succ s.waits.length
              first
                | exact ⟨_, rfl, rfl, St.of h (Chg.refl _ _) hsl rfl rfl, hw⟩
                | exact ⟨_, rfl, by simp, St.of hf (Chg.refl _ _) (writeS_len s od oa Bx).1 (writeS_len s od oa Bx).2.1 (writeS_len s od oa Bx).2.2, hw⟩
                | exact ⟨_, rfl, by simp, St.of hf (Chg.refl _ _) (flushS_len s).1 (flushS_len s).2.1 (flushS_len s).2.2, hw⟩
                | exact ⟨_, rfl, rfl, St.of hf (Chg.refl _ _) hsl rfl rfl, hw⟩
                | exact ⟨_, rfl, rfl, St.of hf (Chg.refl _ _) (Nat.zero_le _) rfl rfl, hw⟩
                | exact ⟨_, rfl, by simp, St.of hf (Chg.refl _ _) (loseI_len s od).1 (loseI_len s od).2.1 (loseI_len s od).2.2, hw⟩
                | exact ⟨_, rfl, by simp, St.of hf (Chg.refl _ _) (replaceI_len s od).1 (replaceI_len s od).2.1 (replaceI_len s od).2.2, hw⟩
                | exact ⟨_, rfl, by simp, St.of hf (Chg.refl _ _) (rotI_len s od oa on).1 (rotI_len s od oa on).2.1 (rotI_len s od oa on).2.2, hw⟩
            ·
              refine WL.assign rfl rfl (WL.nil (WX.then_normal (WC.cond_false rfl (WC.seq (WC.region (?_))))))
              refine WL.eql? rfl rfl rfl (fun h142 => ?_) (fun h142 => ?_)
              ·
                refine WL.assign rfl rfl (WL.nil (WX.then_normal (WC.cond_true rfl (WC.seq (?_)))))
                refine WC.draw ((fun x => lo ≤ x ∧ x ≠ g_1)) [0, 1, 2, 4, 5, 6] [3, 7, 8, 9] mixed rfl rfl (fun wd_2 kd_2 zd_2 => ?_)
                have zs_kd_2 := kd_2.size
                replace h := h.pure kd_2
                replace hp := hp.pure kd_2
                replace hw := hw.pure kd_2
                replace hX := hX.pure kd_2
                apply DQ.step (E' := [(0, _)])
                case ho => rfl
                case hs => exact ⟨rfl, trivial⟩
                case hk => rfl
                case h1 =>
                  intro wq_4 kq_4
                  refine WL.move rfl rfl (?_)
                  refine WL.nil ?_
                  exact WX.one ⟨rfl, by first | exact Chg.refl _ _ | assumption⟩
                apply DQ.step (E' := [(5, _)])
                case ho => rfl
                case hs => exact ⟨rfl, trivial⟩
                case hk => rfl
                case h1 =>
                  intro wq_5 kq_5
                  refine WL.fieldAddr (fld_39_1) rfl rfl (?_)
                  refine WL.nil ?_
                  exact WX.one ⟨rfl, by first | exact Chg.refl _ _ | assumption⟩
                apply DQ.step (E' := [(144, _)])
                case ho => rfl
                case hs => exact ⟨rfl, trivial⟩
                case hk => rfl
                case h1 =>
                  intro wq_6 kq_6
                  have zs_kq_6 := kq_6.size
                  replace hX := hX.chg kq_6 (by first | (intro x h1 h2; exact h2) | (intro x h1 h2; have h3 : _ = _ := h2; exfalso; omega) | (intro b h1 h2 h3; have h4 : _ = _ := h3; (try dsimp only at h2); exfalso; omega) | (intro h1; have h2 : _ = _ := h1; exfalso; omega) | (intro h1; have h2 : _ ≤ _ := h1; exfalso; omega) | (intros; exfalso; (try dsimp only at *); omega) | (intro b h1 h2 h3; exfalso; have h4 := h3.2; (try dsimp only at *); omega) | (intro h1; exfalso; have h4 := h1.2; (try dsimp only at *); omega) | (intro x h1 h2; exact h2.1))
                  refine WL.loadB Try.isAgg3 hX rfl rfl rfl (?_)
                  refine WL.nil ?_
                  exact WX.one ⟨rfl, by first | exact Chg.refl _ _ | assumption⟩
                apply DQ.step (E' := [(1, _)])
                case ho => rfl
                case hs => exact ⟨rfl, trivial⟩
                case hk => rfl
                case h1 =>
                  intro wq_7 kq_7
                  refine WL.move rfl rfl (?_)
                  refine WL.nil ?_
                  exact WX.one ⟨rfl, by first | exact Chg.refl _ _ | assumption⟩
                apply DQ.step (E' := [(5, _)])
                case ho => rfl
                case hs => exact ⟨rfl, trivial⟩
                case hk => rfl
                case h1 =>
                  intro wq_8 kq_8
                  refine WL.fieldAddr (fld_39_1) rfl rfl (?_)
                  refine WL.nil ?_
                  exact WX.one ⟨rfl, by first | exact Chg.refl _ _ | assumption⟩
                apply DQ.step (E' := [(148, _)])
                case ho => rfl
                case hs => exact ⟨rfl, trivial⟩
                case hk => rfl
                case h1 =>
                  intro wq_9 kq_9
                  have zs_kq_9 := kq_9.size
                  replace hX := hX.chg kq_9 (by first | (intro x h1 h2; exact h2) | (intro x h1 h2; have h3 : _ = _ := h2; exfalso; omega) | (intro b h1 h2 h3; have h4 : _ = _ := h3; (try dsimp only at h2); exfalso; omega) | (intro h1; have h2 : _ = _ := h1; exfalso; omega) | (intro h1; have h2 : _ ≤ _ := h1; exfalso; omega) | (intros; exfalso; (try dsimp only at *); omega) | (intro b h1 h2 h3; exfalso; have h4 := h3.2; (try dsimp only at *); omega) | (intro h1; exfalso; have h4 := h1.2; (try dsimp only at *); omega) | (intro x h1 h2; exact h2.1))
                  refine WL.loadB Try.isAgg3 hX rfl rfl rfl (?_)
                  refine WL.nil ?_
                  exact WX.one ⟨rfl, by first | exact Chg.refl _ _ | assumption⟩
                refine DQ.done (fun hd_3 => ?_)
                refine DL.step [(143, _), (145, _)] rfl ⟨rfl, rfl, trivial⟩ rfl (fun wq_10 kq_10 => ?_)
                have zs_kq_10 := kq_10.size
                replace h := h.pure kq_10
                replace hp := hp.pure kq_10
                replace hw := hw.pure kq_10
                replace hX := hX.pure kq_10
                replace hd_3 := hd_3.pure kq_10
                refine WL.call eg_30 rfl rfl (Replace_calls h.r od) ?_
                rintro v w3 ⟨rfl, hR3, k3⟩
                have h3 := h.left0 (fun x hx => ⟨by omega, by omega⟩) hR3 k3
                have hk3 := k3.mono (M' := fun x => lo ≤ x ∧ x ≠ g_1) (fun x _ m => (h.a x m).1)
                have z3 := k3.size
                have zs_hk3 := hk3.size
                replace hp := hp.chg hk3 (by first | (intro x h1 h2; exact h2) | (intro x h1 h2; have h3 : _ = _ := h2; exfalso; omega) | (intro b h1 h2 h3; have h4 : _ = _ := h3; (try dsimp only at h2); exfalso; omega) | (intro h1; have h2 : _ = _ := h1; exfalso; omega) | (intro h1; have h2 : _ ≤ _ := h1; exfalso; omega) | (intros; exfalso; (try dsimp only at *); omega) | (intro b h1 h2 h3; exfalso; have h4 := h3.2; (try dsimp only at *); omega) | (intro h1; exfalso; have h4 := h1.2; (try dsimp only at *); omega) | (intro x h1 h2; exact h2.1))
                replace hw := hw.chg hk3 (by first | (intro x h1 h2; exact h2) | (intro x h1 h2; have h3 : _ = _ := h2; exfalso; omega) | (intro b h1 h2 h3; have h4 : _ = _ := h3; (try dsimp only at h2); exfalso; omega) | (intro h1; have h2 : _ = _ := h1; exfalso; omega) | (intro h1; have h2 : _ ≤ _ := h1; exfalso; omega) | (intros; exfalso; (try dsimp only at *); omega) | (intro b h1 h2 h3; exfalso; have h4 := h3.2; (try dsimp only at *); omega) | (intro h1; exfalso; have h4 := h1.2; (try dsimp only at *); omega) | (intro x h1 h2; exact h2.1))
                replace hX := hX.chg hk3 (by first | (intro x h1 h2; exact h2) | (intro x h1 h2; have h3 : _ = _ := h2; exfalso; omega) | (intro b h1 h2 h3; have h4 : _ = _ := h3; (try dsimp only at h2); exfalso; omega) | (intro h1; have h2 : _ = _ := h1; exfalso; omega) | (intro h1; have h2 : _ ≤ _ := h1; exfalso; omega) | (intros; exfalso; (try dsimp only at *); omega) | (intro b h1 h2 h3; exfalso; have h4 := h3.2; (try dsimp only at *); omega) | (intro h1; exfalso; have h4 := h1.2; (try dsimp only at *); omega) | (intro x h1 h2; exact h2.1))
                replace hd_3 := hd_3.chg hk3 (by first | (intro x h1 h2; exact h2) | (intro x h1 h2; have h3 : _ = _ := h2; exfalso; omega) | (intro b h1 h2 h3; have h4 : _ = _ := h3; (try dsimp only at h2); exfalso; omega) | (intro h1; have h2 : _ = _ := h1; exfalso; omega) | (intro h1; have h2 : _ ≤ _ := h1; exfalso; omega) | (intros; exfalso; (try dsimp only at *); omega) | (intro b h1 h2 h3; exfalso; have h4 := h3.2; (try dsimp only at *); omega) | (intro h1; exfalso; have h4 := h1.2; (try dsimp only at *); omega) | (intro x h1 h2; exact h2.1))
                refine WL.nil ?_
                refine WX.one ⟨hd_3, ?_⟩
                refine DL.step [(147, _), (149, _)] rfl ⟨rfl, rfl, trivial⟩ rfl (fun wq_11 kq_11 => ?_)
                have zs_kq_11 := kq_11.size
                replace hp := hp.pure kq_11
                replace hw := hw.pure kq_11
                replace hX := hX.pure kq_11
                replace hd_3 := hd_3.pure kq_11
                replace h3 := h3.pure kq_11
                refine WL.call eg_31 rfl rfl (dReplace_calls h3.d (by omega) od) ?_
                rintro v w4 ⟨rfl, hD4, k4⟩
                have hf := h3.right (fun x hx => ⟨by omega, by omega⟩) hD4 k4
                have hk4 := k4.mono (M' := fun x => lo ≤ x ∧ x ≠ g_1) (fun x _ m => (h3.b x m).1)
                have zs_hk4 := hk4.size
                replace hp := hp.chg hk4 (by first | (intro x h1 h2; exact h2) | (intro x h1 h2; have h3 : _ = _ := h2; exfalso; omega) | (intro b h1 h2 h3; have h4 : _ = _ := h3; (try dsimp only at h2); exfalso; omega) | (intro h1; have h2 : _ = _ := h1; exfalso; omega) | (intro h1; have h2 : _ ≤ _ := h1; exfalso; omega) | (intros; exfalso; (try dsimp only at *); omega) | (intro b h1 h2 h3; exfalso; have h4 := h3.2; (try dsimp only at *); omega) | (intro h1; exfalso; have h4 := h1.2; (try dsimp only at *); omega) | (intro x h1 h2; exact h2.1))
                replace hw := hw.chg hk4 (by first | (intro x h1 h2; exact h2) | (intro x h1 h2; have h3 : _ = _ := h2; exfalso; omega) | (intro b h1 h2 h3; have h4 : _ = _ := h3; (try dsimp only at h2); exfalso; omega) | (intro h1; have h2 : _ = _ := h1; exfalso; omega) | (intro h1; have h2 : _ ≤ _ := h1; exfalso; omega) | (intros; exfalso; (try dsimp only at *); omega) | (intro b h1 h2 h3; exfalso; have h4 := h3.2; (try dsimp only at *); omega) | (intro h1; exfalso; have h4 := h1.2; (try dsimp only at *); omega) | (intro x h1 h2; exact h2.1))
                replace hX := hX.chg hk4 (by first | (intro x h1 h2; exact h2) | (intro x h1 h2; have h3 : _ = _ := h2; exfalso; omega) | (intro b h1 h2 h3; have h4 : _ = _ := h3; (try dsimp only at h2); exfalso; omega) | (intro h1; have h2 : _ = _ := h1; exfalso; omega) | (intro h1; have h2 : _ ≤ _ := h1; exfalso; omega) | (intros; exfalso; (try dsimp only at *); omega) | (intro b h1 h2 h3; exfalso; have h4 := h3.2; (try dsimp only at *); omega) | (intro h1; exfalso; have h4 := h1.2; (try dsimp only at *); omega) | (intro x h1 h2; exact h2.1))
                replace hd_3 := hd_3.chg hk4 (by first | (intro x h1 h2; exact h2) | (intro x h1 h2; have h3 : _ = _ := h2; exfalso; omega) | (intro b h1 h2 h3; have h4 : _ = _ := h3; (try dsimp only at h2); exfalso; omega) | (intro h1; have h2 : _ = _ := h1; exfalso; omega) | (intro h1; have h2 : _ ≤ _ := h1; exfalso; omega) | (intros; exfalso; (try dsimp only at *); omega) | (intro b h1 h2 h3; exfalso; have h4 := h3.2; (try dsimp only at *); omega) | (intro h1; exfalso; have h4 := h1.2; (try dsimp only at *); omega) | (intro x h1 h2; exact h2.1))
                refine WL.nil ?_
                refine WX.one ⟨hd_3, ?_⟩
                refine DL.step [(146, _), (150, _)] rfl ⟨rfl, rfl, trivial⟩ rfl (fun wq_12 kq_12 => ?_)
                have zs_kq_12 := kq_12.size
                replace hp := hp.pure kq_12
                replace hw := hw.pure kq_12
                replace hX := hX.pure kq_12
                replace hd_3 := hd_3.pure kq_12
                replace hf := hf.pure kq_12
                refine WL.eql rfl rfl rfl (?_)
                refine WL.nil ?_
                refine WX.one ⟨hd_3, ?_⟩
                refine DL.step [(151, _)] rfl ⟨rfl, trivial⟩ rfl (fun wq_13 kq_13 => ?_)
                have zs_kq_13 := kq_13.size
                replace hp := hp.pure kq_13
                replace hw := hw.pure kq_13
                replace hX := hX.pure kq_13
                replace hd_3 := hd_3.pure kq_13
                replace hf := hf.pure kq_13
                refine WL.assign rfl rfl (?_)
                refine WL.nil ?_
                refine WX.one ⟨hd_3, ?_⟩
                refine DL.done (fun we_14 ke_14 => ?_)
                have zs_ke_14 := ke_14.size
                replace hp := hp.pure ke_14
                replace hw := hw.pure ke_14
                replace hX := hX.pure ke_14
                replace hd_3 := hd_3.pure ke_14
                replace hf := hf.pure ke_14
                refine WX.then_normal (WC.ret (WX.block_ret (WX.then_ret (?_))))
                refine WX.ret1 (.inl rfl) Try.results12 rfl ?_
                have hsl := Nat.le_succ s.waits.length
                first
                  | exact ⟨_, rfl, rfl, St.of h (Chg.refl _ _) hsl rfl rfl, hw⟩
                  | exact ⟨_, rfl, by simp, St.of hf (Chg.refl _ _) (writeS_len s od oa Bx).1 (writeS_len s od oa Bx).2.1 (writeS_len s od oa Bx).2.2, hw⟩
                  | exact ⟨_, rfl, by simp, St.of hf (Chg.refl _ _) (flushS_len s).1 (flushS_len s).2.1 (flushS_len s).2.2, hw⟩
                  | exact ⟨_, rfl, rfl, St.of hf (Chg.refl _ _) hsl rfl rfl, hw⟩
                  | exact ⟨_, rfl, rfl, St.of hf (Chg.refl _ _) (Nat.zero_le _) rfl rfl, hw⟩
                  | exact ⟨_, rfl, by simp, St.of hf (Chg.refl _ _) (loseI_len s od).1 (loseI_len s od).2.1 (loseI_len s od).2.2, hw⟩
                  | exact ⟨_, rfl, by simp, St.of hf (Chg.refl _ _) (replaceI_len s od).1 (replaceI_len s od).2.1 (replaceI_len s od).2.2, hw⟩
                  | exact ⟨_, rfl, by simp, St.of hf (Chg.refl _ _) (rotI_len s od oa on).1 (rotI_len s od oa on).2.1 (rotI_len s od oa on).2.2, hw⟩
              ·
                refine WL.assign rfl rfl (WL.nil (WX.then_normal (WC.cond_false rfl (WC.seq (WC.region (?_))))))
                refine WL.eql? rfl rfl rfl (fun h153 => ?_) (fun h153 => ?_)
                ·
                  refine WL.assign rfl rfl (WL.nil (WX.then_normal (WC.cond_true rfl (WC.seq (?_)))))
                  refine WC.draw ((fun x => lo ≤ x ∧ x ≠ g_1)) [0, 1, 2, 3, 4, 5, 6, 8, 9, 10, 11, 12, 13, 14] [7, 15, 16, 17] mixed rfl rfl (fun wd_2 kd_2 zd_2 => ?_)
                  have zs_kd_2 := kd_2.size
                  replace h := h.pure kd_2
                  replace hp := hp.pure kd_2
                  replace hw := hw.pure kd_2
                  replace hX := hX.pure kd_2
                  apply DQ.step (E' := [(0, _)])
                  case ho => rfl
                  case hs => exact ⟨rfl, trivial⟩
                  case hk => rfl
                  case h1 =>
                    intro wq_4 kq_4
                    refine WL.move rfl rfl (?_)
                    refine WL.nil ?_
                    exact WX.one ⟨rfl, by first | exact Chg.refl _ _ | assumption⟩
                  apply DQ.step (E' := [(5, _)])
                  case ho => rfl
                  case hs => exact ⟨rfl, trivial⟩
                  case hk => rfl
                  case h1 =>
                    intro wq_5 kq_5
                    refine WL.fieldAddr (fld_39_1) rfl rfl (?_)
                    refine WL.nil ?_
                    exact WX.one ⟨rfl, by first | exact Chg.refl _ _ | assumption⟩
                  apply DQ.step (E' := [(155, _)])
                  case ho => rfl
                  case hs => exact ⟨rfl, trivial⟩
                  case hk => rfl
                  case h1 =>
                    intro wq_6 kq_6
                    have zs_kq_6 := kq_6.size
                    replace hX := hX.chg kq_6 (by first | (intro x h1 h2; exact h2) | (intro x h1 h2; have h3 : _ = _ := h2; exfalso; omega) | (intro b h1 h2 h3; have h4 : _ = _ := h3; (try dsimp only at h2); exfalso; omega) | (intro h1; have h2 : _ = _ := h1; exfalso; omega) | (intro h1; have h2 : _ ≤ _ := h1; exfalso; omega) | (intros; exfalso; (try dsimp only at *); omega) | (intro b h1 h2 h3; exfalso; have h4 := h3.2; (try dsimp only at *); omega) | (intro h1; exfalso; have h4 := h1.2; (try dsimp only at *); omega) | (intro x h1 h2; exact h2.1))
                    refine WL.loadB Try.isAgg3 hX rfl rfl rfl (?_)
                    refine WL.nil ?_
                    exact WX.one ⟨rfl, by first | exact Chg.refl _ _ | assumption⟩
                  apply DQ.step (E' := [(5, _)])
                  case ho => rfl
                  case hs => exact ⟨rfl, trivial⟩
                  case hk => rfl
                  case h1 =>
                    intro wq_7 kq_7
                    refine WL.fieldAddr (fld_39_2) rfl rfl (?_)
                    refine WL.nil ?_
                    exact WX.one ⟨rfl, by first | exact Chg.refl _ _ | assumption⟩
                  apply DQ.step (E' := [(157, _)])
                  case ho => rfl
                  case hs => exact ⟨rfl, trivial⟩
                  case hk => rfl
                  case h1 =>
                    intro wq_8 kq_8
                    have zs_kq_8 := kq_8.size
                    replace hX := hX.chg kq_8 (by first | (intro x h1 h2; exact h2) | (intro x h1 h2; have h3 : _ = _ := h2; exfalso; omega) | (intro b h1 h2 h3; have h4 : _ = _ := h3; (try dsimp only at h2); exfalso; omega) | (intro h1; have h2 : _ = _ := h1; exfalso; omega) | (intro h1; have h2 : _ ≤ _ := h1; exfalso; omega) | (intros; exfalso; (try dsimp only at *); omega) | (intro b h1 h2 h3; exfalso; have h4 := h3.2; (try dsimp only at *); omega) | (intro h1; exfalso; have h4 := h1.2; (try dsimp only at *); omega) | (intro x h1 h2; exact h2.1))
                    refine WL.loadB Try.isAgg3 hX rfl rfl rfl (?_)
                    refine WL.nil ?_
                    exact WX.one ⟨rfl, by first | exact Chg.refl _ _ | assumption⟩
                  apply DQ.step (E' := [(5, _)])
                  case ho => rfl
                  case hs => exact ⟨rfl, trivial⟩
                  case hk => rfl
                  case h1 =>
                    intro wq_9 kq_9
                    refine WL.fieldAddr (fld_39_4) rfl rfl (?_)
                    refine WL.nil ?_
                    exact WX.one ⟨rfl, by first | exact Chg.refl _ _ | assumption⟩
                  apply DQ.step (E' := [(159, _)])
                  case ho => rfl
                  case hs => exact ⟨rfl, trivial⟩
                  case hk => rfl
                  case h1 =>
                    intro wq_10 kq_10
                    have zs_kq_10 := kq_10.size
                    replace hX := hX.chg kq_10 (by first | (intro x h1 h2; exact h2) | (intro x h1 h2; have h3 : _ = _ := h2; exfalso; omega) | (intro b h1 h2 h3; have h4 : _ = _ := h3; (try dsimp only at h2); exfalso; omega) | (intro h1; have h2 : _ = _ := h1; exfalso; omega) | (intro h1; have h2 : _ ≤ _ := h1; exfalso; omega) | (intros; exfalso; (try dsimp only at *); omega) | (intro b h1 h2 h3; exfalso; have h4 := h3.2; (try dsimp only at *); omega) | (intro h1; exfalso; have h4 := h1.2; (try dsimp only at *); omega) | (intro x h1 h2; exact h2.1))
                    refine WL.loadB Try.isAgg3 hX rfl rfl rfl (?_)
                    refine WL.nil ?_
                    exact WX.one ⟨rfl, by first | exact Chg.refl _ _ | assumption⟩
                  apply DQ.step (E' := [(1, _)])
                  case ho => rfl
                  case hs => exact ⟨rfl, trivial⟩
                  case hk => rfl
                  case h1 =>
                    intro wq_11 kq_11
                    refine WL.move rfl rfl (?_)
                    refine WL.nil ?_
                    exact WX.one ⟨rfl, by first | exact Chg.refl _ _ | assumption⟩
                  apply DQ.step (E' := [(5, _)])
                  case ho => rfl
                  case hs => exact ⟨rfl, trivial⟩
                  case hk => rfl
                  case h1 =>
                    intro wq_12 kq_12
                    refine WL.fieldAddr (fld_39_1) rfl rfl (?_)
                    refine WL.nil ?_
                    exact WX.one ⟨rfl, by first | exact Chg.refl _ _ | assumption⟩
                  apply DQ.step (E' := [(163, _)])
                  case ho => rfl
                  case hs => exact ⟨rfl, trivial⟩
                  case hk => rfl
                  case h1 =>
                    intro wq_13 kq_13
                    have zs_kq_13 := kq_13.size
                    replace hX := hX.chg kq_13 (by first | (intro x h1 h2; exact h2) | (intro x h1 h2; have h3 : _ = _ := h2; exfalso; omega) | (intro b h1 h2 h3; have h4 : _ = _ := h3; (try dsimp only at h2); exfalso; omega) | (intro h1; have h2 : _ = _ := h1; exfalso; omega) | (intro h1; have h2 : _ ≤ _ := h1; exfalso; omega) | (intros; exfalso; (try dsimp only at *); omega) | (intro b h1 h2 h3; exfalso; have h4 := h3.2; (try dsimp only at *); omega) | (intro h1; exfalso; have h4 := h1.2; (try dsimp only at *); omega) | (intro x h1 h2; exact h2.1))
                    refine WL.loadB Try.isAgg3 hX rfl rfl rfl (?_)
                    refine WL.nil ?_
                    exact WX.one ⟨rfl, by first | exact Chg.refl _ _ | assumption⟩
                  apply DQ.step (E' := [(5, _)])
                  case ho => rfl
                  case hs => exact ⟨rfl, trivial⟩
                  case hk => rfl
                  case h1 =>
                    intro wq_14 kq_14
                    refine WL.fieldAddr (fld_39_2) rfl rfl (?_)
                    refine WL.nil ?_
                    exact WX.one ⟨rfl, by first | exact Chg.refl _ _ | assumption⟩
                  apply DQ.step (E' := [(165, _)])
                  case ho => rfl
                  case hs => exact ⟨rfl, trivial⟩
                  case hk => rfl
                  case h1 =>
                    intro wq_15 kq_15
                    have zs_kq_15 := kq_15.size
                    replace hX := hX.chg kq_15 (by first | (intro x h1 h2; exact h2) | (intro x h1 h2; have h3 : _ = _ := h2; exfalso; omega) | (intro b h1 h2 h3; have h4 : _ = _ := h3; (try dsimp only at h2); exfalso; omega) | (intro h1; have h2 : _ = _ := h1; exfalso; omega) | (intro h1; have h2 : _ ≤ _ := h1; exfalso; omega) | (intros; exfalso; (try dsimp only at *); omega) | (intro b h1 h2 h3; exfalso; have h4 := h3.2; (try dsimp only at *); omega) | (intro h1; exfalso; have h4 := h1.2; (try dsimp only at *); omega) | (intro x h1 h2; exact h2.1))
                    refine WL.loadB Try.isAgg3 hX rfl rfl rfl (?_)
                    refine WL.nil ?_
                    exact WX.one ⟨rfl, by first | exact Chg.refl _ _ | assumption⟩
                  apply DQ.step (E' := [(5, _)])
                  case ho => rfl
                  case hs => exact ⟨rfl, trivial⟩
                  case hk => rfl
                  case h1 =>
                    intro wq_16 kq_16
                    refine WL.fieldAddr (fld_39_4) rfl rfl (?_)
                    refine WL.nil ?_
                    exact WX.one ⟨rfl, by first | exact Chg.refl _ _ | assumption⟩
                  apply DQ.step (E' := [(167, _)])
                  case ho => rfl
                  case hs => exact ⟨rfl, trivial⟩
                  case hk => rfl
                  case h1 =>
                    intro wq_17 kq_17
                    have zs_kq_17 := kq_17.size
                    replace hX := hX.chg kq_17 (by first | (intro x h1 h2; exact h2) | (intro x h1 h2; have h3 : _ = _ := h2; exfalso; omega) | (intro b h1 h2 h3; have h4 : _ = _ := h3; (try dsimp only at h2); exfalso; omega) | (intro h1; have h2 : _ = _ := h1; exfalso; omega) | (intro h1; have h2 : _ ≤ _ := h1; exfalso; omega) | (intros; exfalso; (try dsimp only at *); omega) | (intro b h1 h2 h3; exfalso; have h4 := h3.2; (try dsimp only at *); omega) | (intro h1; exfalso; have h4 := h1.2; (try dsimp only at *); omega) | (intro x h1 h2; exact h2.1))
                    refine WL.loadB Try.isAgg3 hX rfl rfl rfl (?_)
                    refine WL.nil ?_
                    exact WX.one ⟨rfl, by first | exact Chg.refl _ _ | assumption⟩
                  refine DQ.done (fun hd_3 => ?_)
                  refine DL.step [(154, _), (156, _), (158, _), (160, _)] rfl ⟨rfl, rfl, rfl, rfl, trivial⟩ rfl (fun wq_18 kq_18 => ?_)
                  have zs_kq_18 := kq_18.size
                  replace h := h.pure kq_18
                  replace hp := hp.pure kq_18
                  replace hw := hw.pure kq_18
                  replace hX := hX.pure kq_18
                  replace hd_3 := hd_3.pure kq_18
                  refine WL.call eg_32 rfl rfl (Rot_calls h.r od oa on hon'.2) ?_
                  rintro v w3 ⟨rfl, hR3, k3⟩
                  have h3 := h.left (fun x hx => ⟨by omega, by omega⟩) hR3 k3
                  have hk3 := k3.mono (M' := fun x => lo ≤ x ∧ x ≠ g_1) (fun x _ m => (h.a x m).1)
                  have z3 := k3.size
                  have zs_hk3 := hk3.size
                  replace hp := hp.chg hk3 (by first | (intro x h1 h2; exact h2) | (intro x h1 h2; have h3 : _ = _ := h2; exfalso; omega) | (intro b h1 h2 h3; have h4 : _ = _ := h3; (try dsimp only at h2); exfalso; omega) | (intro h1; have h2 : _ = _ := h1; exfalso; omega) | (intro h1; have h2 : _ ≤ _ := h1; exfalso; omega) | (intros; exfalso; (try dsimp only at *); omega) | (intro b h1 h2 h3; exfalso; have h4 := h3.2; (try dsimp only at *); omega) | (intro h1; exfalso; have h4 := h1.2; (try dsimp only at *); omega) | (intro x h1 h2; exact h2.1))
                  replace hw := hw.chg hk3 (by first | (intro x h1 h2; exact h2) | (intro x h1 h2; have h3 : _ = _ := h2; exfalso; omega) | (intro b h1 h2 h3; have h4 : _ = _ := h3; (try dsimp only at h2); exfalso; omega) | (intro h1; have h2 : _ = _ := h1; exfalso; omega) | (intro h1; have h2 : _ ≤ _ := h1; exfalso; omega) | (intros; exfalso; (try dsimp only at *); omega) | (intro b h1 h2 h3; exfalso; have h4 := h3.2; (try dsimp only at *); omega) | (intro h1; exfalso; have h4 := h1.2; (try dsimp only at *); omega) | (intro x h1 h2; exact h2.1))
                  replace hX := hX.chg hk3 (by first | (intro x h1 h2; exact h2) | (intro x h1 h2; have h3 : _ = _ := h2; exfalso; omega) | (intro b h1 h2 h3; have h4 : _ = _ := h3; (try dsimp only at h2); exfalso; omega) | (intro h1; have h2 : _ = _ := h1; exfalso; omega) | (intro h1; have h2 : _ ≤ _ := h1; exfalso; omega) | (intros; exfalso; (try dsimp only at *); omega) | (intro b h1 h2 h3; exfalso; have h4 := h3.2; (try dsimp only at *); omega) | (intro h1; exfalso; have h4 := h1.2; (try dsimp only at *); omega) | (intro x h1 h2; exact h2.1))
                  replace hd_3 := hd_3.chg hk3 (by first | (intro x h1 h2; exact h2) | (intro x h1 h2; have h3 : _ = _ := h2; exfalso; omega) | (intro b h1 h2 h3; have h4 : _ = _ := h3; (try dsimp only at h2); exfalso; omega) | (intro h1; have h2 : _ = _ := h1; exfalso; omega) | (intro h1; have h2 : _ ≤ _ := h1; exfalso; omega) | (intros; exfalso; (try dsimp only at *); omega) | (intro b h1 h2 h3; exfalso; have h4 := h3.2; (try dsimp only at *); omega) | (intro h1; exfalso; have h4 := h1.2; (try dsimp only at *); omega) | (intro x h1 h2; exact h2.1))
                  refine WL.nil ?_
                  refine WX.one ⟨hd_3, ?_⟩
                  refine DL.step [(162, _), (164, _), (166, _), (168, _)] rfl ⟨rfl, rfl, rfl, rfl, trivial⟩ rfl (fun wq_19 kq_19 => ?_)
                  have zs_kq_19 := kq_19.size
                  replace hp := hp.pure kq_19
                  replace hw := hw.pure kq_19
                  replace hX := hX.pure kq_19
                  replace hd_3 := hd_3.pure kq_19
                  replace h3 := h3.pure kq_19
                  refine WL.call eg_33 rfl rfl (dRot_calls h3.d (by omega) od oa on hon'.2) ?_
                  rintro v w4 ⟨rfl, hD4, k4⟩
                  have hf := h3.right0 (fun x hx => ⟨by omega, by omega⟩) hD4 k4
                  have hk4 := k4.mono (M' := fun x => lo ≤ x ∧ x ≠ g_1) (fun x _ m => (h3.b x m).1)
                  have zs_hk4 := hk4.size
                  replace hp := hp.chg hk4 (by first | (intro x h1 h2; exact h2) | (intro x h1 h2; have h3 : _ = _ := h2; exfalso; omega) | (intro b h1 h2 h3; have h4 : _ = _ := h3; (try dsimp only at h2); exfalso; omega) | (intro h1; have h2 : _ = _ := h1; exfalso; omega) | (intro h1; have h2 : _ ≤ _ := h1; exfalso; omega) | (intros; exfalso; (try dsimp only at *); omega) | (intro b h1 h2 h3; exfalso; have h4 := h3.2; (try dsimp only at *); omega) | (intro h1; exfalso; have h4 := h1.2; (try dsimp only at *); omega) | (intro x h1 h2; exact h2.1))
                  replace hw := hw.chg hk4 (by first | (intro x h1 h2; exact h2) | (intro x h1 h2; have h3 : _ = _ := h2; exfalso; omega) | (intro b h1 h2 h3; have h4 : _ = _ := h3; (try dsimp only at h2); exfalso; omega) | (intro h1; have h2 : _ = _ := h1; exfalso; omega) | (intro h1; have h2 : _ ≤ _ := h1; exfalso; omega) | (intros; exfalso; (try dsimp only at *); omega) | (intro b h1 h2 h3; exfalso; have h4 := h3.2; (try dsimp only at *); omega) | (intro h1; exfalso; have h4 := h1.2; (try dsimp only at *); omega) | (intro x h1 h2; exact h2.1))
                  replace hX := hX.chg hk4 (by first | (intro x h1 h2; exact h2) | (intro x h1 h2; have h3 : _ = _ := h2; exfalso; omega) | (intro b h1 h2 h3; have h4 : _ = _ := h3; (try dsimp only at h2); exfalso; omega) | (intro h1; have h2 : _ = _ := h1; exfalso; omega) | (intro h1; have h2 : _ ≤ _ := h1; exfalso; omega) | (intros; exfalso; (try dsimp only at *); omega) | (intro b h1 h2 h3; exfalso; have h4 := h3.2; (try dsimp only at *); omega) | (intro h1; exfalso; have h4 := h1.2; (try dsimp only at *); omega) | (intro x h1 h2; exact h2.1))
                  replace hd_3 := hd_3.chg hk4 (by first | (intro x h1 h2; exact h2) | (intro x h1 h2; have h3 : _ = _ := h2; exfalso; omega) | (intro b h1 h2 h3; have h4 : _ = _ := h3; (try dsimp only at h2); exfalso; omega) | (intro h1; have h2 : _ = _ := h1; exfalso; omega) | (intro h1; have h2 : _ ≤ _ := h1; exfalso; omega) | (intros; exfalso; (try dsimp only at *); omega) | (intro b h1 h2 h3; exfalso; have h4 := h3.2; (try dsimp only at *); omega) | (intro h1; exfalso; have h4 := h1.2; (try dsimp only at *); omega) | (intro x h1 h2; exact h2.1))
                  refine WL.nil ?_
                  refine WX.one ⟨hd_3, ?_⟩
                  refine DL.step [(161, _), (169, _)] rfl ⟨rfl, rfl, trivial⟩ rfl (fun wq_20 kq_20 => ?_)
                  have zs_kq_20 := kq_20.size
                  replace hp := hp.pure kq_20
                  replace hw := hw.pure kq_20
                  replace hX := hX.pure kq_20
                  replace hd_3 := hd_3.pure kq_20
                  replace hf := hf.pure kq_20
                  refine WL.eql rfl rfl rfl (?_)
                  refine WL.nil ?_
                  refine WX.one ⟨hd_3, ?_⟩
                  refine DL.step [(170, _)] rfl ⟨rfl, trivial⟩ rfl (fun wq_21 kq_21 => ?_)
                  have zs_kq_21 := kq_21.size
                  replace hp := hp.pure kq_21
                  replace hw := hw.pure kq_21
                  replace hX := hX.pure kq_21
                  replace hd_3 := hd_3.pure kq_21
                  replace hf := hf.pure kq_21
                  refine WL.assign rfl rfl (?_)
                  refine WL.nil ?_
                  refine WX.one ⟨hd_3, ?_⟩
                  refine DL.done (fun we_22 ke_22 => ?_)
                  have zs_ke_22 := ke_22.size
                  replace hp := hp.pure ke_22
                  replace hw := hw.pure ke_22
                  replace hX := hX.pure ke_22
                  replace hd_3 := hd_3.pure ke_22
                  replace hf := hf.pure ke_22
                  refine WX.then_normal (WC.ret (WX.block_ret (WX.then_ret (?_))))
                  refine WX.ret1 (.inl rfl) Try.results12 rfl ?_
                  have hsl := Nat.le_succ s.waits.length
                  first
                    | exact ⟨_, rfl, rfl, St.of h (Chg.refl _ _) hsl rfl rfl, hw⟩
                    | exact ⟨_, rfl, by simp, St.of hf (Chg.refl _ _) (writeS_len s od oa Bx).1 (writeS_len s od oa Bx).2.1 (writeS_len s od oa Bx).2.2, hw⟩
                    | exact ⟨_, rfl, by simp, St.of hf (Chg.refl _ _) (flushS_len s).1 (flushS_len s).2.1 (flushS_len s).2.2, hw⟩
                    | exact ⟨_, rfl, rfl, St.of hf (Chg.refl _ _) hsl rfl rfl, hw⟩
                    | exact ⟨_, rfl, rfl, St.of hf (Chg.refl _ _) (Nat.zero_le _) rfl rfl, hw⟩
                    | exact ⟨_, rfl, by simp, St.of hf (Chg.refl _ _) (loseI_len s od).1 (loseI_len s od).2.1 (loseI_len s od).2.2, hw⟩
                    | exact ⟨_, rfl, by simp, St.of hf (Chg.refl _ _) (replaceI_len s od).1 (replaceI_len s od).2.1 (replaceI_len s od).2.2, hw⟩
                    | exact ⟨_, rfl, by simp, St.of hf (Chg.refl _ _) (rotI_len s od oa on).1 (rotI_len s od oa on).2.1 (rotI_len s od oa on).2.2, hw⟩
                ·
                  refine WL.assign rfl rfl (WL.nil (WX.then_normal (WC.cond_false rfl (WC.skip (WX.block_normal (WX.then_normal (WC.seq (?_))))))))
                  have hdd := h.d
                  obtain ⟨la, lc, ls, ga, gc, wa, wc, hB, hI⟩ := h.d.ex
                  have hlen := hI.ld.len
                  by_cases h174 : isS s od
                  ·
                    have hgd := goneS_at h.d.ok h174
                    obtain ⟨gg, hgg⟩ := hI.gone.place0 (j := od.toNat) (List.getElem?_eq_some_iff.1 hgd).1
                    subst hgg
                    refine WC.draw (Nob) [0, 1, 2, 3, 4, 5, 6, 7, 8, 9, 10, 11, 12, 13, 14] [] mixed rfl rfl (fun wd_2 kd_2 zd_2 => ?_)
                    have zs_kd_2 := kd_2.size
                    replace h := h.pure kd_2
                    replace hp := hp.pure kd_2
                    replace hw := hw.pure kd_2
                    replace hX := hX.pure kd_2
                    replace hB := hB.pure kd_2
                    replace hI := hI.pure kd_2
                    replace hdd := hdd.pure kd_2
                    apply DQ.step (E' := [(1, _)])
                    case ho => rfl
                    case hs => exact ⟨rfl, trivial⟩
                    case hk => rfl
                    case h1 =>
                      intro wq_3 kq_3
                      refine WL.move rfl rfl (?_)
                      refine WL.nil ?_
                      exact WX.one ⟨rfl, by first | exact Chg.refl _ _ | assumption⟩
                    apply DQ.step (E' := [(5, _)])
                    case ho => rfl
                    case hs => exact ⟨rfl, trivial⟩
                    case hk => rfl
                    case h1 =>
                      intro wq_4 kq_4
                      refine WL.fieldAddr (fld_39_1) rfl rfl (?_)
                      refine WL.nil ?_
                      exact WX.one ⟨rfl, by first | exact Chg.refl _ _ | assumption⟩
                    apply DQ.step (E' := [(172, _)])
                    case ho => rfl
                    case hs => exact ⟨rfl, trivial⟩
                    case hk => rfl
                    case h1 =>
                      intro wq_5 kq_5
                      have zs_kq_5 := kq_5.size
                      replace h := h.pure kq_5
                      replace hp := hp.pure kq_5
                      replace hw := hw.pure kq_5
                      replace hX := hX.pure kq_5
                      replace hB := hB.pure kq_5
                      replace hI := hI.pure kq_5
                      replace hdd := hdd.pure kq_5
                      refine WL.loadB Try.isAgg3 hX rfl rfl rfl (?_)
                      refine WL.nil ?_
                      exact WX.one ⟨rfl, by first | exact Chg.refl _ _ | assumption⟩
                    apply DQ.step (E' := [(171, _), (173, _)])
                    case ho => rfl
                    case hs => exact ⟨rfl, rfl, trivial⟩
                    case hk => rfl
                    case h1 =>
                      intro wq_6 kq_6
                      have zs_kq_6 := kq_6.size
                      replace h := h.pure kq_6
                      replace hp := hp.pure kq_6
                      replace hw := hw.pure kq_6
                      replace hX := hX.pure kq_6
                      replace hB := hB.pure kq_6
                      replace hI := hI.pure kq_6
                      replace hdd := hdd.pure kq_6
                      refine WL.call eg_34 rfl rfl (dIs_calls hdd od) ?_
                      rintro v w3 ⟨rfl, k3⟩
                      rw [decide_eq_true h174]
                      have zs_k3 := k3.size
                      replace h := h.pure k3
                      replace hp := hp.pure k3
                      replace hw := hw.pure k3
                      replace hX := hX.pure k3
                      replace hB := hB.pure k3
                      replace hI := hI.pure k3
                      replace hdd := hdd.pure k3
                      refine WL.nil ?_
                      exact WX.one ⟨rfl, by first | exact Chg.refl _ _ | assumption⟩
                    apply DQ.step (E' := [(174, _)])
                    case ho => rfl
                    case hs => exact ⟨rfl, trivial⟩
                    case hk => rfl
                    case h1 =>
                      intro wq_7 kq_7
                      refine WL.move rfl rfl (?_)
                      refine WL.nil ?_
                      exact WX.one ⟨rfl, by first | exact Chg.refl _ _ | assumption⟩
                    apply DQ.step (E' := [(1, _), (175, _)])
                    case ho => rfl
                    case hs => exact ⟨rfl, rfl, trivial⟩
                    case hk => rfl
                    case h1 =>
                      intro wq_8 kq_8
                      refine WL.want rfl rfl rfl (WL.move rfl rfl (?_))
                      refine WL.nil ?_
                      exact WX.one ⟨rfl, by first | exact Chg.refl _ _ | assumption⟩
                    apply DQ.step (E' := [(176, _), (175, _)])
                    case ho => rfl
                    case hs => exact ⟨rfl, rfl, trivial⟩
                    case hk => rfl
                    case h1 =>
                      intro wq_9 kq_9
                      refine WL.want rfl rfl rfl (WL.nilCheck rfl rfl (?_))
                      refine WL.nil ?_
                      exact WX.one ⟨rfl, by first | exact Chg.refl _ _ | assumption⟩
                    apply DQ.step (E' := [(177, _), (175, _)])
                    case ho => rfl
                    case hs => exact ⟨rfl, rfl, trivial⟩
                    case hk => rfl
                    case h1 =>
                      intro wq_10 kq_10
                      refine WL.want rfl rfl rfl (WL.fieldAddr (fld_60_1) rfl rfl (?_))
                      refine WL.nil ?_
                      exact WX.one ⟨rfl, by first | exact Chg.refl _ _ | assumption⟩
                    apply DQ.step (E' := [(178, _), (175, _)])
                    case ho => rfl
                    case hs => exact ⟨rfl, rfl, trivial⟩
                    case hk => rfl
                    case h1 =>
                      intro wq_11 kq_11
                      have zs_kq_11 := kq_11.size
                      replace h := h.pure kq_11
                      replace hp := hp.pure kq_11
                      replace hw := hw.pure kq_11
                      replace hX := hX.pure kq_11
                      replace hB := hB.pure kq_11
                      replace hI := hI.pure kq_11
                      replace hdd := hdd.pure kq_11
                      refine WL.want rfl rfl rfl (WL.loadB Try.isAgg48 hB rfl rfl rfl (?_))
                      refine WL.nil ?_
                      exact WX.one ⟨rfl, by first | exact Chg.refl _ _ | assumption⟩
                    apply DQ.step (E' := [(5, _), (175, _)])
                    case ho => rfl
                    case hs => exact ⟨rfl, rfl, trivial⟩
                    case hk => rfl
                    case h1 =>
                      intro wq_12 kq_12
                      refine WL.want rfl rfl rfl (WL.fieldAddr (fld_39_1) rfl rfl (?_))
                      refine WL.nil ?_
                      exact WX.one ⟨rfl, by first | exact Chg.refl _ _ | assumption⟩
                    apply DQ.step (E' := [(180, _), (175, _)])
                    case ho => rfl
                    case hs => exact ⟨rfl, rfl, trivial⟩
                    case hk => rfl
                    case h1 =>
                      intro wq_13 kq_13
                      have zs_kq_13 := kq_13.size
                      replace h := h.pure kq_13
                      replace hp := hp.pure kq_13
                      replace hw := hw.pure kq_13
                      replace hX := hX.pure kq_13
                      replace hB := hB.pure kq_13
                      replace hI := hI.pure kq_13
                      replace hdd := hdd.pure kq_13
                      refine WL.want rfl rfl rfl (WL.loadB Try.isAgg3 hX rfl rfl rfl (?_))
                      refine WL.nil ?_
                      exact WX.one ⟨rfl, by first | exact Chg.refl _ _ | assumption⟩
                    apply DQ.step (E' := [(179, _), (181, _), (175, _)])
                    case ho => rfl
                    case hs => exact ⟨rfl, rfl, rfl, trivial⟩
                    case hk => rfl
                    case h1 =>
                      intro wq_14 kq_14
                      have zs_kq_14 := kq_14.size
                      replace h := h.pure kq_14
                      replace hp := hp.pure kq_14
                      replace hw := hw.pure kq_14
                      replace hX := hX.pure kq_14
                      replace hB := hB.pure kq_14
                      replace hI := hI.pure kq_14
                      replace hdd := hdd.pure kq_14
                      refine WL.want rfl rfl rfl (?_)
                      refine WL.indexC (e := ebool) hI.gone.rsl Try.underlying48 Try.sizeOf4 rfl rfl ⟨hgd, by have := h174.1; omega⟩ rfl ?_
                      refine WL.nil ?_
                      exact WX.one ⟨rfl, by first | exact Chg.refl _ _ | assumption⟩
                    apply DQ.step (E' := [(182, _), (175, _)])
                    case ho => rfl
                    case hs => exact ⟨rfl, rfl, trivial⟩
                    case hk => rfl
                    case h1 =>
                      intro wq_15 kq_15
                      have zs_kq_15 := kq_15.size
                      replace h := h.pure kq_15
                      replace hp := hp.pure kq_15
                      replace hw := hw.pure kq_15
                      replace hX := hX.pure kq_15
                      replace hB := hB.pure kq_15
                      replace hI := hI.pure kq_15
                      replace hdd := hdd.pure kq_15
                      refine WL.want rfl rfl rfl (?_)
                      refine WL.load Try.isAgg4 rfl ((hI.gone.rsl.cellsAt hgd) 0 _ rfl) rfl ?_
                      refine WL.nil ?_
                      exact WX.one ⟨rfl, by first | exact Chg.refl _ _ | assumption⟩
                    apply DQ.step (E' := [(175, _), (183, _)])
                    case ho => rfl
                    case hs => exact ⟨rfl, rfl, trivial⟩
                    case hk => rfl
                    case h1 =>
                      intro wq_16 kq_16
                      refine WL.pickT rfl rfl rfl (?_)
                      refine WL.nil ?_
                      exact WX.one ⟨rfl, by first | exact Chg.refl _ _ | assumption⟩
                    apply DQ.step (E' := [(184, _)])
                    case ho => rfl
                    case hs => exact ⟨rfl, trivial⟩
                    case hk => rfl
                    case h1 =>
                      intro wq_17 kq_17
                      refine WL.assign rfl rfl (?_)
                      refine WL.nil ?_
                      exact WX.one ⟨rfl, by first | exact Chg.refl _ _ | assumption⟩
                    refine DQ.done (fun _ => ?_)
                    refine DL.done (fun we_18 ke_18 => ?_)
                    have zs_ke_18 := ke_18.size
                    replace h := h.pure ke_18
                    replace hp := hp.pure ke_18
                    replace hw := hw.pure ke_18
                    replace hX := hX.pure ke_18
                    replace hB := hB.pure ke_18
                    replace hI := hI.pure ke_18
                    replace hdd := hdd.pure ke_18
                    refine WX.then_normal (WC.seq (?_))
                    obtain ⟨r0, hr0⟩ : ∃ r, ls[0]? = some r := ⟨_, List.getElem?_eq_getElem (by have := h.d.ok.dn; omega)⟩
                    obtain ⟨go, hgo⟩ := hI.ld.outer.place0 (j := 0) (by have := h.d.ok.dn; omega)
                    have hr0l := hI.ld.rlen hr0
                    subst hgo
                    have hrr := h.r
                    refine WC.draw (Nob) [0, 1, 2, 3, 4, 5, 6, 7, 8, 9, 10, 11, 12, 13, 14, 15, 16, 17, 18, 19, 20, 21, 22, 23, 24, 25, 26, 27, 28, 29, 30, 31, 32, 33, 34, 35, 36, 37, 38] [] mixed rfl rfl (fun wd_19 kd_19 zd_19 => ?_)
                    have zs_kd_19 := kd_19.size
                    replace h := h.pure kd_19
                    replace hp := hp.pure kd_19
                    replace hw := hw.pure kd_19
                    replace hX := hX.pure kd_19
                    replace hB := hB.pure kd_19
                    replace hI := hI.pure kd_19
                    replace hdd := hdd.pure kd_19
                    replace hrr := hrr.pure kd_19
                    apply DQ.step (E' := [(0, _)])
                    case ho => rfl
                    case hs => exact ⟨rfl, trivial⟩
                    case hk => rfl
                    case h1 =>
                      intro wq_20 kq_20
                      refine WL.move rfl rfl (?_)
                      refine WL.nil ?_
                      exact WX.one ⟨rfl, by first | exact Chg.refl _ _ | assumption⟩
                    apply DQ.step (E' := [(185, _)])
                    case ho => rfl
                    case hs => exact ⟨rfl, trivial⟩
                    case hk => rfl
                    case h1 =>
                      intro wq_21 kq_21
                      have zs_kq_21 := kq_21.size
                      replace h := h.pure kq_21
                      replace hp := hp.pure kq_21
                      replace hw := hw.pure kq_21
                      replace hX := hX.pure kq_21
                      replace hB := hB.pure kq_21
                      replace hI := hI.pure kq_21
                      replace hdd := hdd.pure kq_21
                      replace hrr := hrr.pure kq_21
                      refine WL.call eg_9 rfl rfl (Pending_calls hrr) ?_
                      rintro v w3 ⟨rfl, k3⟩
                      have zs_k3 := k3.size
                      replace h := h.pure k3
                      replace hp := hp.pure k3
                      replace hw := hw.pure k3
                      replace hX := hX.pure k3
                      replace hB := hB.pure k3
                      replace hI := hI.pure k3
                      replace hdd := hdd.pure k3
                      replace hrr := hrr.pure k3
                      refine WL.nil ?_
                      exact WX.one ⟨rfl, by first | exact Chg.refl _ _ | assumption⟩
                    apply DQ.step (E' := [(1, _)])
                    case ho => rfl
                    case hs => exact ⟨rfl, trivial⟩
                    case hk => rfl
                    case h1 =>
                      intro wq_22 kq_22
                      refine WL.move rfl rfl (?_)
                      refine WL.nil ?_
                      exact WX.one ⟨rfl, by first | exact Chg.refl _ _ | assumption⟩
                    apply DQ.step (E' := [(187, _)])
                    case ho => rfl
                    case hs => exact ⟨rfl, trivial⟩
                    case hk => rfl
                    case h1 =>
                      intro wq_23 kq_23
                      refine WL.nilCheck rfl rfl (?_)
                      refine WL.nil ?_
                      exact WX.one ⟨rfl, by first | exact Chg.refl _ _ | assumption⟩
                    apply DQ.step (E' := [(188, _)])
                    case ho => rfl
                    case hs => exact ⟨rfl, trivial⟩
                    case hk => rfl
                    case h1 =>
                      intro wq_24 kq_24
                      refine WL.fieldAddr (fld_60_2) rfl rfl (?_)
                      refine WL.nil ?_
                      exact WX.one ⟨rfl, by first | exact Chg.refl _ _ | assumption⟩
                    apply DQ.step (E' := [(189, _)])
                    case ho => rfl
                    case hs => exact ⟨rfl, trivial⟩
                    case hk => rfl
                    case h1 =>
                      intro wq_25 kq_25
                      have zs_kq_25 := kq_25.size
                      replace h := h.pure kq_25
                      replace hp := hp.pure kq_25
                      replace hw := hw.pure kq_25
                      replace hX := hX.pure kq_25
                      replace hB := hB.pure kq_25
                      replace hI := hI.pure kq_25
                      replace hdd := hdd.pure kq_25
                      replace hrr := hrr.pure kq_25
                      refine WL.loadB Try.isAgg58 hB rfl rfl rfl (?_)
                      refine WL.nil ?_
                      exact WX.one ⟨rfl, by first | exact Chg.refl _ _ | assumption⟩
                    apply DQ.step (E' := [(190, _)])
                    case ho => rfl
                    case hs => exact ⟨rfl, trivial⟩
                    case hk => rfl
                    case h1 =>
                      intro wq_26 kq_26
                      have zs_kq_26 := kq_26.size
                      replace h := h.pure kq_26
                      replace hp := hp.pure kq_26
                      replace hw := hw.pure kq_26
                      replace hX := hX.pure kq_26
                      replace hB := hB.pure kq_26
                      replace hI := hI.pure kq_26
                      replace hdd := hdd.pure kq_26
                      replace hrr := hrr.pure kq_26
                      refine WL.len Try.underlying58 rfl rfl (?_)
                      refine WL.nil ?_
                      exact WX.one ⟨rfl, by first | exact Chg.refl _ _ | assumption⟩
                    apply DQ.step (E' := [(186, _), (191, _)])
                    case ho => rfl
                    case hs => exact ⟨rfl, rfl, trivial⟩
                    case hk => rfl
                    case h1 =>
                      intro wq_27 kq_27
                      refine WL.eqlT rfl rfl rfl (by first | rfl | omega | decide) ?_
                      refine WL.nil ?_
                      exact WX.one ⟨rfl, by first | exact Chg.refl _ _ | assumption⟩
                    apply DQ.step (E' := [(192, _)])
                    case ho => rfl
                    case hs => exact ⟨rfl, trivial⟩
                    case hk => rfl
                    case h1 =>
                      intro wq_28 kq_28
                      refine WL.move rfl rfl (?_)
                      refine WL.nil ?_
                      exact WX.one ⟨rfl, by first | exact Chg.refl _ _ | assumption⟩
                    apply DQ.step (E' := [(0, _), (193, _)])
                    case ho => rfl
                    case hs => exact ⟨rfl, rfl, trivial⟩
                    case hk => rfl
                    case h1 =>
                      intro wq_29 kq_29
                      refine WL.want rfl rfl rfl (WL.move rfl rfl (?_))
                      refine WL.nil ?_
                      exact WX.one ⟨rfl, by first | exact Chg.refl _ _ | assumption⟩
                    apply DQ.step (E' := [(194, _), (193, _)])
                    case ho => rfl
                    case hs => exact ⟨rfl, rfl, trivial⟩
                    case hk => rfl
                    case h1 =>
                      intro wq_30 kq_30
                      have zs_kq_30 := kq_30.size
                      replace h := h.pure kq_30
                      replace hp := hp.pure kq_30
                      replace hw := hw.pure kq_30
                      replace hX := hX.pure kq_30
                      replace hB := hB.pure kq_30
                      replace hI := hI.pure kq_30
                      replace hdd := hdd.pure kq_30
                      replace hrr := hrr.pure kq_30
                      refine WL.want rfl rfl rfl (?_)
                      refine WL.call eg_15 rfl rfl (Drives_calls hrr) ?_
                      rintro v w3 ⟨rfl, k3⟩
                      have zs_k3 := k3.size
                      replace h := h.pure k3
                      replace hp := hp.pure k3
                      replace hw := hw.pure k3
                      replace hX := hX.pure k3
                      replace hB := hB.pure k3
                      replace hI := hI.pure k3
                      replace hdd := hdd.pure k3
                      replace hrr := hrr.pure k3
                      refine WL.nil ?_
                      exact WX.one ⟨rfl, by first | exact Chg.refl _ _ | assumption⟩
                    apply DQ.step (E' := [(1, _), (193, _)])
                    case ho => rfl
                    case hs => exact ⟨rfl, rfl, trivial⟩
                    case hk => rfl
                    case h1 =>
                      intro wq_31 kq_31
                      refine WL.want rfl rfl rfl (WL.move rfl rfl (?_))
                      refine WL.nil ?_
                      exact WX.one ⟨rfl, by first | exact Chg.refl _ _ | assumption⟩
                    apply DQ.step (E' := [(196, _), (193, _)])
                    case ho => rfl
                    case hs => exact ⟨rfl, rfl, trivial⟩
                    case hk => rfl
                    case h1 =>
                      intro wq_32 kq_32
                      refine WL.want rfl rfl rfl (WL.nilCheck rfl rfl (?_))
                      refine WL.nil ?_
                      exact WX.one ⟨rfl, by first | exact Chg.refl _ _ | assumption⟩
                    apply DQ.step (E' := [(197, _), (193, _)])
                    case ho => rfl
                    case hs => exact ⟨rfl, rfl, trivial⟩
                    case hk => rfl
                    case h1 =>
                      intro wq_33 kq_33
                      refine WL.want rfl rfl rfl (WL.fieldAddr (fld_60_0) rfl rfl (?_))
                      refine WL.nil ?_
                      exact WX.one ⟨rfl, by first | exact Chg.refl _ _ | assumption⟩
                    apply DQ.step (E' := [(198, _), (193, _)])
                    case ho => rfl
                    case hs => exact ⟨rfl, rfl, trivial⟩
                    case hk => rfl
                    case h1 =>
                      intro wq_34 kq_34
                      have zs_kq_34 := kq_34.size
                      replace h := h.pure kq_34
                      replace hp := hp.pure kq_34
                      replace hw := hw.pure kq_34
                      replace hX := hX.pure kq_34
                      replace hB := hB.pure kq_34
                      replace hI := hI.pure kq_34
                      replace hdd := hdd.pure kq_34
                      replace hrr := hrr.pure kq_34
                      refine WL.want rfl rfl rfl (WL.loadB Try.isAgg57 hB rfl rfl rfl (?_))
                      refine WL.nil ?_
                      exact WX.one ⟨rfl, by first | exact Chg.refl _ _ | assumption⟩
                    apply DQ.step (E' := [(199, _), (193, _)])
                    case ho => rfl
                    case hs => exact ⟨rfl, rfl, trivial⟩
                    case hk => rfl
                    case h1 =>
                      intro wq_35 kq_35
                      have zs_kq_35 := kq_35.size
                      replace h := h.pure kq_35
                      replace hp := hp.pure kq_35
                      replace hw := hw.pure kq_35
                      replace hX := hX.pure kq_35
                      replace hB := hB.pure kq_35
                      replace hI := hI.pure kq_35
                      replace hdd := hdd.pure kq_35
                      replace hrr := hrr.pure kq_35
                      refine WL.want rfl rfl rfl (WL.len Try.underlying57 rfl rfl (?_))
                      refine WL.nil ?_
                      exact WX.one ⟨rfl, by first | exact Chg.refl _ _ | assumption⟩
                    apply DQ.step (E' := [(195, _), (200, _), (193, _)])
                    case ho => rfl
                    case hs => exact ⟨rfl, rfl, rfl, trivial⟩
                    case hk => rfl
                    case h1 =>
                      intro wq_36 kq_36
                      refine WL.want rfl rfl rfl (?_)
                      refine WL.eqlT rfl rfl rfl (by first | rfl | omega | decide) ?_
                      refine WL.nil ?_
                      exact WX.one ⟨rfl, by first | exact Chg.refl _ _ | assumption⟩
                    apply DQ.step (E' := [(193, _), (201, _)])
                    case ho => rfl
                    case hs => exact ⟨rfl, rfl, trivial⟩
                    case hk => rfl
                    case h1 =>
                      intro wq_37 kq_37
                      refine WL.pickT rfl rfl rfl (?_)
                      refine WL.nil ?_
                      exact WX.one ⟨rfl, by first | exact Chg.refl _ _ | assumption⟩
                    apply DQ.step (E' := [(202, _)])
                    case ho => rfl
                    case hs => exact ⟨rfl, trivial⟩
                    case hk => rfl
                    case h1 =>
                      intro wq_38 kq_38
                      refine WL.move rfl rfl (?_)
                      refine WL.nil ?_
                      exact WX.one ⟨rfl, by first | exact Chg.refl _ _ | assumption⟩
                    apply DQ.step (E' := [(0, _), (203, _)])
                    case ho => rfl
                    case hs => exact ⟨rfl, rfl, trivial⟩
                    case hk => rfl
                    case h1 =>
                      intro wq_39 kq_39
                      refine WL.want rfl rfl rfl (WL.move rfl rfl (?_))
                      refine WL.nil ?_
                      exact WX.one ⟨rfl, by first | exact Chg.refl _ _ | assumption⟩
                    apply DQ.step (E' := [(204, _), (203, _)])
                    case ho => rfl
                    case hs => exact ⟨rfl, rfl, trivial⟩
                    case hk => rfl
                    case h1 =>
                      intro wq_40 kq_40
                      have zs_kq_40 := kq_40.size
                      replace h := h.pure kq_40
                      replace hp := hp.pure kq_40
                      replace hw := hw.pure kq_40
                      replace hX := hX.pure kq_40
                      replace hB := hB.pure kq_40
                      replace hI := hI.pure kq_40
                      replace hdd := hdd.pure kq_40
                      replace hrr := hrr.pure kq_40
                      refine WL.want rfl rfl rfl (?_)
                      refine WL.call eg_16 rfl rfl (Sectors_calls hrr) ?_
                      rintro v w3 ⟨rfl, k3⟩
                      have zs_k3 := k3.size
                      replace h := h.pure k3
                      replace hp := hp.pure k3
                      replace hw := hw.pure k3
                      replace hX := hX.pure k3
                      replace hB := hB.pure k3
                      replace hI := hI.pure k3
                      replace hdd := hdd.pure k3
                      replace hrr := hrr.pure k3
                      refine WL.nil ?_
                      exact WX.one ⟨rfl, by first | exact Chg.refl _ _ | assumption⟩
                    apply DQ.step (E' := [(1, _), (203, _)])
                    case ho => rfl
                    case hs => exact ⟨rfl, rfl, trivial⟩
                    case hk => rfl
                    case h1 =>
                      intro wq_41 kq_41
                      refine WL.want rfl rfl rfl (WL.move rfl rfl (?_))
                      refine WL.nil ?_
                      exact WX.one ⟨rfl, by first | exact Chg.refl _ _ | assumption⟩
                    apply DQ.step (E' := [(206, _), (203, _)])
                    case ho => rfl
                    case hs => exact ⟨rfl, rfl, trivial⟩
                    case hk => rfl
                    case h1 =>
                      intro wq_42 kq_42
                      refine WL.want rfl rfl rfl (WL.nilCheck rfl rfl (?_))
                      refine WL.nil ?_
                      exact WX.one ⟨rfl, by first | exact Chg.refl _ _ | assumption⟩
                    apply DQ.step (E' := [(207, _), (203, _)])
                    case ho => rfl
                    case hs => exact ⟨rfl, rfl, trivial⟩
                    case hk => rfl
                    case h1 =>
                      intro wq_43 kq_43
                      refine WL.want rfl rfl rfl (WL.fieldAddr (fld_60_0) rfl rfl (?_))
                      refine WL.nil ?_
                      exact WX.one ⟨rfl, by first | exact Chg.refl _ _ | assumption⟩
                    apply DQ.step (E' := [(208, _), (203, _)])
                    case ho => rfl
                    case hs => exact ⟨rfl, rfl, trivial⟩
                    case hk => rfl
                    case h1 =>
                      intro wq_44 kq_44
                      have zs_kq_44 := kq_44.size
                      replace h := h.pure kq_44
                      replace hp := hp.pure kq_44
                      replace hw := hw.pure kq_44
                      replace hX := hX.pure kq_44
                      replace hB := hB.pure kq_44
                      replace hI := hI.pure kq_44
                      replace hdd := hdd.pure kq_44
                      replace hrr := hrr.pure kq_44
                      refine WL.want rfl rfl rfl (WL.loadB Try.isAgg57 hB rfl rfl rfl (?_))
                      refine WL.nil ?_
                      exact WX.one ⟨rfl, by first | exact Chg.refl _ _ | assumption⟩
                    apply DQ.step (E' := [(209, _), (203, _)])
                    case ho => rfl
                    case hs => exact ⟨rfl, rfl, trivial⟩
                    case hk => rfl
                    case h1 =>
                      intro wq_45 kq_45
                      have zs_kq_45 := kq_45.size
                      replace h := h.pure kq_45
                      replace hp := hp.pure kq_45
                      replace hw := hw.pure kq_45
                      replace hX := hX.pure kq_45
                      replace hB := hB.pure kq_45
                      replace hI := hI.pure kq_45
                      replace hdd := hdd.pure kq_45
                      replace hrr := hrr.pure kq_45
                      refine WL.want rfl rfl rfl (?_)
                      refine WL.indexC (e := esr) hI.ld.outer.rsl Try.underlying57 Try.sizeOf61 (by show some (Value.slice _ s.dn _) = some (Value.slice _ ls.length _); rw [hlen]) rfl ⟨hr0, rfl⟩ rfl ?_
                      refine WL.nil ?_
                      exact WX.one ⟨rfl, by first | exact Chg.refl _ _ | assumption⟩
                    apply DQ.step (E' := [(210, _), (203, _)])
                    case ho => rfl
                    case hs => exact ⟨rfl, rfl, trivial⟩
                    case hk => rfl
                    case h1 =>
                      intro wq_46 kq_46
                      have zs_kq_46 := kq_46.size
                      replace h := h.pure kq_46
                      replace hp := hp.pure kq_46
                      replace hw := hw.pure kq_46
                      replace hX := hX.pure kq_46
                      replace hB := hB.pure kq_46
                      replace hI := hI.pure kq_46
                      replace hdd := hdd.pure kq_46
                      replace hrr := hrr.pure kq_46
                      refine WL.want rfl rfl rfl (?_)
                      refine WL.load Try.isAgg61 rfl ((hI.ld.outer.rsl.cellsAt hr0) 0 _ rfl) rfl ?_
                      refine WL.nil ?_
                      exact WX.one ⟨rfl, by first | exact Chg.refl _ _ | assumption⟩
                    apply DQ.step (E' := [(211, _), (203, _)])
                    case ho => rfl
                    case hs => exact ⟨rfl, rfl, trivial⟩
                    case hk => rfl
                    case h1 =>
                      intro wq_47 kq_47
                      have zs_kq_47 := kq_47.size
                      replace h := h.pure kq_47
                      replace hp := hp.pure kq_47
                      replace hw := hw.pure kq_47
                      replace hX := hX.pure kq_47
                      replace hB := hB.pure kq_47
                      replace hI := hI.pure kq_47
                      replace hdd := hdd.pure kq_47
                      replace hrr := hrr.pure kq_47
                      refine WL.want rfl rfl rfl (WL.len Try.underlying61 rfl rfl (?_))
                      refine WL.nil ?_
                      exact WX.one ⟨rfl, by first | exact Chg.refl _ _ | assumption⟩
                    apply DQ.step (E' := [(205, _), (212, _), (203, _)])
                    case ho => rfl
                    case hs => exact ⟨rfl, rfl, rfl, trivial⟩
                    case hk => rfl
                    case h1 =>
                      intro wq_48 kq_48
                      refine WL.want rfl rfl rfl (?_)
                      refine WL.eqlT rfl rfl rfl (by show (s.sn : Int) = (r0.xs.length : Int); rw [hr0l]) ?_
                      refine WL.nil ?_
                      exact WX.one ⟨rfl, by first | exact Chg.refl _ _ | assumption⟩
                    apply DQ.step (E' := [(203, _), (213, _)])
                    case ho => rfl
                    case hs => exact ⟨rfl, rfl, trivial⟩
                    case hk => rfl
                    case h1 =>
                      intro wq_49 kq_49
                      refine WL.pickT rfl rfl rfl (?_)
                      refine WL.nil ?_
                      exact WX.one ⟨rfl, by first | exact Chg.refl _ _ | assumption⟩
                    apply DQ.step (E' := [(214, _)])
                    case ho => rfl
                    case hs => exact ⟨rfl, trivial⟩
                    case hk => rfl
                    case h1 =>
                      intro wq_50 kq_50
                      refine WL.move rfl rfl (?_)
                      refine WL.nil ?_
                      exact WX.one ⟨rfl, by first | exact Chg.refl _ _ | assumption⟩
                    apply DQ.step (E' := [(0, _), (215, _)])
                    case ho => rfl
                    case hs => exact ⟨rfl, rfl, trivial⟩
                    case hk => rfl
                    case h1 =>
                      intro wq_51 kq_51
                      refine WL.want rfl rfl rfl (WL.move rfl rfl (?_))
                      refine WL.nil ?_
                      exact WX.one ⟨rfl, by first | exact Chg.refl _ _ | assumption⟩
                    apply DQ.step (E' := [(5, _), (215, _)])
                    case ho => rfl
                    case hs => exact ⟨rfl, rfl, trivial⟩
                    case hk => rfl
                    case h1 =>
                      intro wq_52 kq_52
                      refine WL.want rfl rfl rfl (WL.fieldAddr (fld_39_1) rfl rfl (?_))
                      refine WL.nil ?_
                      exact WX.one ⟨rfl, by first | exact Chg.refl _ _ | assumption⟩
                    apply DQ.step (E' := [(217, _), (215, _)])
                    case ho => rfl
                    case hs => exact ⟨rfl, rfl, trivial⟩
                    case hk => rfl
                    case h1 =>
                      intro wq_53 kq_53
                      have zs_kq_53 := kq_53.size
                      replace h := h.pure kq_53
                      replace hp := hp.pure kq_53
                      replace hw := hw.pure kq_53
                      replace hX := hX.pure kq_53
                      replace hB := hB.pure kq_53
                      replace hI := hI.pure kq_53
                      replace hdd := hdd.pure kq_53
                      replace hrr := hrr.pure kq_53
                      refine WL.want rfl rfl rfl (WL.loadB Try.isAgg3 hX rfl rfl rfl (?_))
                      refine WL.nil ?_
                      exact WX.one ⟨rfl, by first | exact Chg.refl _ _ | assumption⟩
                    apply DQ.step (E' := [(216, _), (218, _), (215, _)])
                    case ho => rfl
                    case hs => exact ⟨rfl, rfl, rfl, trivial⟩
                    case hk => rfl
                    case h1 =>
                      intro wq_54 kq_54
                      have zs_kq_54 := kq_54.size
                      replace h := h.pure kq_54
                      replace hp := hp.pure kq_54
                      replace hw := hw.pure kq_54
                      replace hX := hX.pure kq_54
                      replace hB := hB.pure kq_54
                      replace hI := hI.pure kq_54
                      replace hdd := hdd.pure kq_54
                      replace hrr := hrr.pure kq_54
                      refine WL.want rfl rfl rfl (?_)
                      refine WL.call eg_8 rfl rfl (Gone_calls hrr od) ?_
                      rintro v w3 ⟨rfl, k3⟩
                      have zs_k3 := k3.size
                      replace h := h.pure k3
                      replace hp := hp.pure k3
                      replace hw := hw.pure k3
                      replace hX := hX.pure k3
                      replace hB := hB.pure k3
                      replace hI := hI.pure k3
                      replace hdd := hdd.pure k3
                      replace hrr := hrr.pure k3
                      refine WL.nil ?_
                      exact WX.one ⟨rfl, by first | exact Chg.refl _ _ | assumption⟩
                    apply DQ.step (E' := [(18, _), (215, _)])
                    case ho => rfl
                    case hs => exact ⟨rfl, rfl, trivial⟩
                    case hk => rfl
                    case h1 =>
                      intro wq_55 kq_55
                      refine WL.want rfl rfl rfl (WL.move rfl rfl (?_))
                      refine WL.nil ?_
                      exact WX.one ⟨rfl, by first | exact Chg.refl _ _ | assumption⟩
                    apply DQ.step (E' := [(219, _), (220, _), (215, _)])
                    case ho => rfl
                    case hs => exact ⟨rfl, rfl, rfl, trivial⟩
                    case hk => rfl
                    case h1 =>
                      intro wq_56 kq_56
                      refine WL.want rfl rfl rfl (?_)
                      refine WL.beqlT Try.underlying4 rfl rfl (by first | (rw [decide_eq_true h174]; rfl) | (rw [decide_eq_false h174]; rfl)) rfl ?_
                      refine WL.nil ?_
                      exact WX.one ⟨rfl, by first | exact Chg.refl _ _ | assumption⟩
                    apply DQ.step (E' := [(215, _), (221, _)])
                    case ho => rfl
                    case hs => exact ⟨rfl, rfl, trivial⟩
                    case hk => rfl
                    case h1 =>
                      intro wq_57 kq_57
                      refine WL.pickT rfl rfl rfl (?_)
                      refine WL.nil ?_
                      exact WX.one ⟨rfl, by first | exact Chg.refl _ _ | assumption⟩
                    apply DQ.step (E' := [(222, _)])
                    case ho => rfl
                    case hs => exact ⟨rfl, trivial⟩
                    case hk => rfl
                    case h1 =>
                      intro wq_58 kq_58
                      refine WL.assign rfl rfl (?_)
                      refine WL.nil ?_
                      exact WX.one ⟨rfl, by first | exact Chg.refl _ _ | assumption⟩
                    refine DQ.done (fun _ => ?_)
                    refine DL.done (fun we_59 ke_59 => ?_)
                    have zs_ke_59 := ke_59.size
                    replace h := h.pure ke_59
                    replace hp := hp.pure ke_59
                    replace hw := hw.pure ke_59
                    replace hX := hX.pure ke_59
                    replace hB := hB.pure ke_59
                    replace hI := hI.pure ke_59
                    replace hdd := hdd.pure ke_59
                    replace hrr := hrr.pure ke_59
                    refine WX.then_normal (WC.ret (?_))
                    refine WX.ret1 (.inl rfl) Try.results12 rfl ?_
                    have hsl := Nat.le_succ s.waits.length
                    first
                      | exact ⟨_, rfl, rfl, St.of h (Chg.refl _ _) hsl rfl rfl, hw⟩
                      | exact ⟨_, rfl, by simp, St.of hf (Chg.refl _ _) (writeS_len s od oa Bx).1 (writeS_len s od oa Bx).2.1 (writeS_len s od oa Bx).2.2, hw⟩
                      | exact ⟨_, rfl, by simp, St.of hf (Chg.refl _ _) (flushS_len s).1 (flushS_len s).2.1 (flushS_len s).2.2, hw⟩
                      | exact ⟨_, rfl, rfl, St.of hf (Chg.refl _ _) hsl rfl rfl, hw⟩
                      | exact ⟨_, rfl, rfl, St.of hf (Chg.refl _ _) (Nat.zero_le _) rfl rfl, hw⟩
                      | exact ⟨_, rfl, by simp, St.of hf (Chg.refl _ _) (loseI_len s od).1 (loseI_len s od).2.1 (loseI_len s od).2.2, hw⟩
                      | exact ⟨_, rfl, by simp, St.of hf (Chg.refl _ _) (replaceI_len s od).1 (replaceI_len s od).2.1 (replaceI_len s od).2.2, hw⟩
                      | exact ⟨_, rfl, by simp, St.of hf (Chg.refl _ _) (rotI_len s od oa on).1 (rotI_len s od oa on).2.1 (rotI_len s od oa on).2.2, hw⟩
                  ·
                    refine WC.draw (Nob) [0, 1, 2, 3, 4, 5, 6, 7, 8, 9, 10, 11, 12, 13, 14] [] mixed rfl rfl (fun wd_2 kd_2 zd_2 => ?_)
                    have zs_kd_2 := kd_2.size
                    replace h := h.pure kd_2
                    replace hp := hp.pure kd_2
                    replace hw := hw.pure kd_2
                    replace hX := hX.pure kd_2
                    replace hB := hB.pure kd_2
                    replace hI := hI.pure kd_2
                    replace hdd := hdd.pure kd_2
                    apply DQ.step (E' := [(1, _)])
                    case ho => rfl
                    case hs => exact ⟨rfl, trivial⟩
                    case hk => rfl
                    case h1 =>
                      intro wq_3 kq_3
                      refine WL.move rfl rfl (?_)
                      refine WL.nil ?_
                      exact WX.one ⟨rfl, by first | exact Chg.refl _ _ | assumption⟩
                    apply DQ.step (E' := [(5, _)])
                    case ho => rfl
                    case hs => exact ⟨rfl, trivial⟩
                    case hk => rfl
                    case h1 =>
                      intro wq_4 kq_4
                      refine WL.fieldAddr (fld_39_1) rfl rfl (?_)
                      refine WL.nil ?_
                      exact WX.one ⟨rfl, by first | exact Chg.refl _ _ | assumption⟩
                    apply DQ.step (E' := [(172, _)])
                    case ho => rfl
                    case hs => exact ⟨rfl, trivial⟩
                    case hk => rfl
                    case h1 =>
                      intro wq_5 kq_5
                      have zs_kq_5 := kq_5.size
                      replace h := h.pure kq_5
                      replace hp := hp.pure kq_5
                      replace hw := hw.pure kq_5
                      replace hX := hX.pure kq_5
                      replace hB := hB.pure kq_5
                      replace hI := hI.pure kq_5
                      replace hdd := hdd.pure kq_5
                      refine WL.loadB Try.isAgg3 hX rfl rfl rfl (?_)
                      refine WL.nil ?_
                      exact WX.one ⟨rfl, by first | exact Chg.refl _ _ | assumption⟩
                    apply DQ.step (E' := [(171, _), (173, _)])
                    case ho => rfl
                    case hs => exact ⟨rfl, rfl, trivial⟩
                    case hk => rfl
                    case h1 =>
                      intro wq_6 kq_6
                      have zs_kq_6 := kq_6.size
                      replace h := h.pure kq_6
                      replace hp := hp.pure kq_6
                      replace hw := hw.pure kq_6
                      replace hX := hX.pure kq_6
                      replace hB := hB.pure kq_6
                      replace hI := hI.pure kq_6
                      replace hdd := hdd.pure kq_6
                      refine WL.call eg_34 rfl rfl (dIs_calls hdd od) ?_
                      rintro v w3 ⟨rfl, k3⟩
                      rw [decide_eq_false h174]
                      have zs_k3 := k3.size
                      replace h := h.pure k3
                      replace hp := hp.pure k3
                      replace hw := hw.pure k3
                      replace hX := hX.pure k3
                      replace hB := hB.pure k3
                      replace hI := hI.pure k3
                      replace hdd := hdd.pure k3
                      refine WL.nil ?_
                      exact WX.one ⟨rfl, by first | exact Chg.refl _ _ | assumption⟩
                    apply DQ.step (E' := [(174, _)])
                    case ho => rfl
                    case hs => exact ⟨rfl, trivial⟩
                    case hk => rfl
                    case h1 =>
                      intro wq_7 kq_7
                      refine WL.move rfl rfl (?_)
                      refine WL.nil ?_
                      exact WX.one ⟨rfl, by first | exact Chg.refl _ _ | assumption⟩
                    apply DQ.step (E' := [(1, _), (175, _)])
                    case ho => rfl
                    case hs => exact ⟨rfl, rfl, trivial⟩
                    case hk => rfl
                    case h1 =>
                      intro wq_8 kq_8
                      refine WL.pass rfl rfl rfl rfl (WL.nil (?_))
                      exact WX.one ⟨rfl, by first | exact Chg.refl _ _ | assumption⟩
                    apply DQ.step (E' := [(176, _), (175, _)])
                    case ho => rfl
                    case hs => exact ⟨rfl, rfl, trivial⟩
                    case hk => rfl
                    case h1 =>
                      intro wq_9 kq_9
                      refine WL.pass rfl rfl rfl rfl (WL.nil (?_))
                      exact WX.one ⟨rfl, by first | exact Chg.refl _ _ | assumption⟩
                    apply DQ.step (E' := [(177, _), (175, _)])
                    case ho => rfl
                    case hs => exact ⟨rfl, rfl, trivial⟩
                    case hk => rfl
                    case h1 =>
                      intro wq_10 kq_10
                      refine WL.pass rfl rfl rfl rfl (WL.nil (?_))
                      exact WX.one ⟨rfl, by first | exact Chg.refl _ _ | assumption⟩
                    apply DQ.step (E' := [(178, _), (175, _)])
                    case ho => rfl
                    case hs => exact ⟨rfl, rfl, trivial⟩
                    case hk => rfl
                    case h1 =>
                      intro wq_11 kq_11
                      have zs_kq_11 := kq_11.size
                      replace h := h.pure kq_11
                      replace hp := hp.pure kq_11
                      replace hw := hw.pure kq_11
                      replace hX := hX.pure kq_11
                      replace hB := hB.pure kq_11
                      replace hI := hI.pure kq_11
                      replace hdd := hdd.pure kq_11
                      refine WL.pass rfl rfl rfl rfl (WL.nil (?_))
                      exact WX.one ⟨rfl, by first | exact Chg.refl _ _ | assumption⟩
                    apply DQ.step (E' := [(5, _), (175, _)])
                    case ho => rfl
                    case hs => exact ⟨rfl, rfl, trivial⟩
                    case hk => rfl
                    case h1 =>
                      intro wq_12 kq_12
                      refine WL.pass rfl rfl rfl rfl (WL.nil (?_))
                      exact WX.one ⟨rfl, by first | exact Chg.refl _ _ | assumption⟩
                    apply DQ.step (E' := [(180, _), (175, _)])
                    case ho => rfl
                    case hs => exact ⟨rfl, rfl, trivial⟩
                    case hk => rfl
                    case h1 =>
                      intro wq_13 kq_13
                      have zs_kq_13 := kq_13.size
                      replace h := h.pure kq_13
                      replace hp := hp.pure kq_13
                      replace hw := hw.pure kq_13
                      replace hX := hX.pure kq_13
                      replace hB := hB.pure kq_13
                      replace hI := hI.pure kq_13
                      replace hdd := hdd.pure kq_13
                      refine WL.pass rfl rfl rfl rfl (WL.nil (?_))
                      exact WX.one ⟨rfl, by first | exact Chg.refl _ _ | assumption⟩
                    apply DQ.step (E' := [(179, _), (181, _), (175, _)])
                    case ho => rfl
                    case hs => exact ⟨rfl, rfl, rfl, trivial⟩
                    case hk => rfl
                    case h1 =>
                      intro wq_14 kq_14
                      have zs_kq_14 := kq_14.size
                      replace h := h.pure kq_14
                      replace hp := hp.pure kq_14
                      replace hw := hw.pure kq_14
                      replace hX := hX.pure kq_14
                      replace hB := hB.pure kq_14
                      replace hI := hI.pure kq_14
                      replace hdd := hdd.pure kq_14
                      refine WL.pass rfl rfl rfl rfl (WL.nil (?_))
                      exact WX.one ⟨rfl, by first | exact Chg.refl _ _ | assumption⟩
                    apply DQ.step (E' := [(182, _), (175, _)])
                    case ho => rfl
                    case hs => exact ⟨rfl, rfl, trivial⟩
                    case hk => rfl
                    case h1 =>
                      intro wq_15 kq_15
                      have zs_kq_15 := kq_15.size
                      replace h := h.pure kq_15
                      replace hp := hp.pure kq_15
                      replace hw := hw.pure kq_15
                      replace hX := hX.pure kq_15
                      replace hB := hB.pure kq_15
                      replace hI := hI.pure kq_15
                      replace hdd := hdd.pure kq_15
                      refine WL.pass rfl rfl rfl rfl (WL.nil (?_))
                      exact WX.one ⟨rfl, by first | exact Chg.refl _ _ | assumption⟩
                    apply DQ.step (E' := [(175, _), (183, _)])
                    case ho => rfl
                    case hs => exact ⟨rfl, rfl, trivial⟩
                    case hk => rfl
                    case h1 =>
                      intro wq_16 kq_16
                      refine WL.pickF rfl rfl rfl (?_)
                      refine WL.nil ?_
                      exact WX.one ⟨rfl, by first | exact Chg.refl _ _ | assumption⟩
                    apply DQ.step (E' := [(184, _)])
                    case ho => rfl
                    case hs => exact ⟨rfl, trivial⟩
                    case hk => rfl
                    case h1 =>
                      intro wq_17 kq_17
                      refine WL.assign rfl rfl (?_)
                      refine WL.nil ?_
                      exact WX.one ⟨rfl, by first | exact Chg.refl _ _ | assumption⟩
                    refine DQ.done (fun _ => ?_)
                    refine DL.done (fun we_18 ke_18 => ?_)
                    have zs_ke_18 := ke_18.size
                    replace h := h.pure ke_18
                    replace hp := hp.pure ke_18
                    replace hw := hw.pure ke_18
                    replace hX := hX.pure ke_18
                    replace hB := hB.pure ke_18
                    replace hI := hI.pure ke_18
                    replace hdd := hdd.pure ke_18
                    refine WX.then_normal (WC.seq (?_))
                    obtain ⟨r0, hr0⟩ : ∃ r, ls[0]? = some r := ⟨_, List.getElem?_eq_getElem (by have := h.d.ok.dn; omega)⟩
                    obtain ⟨go, hgo⟩ := hI.ld.outer.place0 (j := 0) (by have := h.d.ok.dn; omega)
                    have hr0l := hI.ld.rlen hr0
                    subst hgo
                    have hrr := h.r
                    refine WC.draw (Nob) [0, 1, 2, 3, 4, 5, 6, 7, 8, 9, 10, 11, 12, 13, 14, 15, 16, 17, 18, 19, 20, 21, 22, 23, 24, 25, 26, 27, 28, 29, 30, 31, 32, 33, 34, 35, 36, 37, 38] [] mixed rfl rfl (fun wd_19 kd_19 zd_19 => ?_)
                    have zs_kd_19 := kd_19.size
                    replace h := h.pure kd_19
                    replace hp := hp.pure kd_19
                    replace hw := hw.pure kd_19
                    replace hX := hX.pure kd_19
                    replace hB := hB.pure kd_19
                    replace hI := hI.pure kd_19
                    replace hdd := hdd.pure kd_19
                    replace hrr := hrr.pure kd_19
                    apply DQ.step (E' := [(0, _)])
                    case ho => rfl
                    case hs => exact ⟨rfl, trivial⟩
                    case hk => rfl
                    case h1 =>
                      intro wq_20 kq_20
                      refine WL.move rfl rfl (?_)
                      refine WL.nil ?_
                      exact WX.one ⟨rfl, by first | exact Chg.refl _ _ | assumption⟩
                    apply DQ.step (E' := [(185, _)])
                    case ho => rfl
                    case hs => exact ⟨rfl, trivial⟩
                    case hk => rfl
                    case h1 =>
                      intro wq_21 kq_21
                      have zs_kq_21 := kq_21.size
                      replace h := h.pure kq_21
                      replace hp := hp.pure kq_21
                      replace hw := hw.pure kq_21
                      replace hX := hX.pure kq_21
                      replace hB := hB.pure kq_21
                      replace hI := hI.pure kq_21
                      replace hdd := hdd.pure kq_21
                      replace hrr := hrr.pure kq_21
                      refine WL.call eg_9 rfl rfl (Pending_calls hrr) ?_
                      rintro v w3 ⟨rfl, k3⟩
                      have zs_k3 := k3.size
                      replace h := h.pure k3
                      replace hp := hp.pure k3
                      replace hw := hw.pure k3
                      replace hX := hX.pure k3
                      replace hB := hB.pure k3
                      replace hI := hI.pure k3
                      replace hdd := hdd.pure k3
                      replace hrr := hrr.pure k3
                      refine WL.nil ?_
                      exact WX.one ⟨rfl, by first | exact Chg.refl _ _ | assumption⟩
                    apply DQ.step (E' := [(1, _)])
                    case ho => rfl
                    case hs => exact ⟨rfl, trivial⟩
                    case hk => rfl
                    case h1 =>
                      intro wq_22 kq_22
                      refine WL.move rfl rfl (?_)
                      refine WL.nil ?_
                      exact WX.one ⟨rfl, by first | exact Chg.refl _ _ | assumption⟩
                    apply DQ.step (E' := [(187, _)])
                    case ho => rfl
                    case hs => exact ⟨rfl, trivial⟩
                    case hk => rfl
                    case h1 =>
                      intro wq_23 kq_23
                      refine WL.nilCheck rfl rfl (?_)
                      refine WL.nil ?_
                      exact WX.one ⟨rfl, by first | exact Chg.refl _ _ | assumption⟩
                    apply DQ.step (E' := [(188, _)])
                    case ho => rfl
                    case hs => exact ⟨rfl, trivial⟩
                    case hk => rfl
                    case h1 =>
                      intro wq_24 kq_24
                      refine WL.fieldAddr (fld_60_2) rfl rfl (?_)
                      refine WL.nil ?_
                      exact WX.one ⟨rfl, by first | exact Chg.refl _ _ | assumption⟩
                    apply DQ.step (E' := [(189, _)])
                    case ho => rfl
                    case hs => exact ⟨rfl, trivial⟩
                    case hk => rfl
                    case h1 =>
                      intro wq_25 kq_25
                      have zs_kq_25 := kq_25.size
                      replace h := h.pure kq_25
                      replace hp := hp.pure kq_25
                      replace hw := hw.pure kq_25
                      replace hX := hX.pure kq_25
                      replace hB := hB.pure kq_25
                      replace hI := hI.pure kq_25
                      replace hdd := hdd.pure kq_25
                      replace hrr := hrr.pure kq_25
                      refine WL.loadB Try.isAgg58 hB rfl rfl rfl (?_)
                      refine WL.nil ?_
                      exact WX.one ⟨rfl, by first | exact Chg.refl _ _ | assumption⟩
                    apply DQ.step (E' := [(190, _)])
                    case ho => rfl
                    case hs => exact ⟨rfl, trivial⟩
                    case hk => rfl
                    case h1 =>
                      intro wq_26 kq_26
                      have zs_kq_26 := kq_26.size
                      replace h := h.pure kq_26
                      replace hp := hp.pure kq_26
                      replace hw := hw.pure kq_26
                      replace hX := hX.pure kq_26
                      replace hB := hB.pure kq_26
                      replace hI := hI.pure kq_26
                      replace hdd := hdd.pure kq_26
                      replace hrr := hrr.pure kq_26
                      refine WL.len Try.underlying58 rfl rfl (?_)
                      refine WL.nil ?_
                      exact WX.one ⟨rfl, by first | exact Chg.refl _ _ | assumption⟩
                    apply DQ.step (E' := [(186, _), (191, _)])
                    case ho => rfl
                    case hs => exact ⟨rfl, rfl, trivial⟩
                    case hk => rfl
                    case h1 =>
                      intro wq_27 kq_27
                      refine WL.eqlT rfl rfl rfl (by first | rfl | omega | decide) ?_
                      refine WL.nil ?_
                      exact WX.one ⟨rfl, by first | exact Chg.refl _ _ | assumption⟩
                    apply DQ.step (E' := [(192, _)])
                    case ho => rfl
                    case hs => exact ⟨rfl, trivial⟩
                    case hk => rfl
                    case h1 =>
                      intro wq_28 kq_28
                      refine WL.move rfl rfl (?_)
                      refine WL.nil ?_
                      exact WX.one ⟨rfl, by first | exact Chg.refl _ _ | assumption⟩
                    apply DQ.step (E' := [(0, _), (193, _)])
                    case ho => rfl
                    case hs => exact ⟨rfl, rfl, trivial⟩
                    case hk => rfl
                    case h1 =>
                      intro wq_29 kq_29
                      refine WL.want rfl rfl rfl (WL.move rfl rfl (?_))
                      refine WL.nil ?_
                      exact WX.one ⟨rfl, by first | exact Chg.refl _ _ | assumption⟩
                    apply DQ.step (E' := [(194, _), (193, _)])
                    case ho => rfl
                    case hs => exact ⟨rfl, rfl, trivial⟩
                    case hk => rfl
                    case h1 =>
                      intro wq_30 kq_30
                      have zs_kq_30 := kq_30.size
                      replace h := h.pure kq_30
                      replace hp := hp.pure kq_30
                      replace hw := hw.pure kq_30
                      replace hX := hX.pure kq_30
                      replace hB := hB.pure kq_30
                      replace hI := hI.pure kq_30
                      replace hdd := hdd.pure kq_30
                      replace hrr := hrr.pure kq_30
                      refine WL.want rfl rfl rfl (?_)
                      refine WL.call eg_15 rfl rfl (Drives_calls hrr) ?_
                      rintro v w3 ⟨rfl, k3⟩
                      have zs_k3 := k3.size
                      replace h := h.pure k3
                      replace hp := hp.pure k3
                      replace hw := hw.pure k3
                      replace hX := hX.pure k3
                      replace hB := hB.pure k3
                      replace hI := hI.pure k3
                      replace hdd := hdd.pure k3
                      replace hrr := hrr.pure k3
                      refine WL.nil ?_
                      exact WX.one ⟨rfl, by first | exact Chg.refl _ _ | assumption⟩
                    apply DQ.step (E' := [(1, _), (193, _)])
                    case ho => rfl
                    case hs => exact ⟨rfl, rfl, trivial⟩
                    case hk => rfl
                    case h1 =>
                      intro wq_31 kq_31
                      refine WL.want rfl rfl rfl (WL.move rfl rfl (?_))
                      refine WL.nil ?_
                      exact WX.one ⟨rfl, by first | exact Chg.refl _ _ | assumption⟩
                    apply DQ.step (E' := [(196, _), (193, _)])
                    case ho => rfl
                    case hs => exact ⟨rfl, rfl, trivial⟩
                    case hk => rfl
                    case h1 =>
                      intro wq_32 kq_32
                      refine WL.want rfl rfl rfl (WL.nilCheck rfl rfl (?_))
                      refine WL.nil ?_
                      exact WX.one ⟨rfl, by first | exact Chg.refl _ _ | assumption⟩
                    apply DQ.step (E' := [(197, _), (193, _)])
                    case ho => rfl
                    case hs => exact ⟨rfl, rfl, trivial⟩
                    case hk => rfl
                    case h1 =>
                      intro wq_33 kq_33
                      refine WL.want rfl rfl rfl (WL.fieldAddr (fld_60_0) rfl rfl (?_))
                      refine WL.nil ?_
                      exact WX.one ⟨rfl, by first | exact Chg.refl _ _ | assumption⟩
                    apply DQ.step (E' := [(198, _), (193, _)])
                    case ho => rfl
                    case hs => exact ⟨rfl, rfl, trivial⟩
                    case hk => rfl
                    case h1 =>
                      intro wq_34 kq_34
                      have zs_kq_34 := kq_34.size
                      replace h := h.pure kq_34
                      replace hp := hp.pure kq_34
                      replace hw := hw.pure kq_34
                      replace hX := hX.pure kq_34
                      replace hB := hB.pure kq_34
                      replace hI := hI.pure kq_34
                      replace hdd := hdd.pure kq_34
                      replace hrr := hrr.pure kq_34
                      refine WL.want rfl rfl rfl (WL.loadB Try.isAgg57 hB rfl rfl rfl (?_))
                      refine WL.nil ?_
                      exact WX.one ⟨rfl, by first | exact Chg.refl _ _ | assumption⟩
                    apply DQ.step (E' := [(199, _), (193, _)])
                    case ho => rfl
                    case hs => exact ⟨rfl, rfl, trivial⟩
                    case hk => rfl
                    case h1 =>
                      intro wq_35 kq_35
                      have zs_kq_35 := kq_35.size
                      replace h := h.pure kq_35
                      replace hp := hp.pure kq_35
                      replace hw := hw.pure kq_35
                      replace hX := hX.pure kq_35
                      replace hB := hB.pure kq_35
                      replace hI := hI.pure kq_35
                      replace hdd := hdd.pure kq_35
                      replace hrr := hrr.pure kq_35
                      refine WL.want rfl rfl rfl (WL.len Try.underlying57 rfl rfl (?_))
                      refine WL.nil ?_
                      exact WX.one ⟨rfl, by first | exact Chg.refl _ _ | assumption⟩
                    apply DQ.step (E' := [(195, _), (200, _), (193, _)])
                    case ho => rfl
                    case hs => exact ⟨rfl, rfl, rfl, trivial⟩
                    case hk => rfl
                    case h1 =>
                      intro wq_36 kq_36
                      refine WL.want rfl rfl rfl (?_)
                      refine WL.eqlT rfl rfl rfl (by first | rfl | omega | decide) ?_
                      refine WL.nil ?_
                      exact WX.one ⟨rfl, by first | exact Chg.refl _ _ | assumption⟩
                    apply DQ.step (E' := [(193, _), (201, _)])
                    case ho => rfl
                    case hs => exact ⟨rfl, rfl, trivial⟩
                    case hk => rfl
                    case h1 =>
                      intro wq_37 kq_37
                      refine WL.pickT rfl rfl rfl (?_)
                      refine WL.nil ?_
                      exact WX.one ⟨rfl, by first | exact Chg.refl _ _ | assumption⟩
                    apply DQ.step (E' := [(202, _)])
                    case ho => rfl
                    case hs => exact ⟨rfl, trivial⟩
                    case hk => rfl
                    case h1 =>
                      intro wq_38 kq_38
                      refine WL.move rfl rfl (?_)
                      refine WL.nil ?_
                      exact WX.one ⟨rfl, by first | exact Chg.refl _ _ | assumption⟩
                    apply DQ.step (E' := [(0, _), (203, _)])
                    case ho => rfl
                    case hs => exact ⟨rfl, rfl, trivial⟩
                    case hk => rfl
                    case h1 =>
                      intro wq_39 kq_39
                      refine WL.want rfl rfl rfl (WL.move rfl rfl (?_))
                      refine WL.nil ?_
                      exact WX.one ⟨rfl, by first | exact Chg.refl _ _ | assumption⟩
                    apply DQ.step (E' := [(204, _), (203, _)])
                    case ho => rfl
                    case hs => exact ⟨rfl, rfl, trivial⟩
                    case hk => rfl
                    case h1 =>
                      intro wq_40 kq_40
                      have zs_kq_40 := kq_40.size
                      replace h := h.pure kq_40
                      replace hp := hp.pure kq_40
                      replace hw := hw.pure kq_40
                      replace hX := hX.pure kq_40
                      replace hB := hB.pure kq_40
                      replace hI := hI.pure kq_40
                      replace hdd := hdd.pure kq_40
                      replace hrr := hrr.pure kq_40
                      refine WL.want rfl rfl rfl (?_)
                      refine WL.call eg_16 rfl rfl (Sectors_calls hrr) ?_
                      rintro v w3 ⟨rfl, k3⟩
                      have zs_k3 := k3.size
                      replace h := h.pure k3
                      replace hp := hp.pure k3
                      replace hw := hw.pure k3
                      replace hX := hX.pure k3
                      replace hB := hB.pure k3
                      replace hI := hI.pure k3
                      replace hdd := hdd.pure k3
                      replace hrr := hrr.pure k3
                      refine WL.nil ?_
                      exact WX.one ⟨rfl, by first | exact Chg.refl _ _ | assumption⟩
                    apply DQ.step (E' := [(1, _), (203, _)])
                    case ho => rfl
                    case hs => exact ⟨rfl, rfl, trivial⟩
                    case hk => rfl
                    case h1 =>
                      intro wq_41 kq_41
                      refine WL.want rfl rfl rfl (WL.move rfl rfl (?_))
                      refine WL.nil ?_
                      exact WX.one ⟨rfl, by first | exact Chg.refl _ _ | assumption⟩
                    apply DQ.step (E' := [(206, _), (203, _)])
                    case ho => rfl
                    case hs => exact ⟨rfl, rfl, trivial⟩
                    case hk => rfl
                    case h1 =>
                      intro wq_42 kq_42
                      refine WL.want rfl rfl rfl (WL.nilCheck rfl rfl (?_))
                      refine WL.nil ?_
                      exact WX.one ⟨rfl, by first | exact Chg.refl _ _ | assumption⟩
                    apply DQ.step (E' := [(207, _), (203, _)])
                    case ho => rfl
                    case hs => exact ⟨rfl, rfl, trivial⟩
                    case hk => rfl
                    case h1 =>
                      intro wq_43 kq_43
                      refine WL.want rfl rfl rfl (WL.fieldAddr (fld_60_0) rfl rfl (?_))
                      refine WL.nil ?_
                      exact WX.one ⟨rfl, by first | exact Chg.refl _ _ | assumption⟩
                    apply DQ.step (E' := [(208, _), (203, _)])
                    case ho => rfl
                    case hs => exact ⟨rfl, rfl, trivial⟩
                    case hk => rfl
                    case h1 =>
                      intro wq_44 kq_44
                      have zs_kq_44 := kq_44.size
                      replace h := h.pure kq_44
                      replace hp := hp.pure kq_44
                      replace hw := hw.pure kq_44
                      replace hX := hX.pure kq_44
                      replace hB := hB.pure kq_44
                      replace hI := hI.pure kq_44
                      replace hdd := hdd.pure kq_44
                      replace hrr := hrr.pure kq_44
                      refine WL.want rfl rfl rfl (WL.loadB Try.isAgg57 hB rfl rfl rfl (?_))
                      refine WL.nil ?_
                      exact WX.one ⟨rfl, by first | exact Chg.refl _ _ | assumption⟩
                    apply DQ.step (E' := [(209, _), (203, _)])
                    case ho => rfl
                    case hs => exact ⟨rfl, rfl, trivial⟩
                    case hk => rfl
                    case h1 =>
                      intro wq_45 kq_45
                      have zs_kq_45 := kq_45.size
                      replace h := h.pure kq_45
                      replace hp := hp.pure kq_45
                      replace hw := hw.pure kq_45
                      replace hX := hX.pure kq_45
                      replace hB := hB.pure kq_45
                      replace hI := hI.pure kq_45
                      replace hdd := hdd.pure kq_45
                      replace hrr := hrr.pure kq_45
                      refine WL.want rfl rfl rfl (?_)
                      refine WL.indexC (e := esr) hI.ld.outer.rsl Try.underlying57 Try.sizeOf61 (by show some (Value.slice _ s.dn _) = some (Value.slice _ ls.length _); rw [hlen]) rfl ⟨hr0, rfl⟩ rfl ?_
                      refine WL.nil ?_
                      exact WX.one ⟨rfl, by first | exact Chg.refl _ _ | assumption⟩
                    apply DQ.step (E' := [(210, _), (203, _)])
                    case ho => rfl
                    case hs => exact ⟨rfl, rfl, trivial⟩
                    case hk => rfl
                    case h1 =>
                      intro wq_46 kq_46
                      have zs_kq_46 := kq_46.size
                      replace h := h.pure kq_46
                      replace hp := hp.pure kq_46
                      replace hw := hw.pure kq_46
                      replace hX := hX.pure kq_46
                      replace hB := hB.pure kq_46
                      replace hI := hI.pure kq_46
                      replace hdd := hdd.pure kq_46
                      replace hrr := hrr.pure kq_46
                      refine WL.want rfl rfl rfl (?_)
                      refine WL.load Try.isAgg61 rfl ((hI.ld.outer.rsl.cellsAt hr0) 0 _ rfl) rfl ?_
                      refine WL.nil ?_
                      exact WX.one ⟨rfl, by first | exact Chg.refl _ _ | assumption⟩
                    apply DQ.step (E' := [(211, _), (203, _)])
                    case ho => rfl
                    case hs => exact ⟨rfl, rfl, trivial⟩
                    case hk => rfl
                    case h1 =>
                      intro wq_47 kq_47
                      have zs_kq_47 := kq_47.size
                      replace h := h.pure kq_47
                      replace hp := hp.pure kq_47
                      replace hw := hw.pure kq_47
                      replace hX := hX.pure kq_47
                      replace hB := hB.pure kq_47
                      replace hI := hI.pure kq_47
                      replace hdd := hdd.pure kq_47
                      replace hrr := hrr.pure kq_47
                      refine WL.want rfl rfl rfl (WL.len Try.underlying61 rfl rfl (?_))
                      refine WL.nil ?_
                      exact WX.one ⟨rfl, by first | exact Chg.refl _ _ | assumption⟩
                    apply DQ.step (E' := [(205, _), (212, _), (203, _)])
                    case ho => rfl
                    case hs => exact ⟨rfl, rfl, rfl, trivial⟩
                    case hk => rfl
                    case h1 =>
                      intro wq_48 kq_48
                      refine WL.want rfl rfl rfl (?_)
                      refine WL.eqlT rfl rfl rfl (by show (s.sn : Int) = (r0.xs.length : Int); rw [hr0l]) ?_
                      refine WL.nil ?_
                      exact WX.one ⟨rfl, by first | exact Chg.refl _ _ | assumption⟩
                    apply DQ.step (E' := [(203, _), (213, _)])
                    case ho => rfl
                    case hs => exact ⟨rfl, rfl, trivial⟩
                    case hk => rfl
                    case h1 =>
                      intro wq_49 kq_49
                      refine WL.pickT rfl rfl rfl (?_)
                      refine WL.nil ?_
                      exact WX.one ⟨rfl, by first | exact Chg.refl _ _ | assumption⟩
                    apply DQ.step (E' := [(214, _)])
                    case ho => rfl
                    case hs => exact ⟨rfl, trivial⟩
                    case hk => rfl
                    case h1 =>
                      intro wq_50 kq_50
                      refine WL.move rfl rfl (?_)
                      refine WL.nil ?_
                      exact WX.one ⟨rfl, by first | exact Chg.refl _ _ | assumption⟩
                    apply DQ.step (E' := [(0, _), (215, _)])
                    case ho => rfl
                    case hs => exact ⟨rfl, rfl, trivial⟩
                    case hk => rfl
                    case h1 =>
                      intro wq_51 kq_51
                      refine WL.want rfl rfl rfl (WL.move rfl rfl (?_))
                      refine WL.nil ?_
                      exact WX.one ⟨rfl, by first | exact Chg.refl _ _ | assumption⟩
                    apply DQ.step (E' := [(5, _), (215, _)])
                    case ho => rfl
                    case hs => exact ⟨rfl, rfl, trivial⟩
                    case hk => rfl
                    case h1 =>
                      intro wq_52 kq_52
                      refine WL.want rfl rfl rfl (WL.fieldAddr (fld_39_1) rfl rfl (?_))
                      refine WL.nil ?_
                      exact WX.one ⟨rfl, by first | exact Chg.refl _ _ | assumption⟩
                    apply DQ.step (E' := [(217, _), (215, _)])
                    case ho => rfl
                    case hs => exact ⟨rfl, rfl, trivial⟩
                    case hk => rfl
                    case h1 =>
                      intro wq_53 kq_53
                      have zs_kq_53 := kq_53.size
                      replace h := h.pure kq_53
                      replace hp := hp.pure kq_53
                      replace hw := hw.pure kq_53
                      replace hX := hX.pure kq_53
                      replace hB := hB.pure kq_53
                      replace hI := hI.pure kq_53
                      replace hdd := hdd.pure kq_53
                      replace hrr := hrr.pure kq_53
                      refine WL.want rfl rfl rfl (WL.loadB Try.isAgg3 hX rfl rfl rfl (?_))
                      refine WL.nil ?_
                      exact WX.one ⟨rfl, by first | exact Chg.refl _ _ | assumption⟩
                    apply DQ.step (E' := [(216, _), (218, _), (215, _)])
                    case ho => rfl
                    case hs => exact ⟨rfl, rfl, rfl, trivial⟩
                    case hk => rfl
                    case h1 =>
                      intro wq_54 kq_54
                      have zs_kq_54 := kq_54.size
                      replace h := h.pure kq_54
                      replace hp := hp.pure kq_54
                      replace hw := hw.pure kq_54
                      replace hX := hX.pure kq_54
                      replace hB := hB.pure kq_54
                      replace hI := hI.pure kq_54
                      replace hdd := hdd.pure kq_54
                      replace hrr := hrr.pure kq_54
                      refine WL.want rfl rfl rfl (?_)
                      refine WL.call eg_8 rfl rfl (Gone_calls hrr od) ?_
                      rintro v w3 ⟨rfl, k3⟩
                      have zs_k3 := k3.size
                      replace h := h.pure k3
                      replace hp := hp.pure k3
                      replace hw := hw.pure k3
                      replace hX := hX.pure k3
                      replace hB := hB.pure k3
                      replace hI := hI.pure k3
                      replace hdd := hdd.pure k3
                      replace hrr := hrr.pure k3
                      refine WL.nil ?_
                      exact WX.one ⟨rfl, by first | exact Chg.refl _ _ | assumption⟩
                    apply DQ.step (E' := [(18, _), (215, _)])
                    case ho => rfl
                    case hs => exact ⟨rfl, rfl, trivial⟩
                    case hk => rfl
                    case h1 =>
                      intro wq_55 kq_55
                      refine WL.want rfl rfl rfl (WL.move rfl rfl (?_))
                      refine WL.nil ?_
                      exact WX.one ⟨rfl, by first | exact Chg.refl _ _ | assumption⟩
                    apply DQ.step (E' := [(219, _), (220, _), (215, _)])
                    case ho => rfl
                    case hs => exact ⟨rfl, rfl, rfl, trivial⟩
                    case hk => rfl
                    case h1 =>
                      intro wq_56 kq_56
                      refine WL.want rfl rfl rfl (?_)
                      refine WL.beqlT Try.underlying4 rfl rfl (by first | (rw [decide_eq_true h174]; rfl) | (rw [decide_eq_false h174]; rfl)) rfl ?_
                      refine WL.nil ?_
                      exact WX.one ⟨rfl, by first | exact Chg.refl _ _ | assumption⟩
                    apply DQ.step (E' := [(215, _), (221, _)])
                    case ho => rfl
                    case hs => exact ⟨rfl, rfl, trivial⟩
                    case hk => rfl
                    case h1 =>
                      intro wq_57 kq_57
                      refine WL.pickT rfl rfl rfl (?_)
                      refine WL.nil ?_
                      exact WX.one ⟨rfl, by first | exact Chg.refl _ _ | assumption⟩
                    apply DQ.step (E' := [(222, _)])
                    case ho => rfl
                    case hs => exact ⟨rfl, trivial⟩
                    case hk => rfl
                    case h1 =>
                      intro wq_58 kq_58
                      refine WL.assign rfl rfl (?_)
                      refine WL.nil ?_
                      exact WX.one ⟨rfl, by first | exact Chg.refl _ _ | assumption⟩
                    refine DQ.done (fun _ => ?_)
                    refine DL.done (fun we_59 ke_59 => ?_)
                    have zs_ke_59 := ke_59.size
                    replace h := h.pure ke_59
                    replace hp := hp.pure ke_59
                    replace hw := hw.pure ke_59
                    replace hX := hX.pure ke_59
                    replace hB := hB.pure ke_59
                    replace hI := hI.pure ke_59
                    replace hdd := hdd.pure ke_59
                    replace hrr := hrr.pure ke_59
                    refine WX.then_normal (WC.ret (?_))
                    refine WX.ret1 (.inl rfl) Try.results12 rfl ?_
                    have hsl := Nat.le_succ s.waits.length
                    first
                      | exact ⟨_, rfl, rfl, St.of h (Chg.refl _ _) hsl rfl rfl, hw⟩
                      | exact ⟨_, rfl, by simp, St.of hf (Chg.refl _ _) (writeS_len s od oa Bx).1 (writeS_len s od oa Bx).2.1 (writeS_len s od oa Bx).2.2, hw⟩
                      | exact ⟨_, rfl, by simp, St.of hf (Chg.refl _ _) (flushS_len s).1 (flushS_len s).2.1 (flushS_len s).2.2, hw⟩
                      | exact ⟨_, rfl, rfl, St.of hf (Chg.refl _ _) hsl rfl rfl, hw⟩
                      | exact ⟨_, rfl, rfl, St.of hf (Chg.refl _ _) (Nat.zero_le _) rfl rfl, hw⟩
                      | exact ⟨_, rfl, by simp, St.of hf (Chg.refl _ _) (loseI_len s od).1 (loseI_len s od).2.1 (loseI_len s od).2.2, hw⟩
                      | exact ⟨_, rfl, by simp, St.of hf (Chg.refl _ _) (replaceI_len s od).1 (replaceI_len s od).2.1 (replaceI_len s od).2.2, hw⟩
                      | exact ⟨_, rfl, by simp, St.of hf (Chg.refl _ _) (rotI_len s od oa on).1 (rotI_len s od oa on).2.1 (rotI_len s od oa on).2.2, hw⟩
end Go.Proofs.Ytcdbkfaebgficaa
