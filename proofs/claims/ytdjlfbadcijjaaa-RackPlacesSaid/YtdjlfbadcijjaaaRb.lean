import Derived.Test.YtdjlfbadcijjaaaRa
namespace Go.Proofs.Ytdjlfbadcijjaaa
open Go.RowKit Go.HL

/-! the last write that waits for a sector -/
theorem newest_calls {S : Nat → Prop} {w : World} {R : Nat} {s : RA} {m : Nat} {ga : Option Addr} {gc : Nat} {wa : Option Addr} {wc : Nat} {ws : List (Pl × Rw)} (hB : Blk w R 66 (rcells s m ga gc wa wc ws.length)) (hW : Row S w 72 ewr wa wc ws) (p : Pl) :
    Calls Try.prog 34 [ptr R, kpl p].toArray w (Ret fun v w' => (∃ ao : Option Addr, v = .pointer ao ∧ ((ao = none ∧ ∀ x ∈ ws, x.1 ≠ p) ∨ (∃ j x g, ws[j]? = some x ∧ x.1 = p ∧ (∀ k y, j < k → ws[k]? = some y → y.1 ≠ p) ∧ wa = some ⟨g, 0, none⟩ ∧ ao = some ⟨g, 0 + j * 3, none⟩))) ∧ Chg Nob w w') := by
  replace hW := hW.lt
  have hw := Chg.refl Nob w
  have hcap := hW.own.cap
  have hws : ws.length ≤ 9223372036854775807 := by
    rcases hW.own.2.2 with ⟨_, h⟩ | ⟨_, _, _, _, _, _, h, _⟩
    · omega
    · simp only [maxLen] at h; omega
  obtain ⟨pd, pa⟩ := p
  refine Calls.of_WC Try.func34 rfl Try.ntmps34 (by simp) ?_
  refine WC.seq (WC.region (?_))
  refine WL.box rfl rfl ?_
  intro g1 w1 hge1 hlt1 hP k1
  replace hP : Blk w1 g1 69 [vi pd, vi pa] := hP
  have zs_k1 := k1.size
  replace hB := hB.pure k1
  replace hW := hW.pure k1
  replace hw := hw.pure k1
  refine WL.assign rfl rfl (WL.nil (WX.then_normal (WC.seq (WC.seq (WC.region (WL.move rfl rfl (WL.nilCheck rfl rfl (?_))))))))
  refine WL.fieldAddr (fld_66_4) rfl rfl (WL.loadB Try.isAgg64 hB rfl rfl rfl (WL.len Try.underlying64 rfl rfl (?_)))
  refine WL.sub64 rfl rfl (by constructor <;> omega) rfl ?_
  refine WL.assign rfl rfl (WL.nil (WX.then_normal (WC.block (?_))))
  refine WC.loop (σ := Nat) (fun i => [(0, ptr R), (3, ptr g1), (4, .pointer none), (5, vi ((i : Int) - 1))]) (fun i w' => i ≤ ws.length ∧ (∀ k x, i ≤ k → ws[k]? = some x → x.1 ≠ (pd, pa)) ∧ Blk w' R 66 (rcells s m ga gc wa wc ws.length) ∧ Row (fun b => S b ∧ b < w.heap.size) w' 72 ewr wa wc ws ∧ Blk w' g1 69 [vi pd, vi pa] ∧ Chg Nob w w') (fun i => i) ws.length ⟨rfl, rfl, rfl, rfl, trivial⟩ ⟨Nat.le_refl _, fun k x hk hx => by have := (List.getElem?_eq_some_iff.1 hx).1; omega, hB, hW, hP, hw⟩ ?_
  clear hB hW hP hw
  rintro i w1 ⟨hi, hno, hB, hW, hP, hw⟩
  refine WC.seq (WC.seq (WC.region (WL.move rfl rfl (?_))))
  refine WL.geq? rfl rfl rfl (fun h13 => ?_) (fun h13 => ?_)
  ·
    refine WL.nil (WX.then_normal (WC.cond_true rfl (WC.skip (WX.then_normal (WC.seq (WC.block (WC.seq (?_))))))))
    obtain ⟨j, rfl⟩ : ∃ j, i = j + 1 := ⟨i - 1, by omega⟩
    have hx : ws[j]? = some ws[j] := List.getElem?_eq_getElem (by omega)
    obtain ⟨x, ex⟩ : ∃ x, x = ws[j] := ⟨_, rfl⟩
    rw [← ex] at hx
    obtain ⟨g, rfl⟩ := hW.place0 (j := j) (by omega)
    refine WC.draw (Nob) [0, 1, 2, 3, 4, 5, 6, 7, 8, 9] [] mixed rfl rfl (fun wd_1 kd_1 zd_1 => ?_)
    have zs_kd_1 := kd_1.size
    replace hB := hB.pure kd_1
    replace hW := hW.pure kd_1
    replace hw := hw.pure kd_1
    replace hP := hP.pure kd_1
    apply DQ.step (E' := [(0, _)])
    case ho => rfl
    case hs => exact ⟨rfl, trivial⟩
    case hk => rfl
    case h1 =>
      intro wq_2 kq_2
      refine WL.move rfl rfl (?_)
      refine WL.nil ?_
      exact WX.one ⟨rfl, by first | exact Chg.refl _ _ | assumption⟩
    apply DQ.step (E' := [(16, _)])
    case ho => rfl
    case hs => exact ⟨rfl, trivial⟩
    case hk => rfl
    case h1 =>
      intro wq_3 kq_3
      refine WL.nilCheck rfl rfl (?_)
      refine WL.nil ?_
      exact WX.one ⟨rfl, by first | exact Chg.refl _ _ | assumption⟩
    apply DQ.step (E' := [(17, _)])
    case ho => rfl
    case hs => exact ⟨rfl, trivial⟩
    case hk => rfl
    case h1 =>
      intro wq_4 kq_4
      refine WL.fieldAddr (fld_66_4) rfl rfl (?_)
      refine WL.nil ?_
      exact WX.one ⟨rfl, by first | exact Chg.refl _ _ | assumption⟩
    apply DQ.step (E' := [(18, _)])
    case ho => rfl
    case hs => exact ⟨rfl, trivial⟩
    case hk => rfl
    case h1 =>
      intro wq_5 kq_5
      have zs_kq_5 := kq_5.size
      replace hB := hB.pure kq_5
      replace hW := hW.pure kq_5
      replace hw := hw.pure kq_5
      replace hP := hP.pure kq_5
      refine WL.loadB Try.isAgg64 hB rfl rfl rfl (?_)
      refine WL.nil ?_
      exact WX.one ⟨rfl, by first | exact Chg.refl _ _ | assumption⟩
    apply DQ.step (E' := [(5, _)])
    case ho => rfl
    case hs => exact ⟨rfl, trivial⟩
    case hk => rfl
    case h1 =>
      intro wq_6 kq_6
      refine WL.move rfl rfl (?_)
      refine WL.nil ?_
      exact WX.one ⟨rfl, by first | exact Chg.refl _ _ | assumption⟩
    apply DQ.step (E' := [(19, _), (20, _)])
    case ho => rfl
    case hs => exact ⟨rfl, rfl, trivial⟩
    case hk => rfl
    case h1 =>
      intro wq_7 kq_7
      have zs_kq_7 := kq_7.size
      replace hB := hB.pure kq_7
      replace hW := hW.pure kq_7
      replace hw := hw.pure kq_7
      replace hP := hP.pure kq_7
      refine WL.indexC hW.rsl Try.underlying64 Try.sizeOf72 rfl rfl ⟨hx, (by omega)⟩ rfl ?_
      refine WL.nil ?_
      exact WX.one ⟨rfl, by first | exact Chg.refl _ _ | assumption⟩
    apply DQ.step (E' := [(21, _)])
    case ho => rfl
    case hs => exact ⟨rfl, trivial⟩
    case hk => rfl
    case h1 =>
      intro wq_8 kq_8
      refine WL.fieldAddr (fld_72_0) rfl rfl (?_)
      refine WL.nil ?_
      exact WX.one ⟨rfl, by first | exact Chg.refl _ _ | assumption⟩
    apply DQ.step (E' := [(22, _)])
    case ho => rfl
    case hs => exact ⟨rfl, trivial⟩
    case hk => rfl
    case h1 =>
      intro wq_9 kq_9
      have zs_kq_9 := kq_9.size
      replace hB := hB.pure kq_9
      replace hW := hW.pure kq_9
      replace hw := hw.pure kq_9
      replace hP := hP.pure kq_9
      refine WL.loads [vi x.1.1, vi x.1.2] Try.isAgg69 Try.sizeOf69 rfl (fun q v hv => ?_) rfl rfl ?_
      ·
        have h1 := hW.rsl.cellsAt hx q v
        refine h1 ?_
        obtain ⟨⟨x1, x2⟩, x3⟩ := x
        match q, hv with
        | 0, hv => exact hv
        | 1, hv => exact hv
      refine WL.nil ?_
      exact WX.one ⟨rfl, by first | exact Chg.refl _ _ | assumption⟩
    apply DQ.step (E' := [(3, _)])
    case ho => rfl
    case hs => exact ⟨rfl, trivial⟩
    case hk => rfl
    case h1 =>
      intro wq_10 kq_10
      have zs_kq_10 := kq_10.size
      replace hB := hB.pure kq_10
      replace hW := hW.pure kq_10
      replace hw := hw.pure kq_10
      replace hP := hP.pure kq_10
      refine WL.loadsB Try.isAgg69 Try.sizeOf69 hP rfl (by first | (simp; done) | (simp; omega) | rfl) rfl (?_)
      refine WL.nil ?_
      exact WX.one ⟨rfl, by first | exact Chg.refl _ _ | assumption⟩
    apply DQ.split (E' := [(23, _), (24, _)])
    case ho => rfl
    case hs => exact ⟨rfl, rfl, trivial⟩
    case hk => rfl
    case h1 =>
      intro wq_11 kq_11
      refine WL.aeql eqg_pl (eq_pl _ _ _ _) rfl rfl rfl ?_
      refine WL.nil ?_
      exact WX.one ⟨rfl, by first | exact Chg.refl _ _ | assumption⟩
    case ht =>
      intro h25
      replace h25 := of_decide_eq_true h25
      refine DQ.done (fun _ => ?_)
      refine DL.done (fun we_12 ke_12 => ?_)
      have zs_ke_12 := ke_12.size
      replace hB := hB.pure ke_12
      replace hW := hW.pure ke_12
      replace hw := hw.pure ke_12
      replace hP := hP.pure ke_12
      refine WX.then_normal (WC.cond_true rfl (WC.seq (WC.region (WL.move rfl rfl (WL.nilCheck rfl rfl (WL.fieldAddr (fld_66_4) rfl rfl (WL.loadB Try.isAgg64 hB rfl rfl rfl (?_))))))))
      refine WL.move rfl rfl (?_)
      refine WL.indexC hW.rsl Try.underlying64 Try.sizeOf72 rfl rfl ⟨hx, by omega⟩ rfl ?_
      refine WL.assign rfl rfl (WL.nil (WX.then_normal (WC.ret (WX.block_ret (WX.then_ret (WX.then_ret (WX.block_ret (?_))))))))
      refine WX.then_ret (?_)
      refine WX.ret1 (.inl rfl) Try.results34 rfl ?_
      refine ⟨_, rfl, ?_, hw⟩
      first
        | exact ⟨_, rfl, .inr ⟨j, x, g, hx, Prod.ext h25.1 h25.2, fun k y hk hy => hno k y (by omega) hy, rfl, rfl⟩⟩
        | exact ⟨_, rfl, .inl ⟨rfl, fun x hx => by
            obtain ⟨k, hk, rfl⟩ := List.getElem_of_mem hx
            exact hno k _ (by omega) (List.getElem?_eq_getElem hk)⟩⟩
    case hf =>
      intro h25
      replace h25 := of_decide_eq_false h25
      refine DQ.done (fun _ => ?_)
      refine DL.done (fun we_12 ke_12 => ?_)
      have zs_ke_12 := ke_12.size
      replace hB := hB.pure ke_12
      replace hW := hW.pure ke_12
      replace hw := hw.pure ke_12
      replace hP := hP.pure ke_12
      refine WX.then_normal (WC.cond_false rfl (WC.skip (WX.block_normal (WX.then_normal (WC.region (WL.move rfl rfl (WL.sub64 rfl rfl (by first | omega | (constructor <;> omega)) rfl (?_))))))))
      refine WL.assign rfl rfl (WL.nil (?_))
      refine WX.loop_next j ⟨rfl, rfl, rfl, by simp [List.lookup, ev]; try omega, trivial⟩ ⟨by omega, ?_, hB, hW, hP, hw⟩ (by omega)
      intro k y hk hy
      rcases Nat.lt_or_ge j k with h1 | h1
      ·
        exact hno k y (by omega) hy
      ·
        have : k = j := by omega
        subst this
        rw [hx] at hy
        injection hy with hy
        subst hy
        intro e
        rw [e] at h25
        exact h25 ⟨rfl, rfl⟩
  ·
    refine WL.nil (WX.then_normal (WC.cond_false rfl (WC.exit (WX.then_exit (WX.then_exit (WX.block_here (WX.then_normal (?_))))))))
    refine WC.seq (WC.region (WL.assign rfl rfl (WL.nil (WX.then_normal (WC.ret (?_))))))
    refine WX.ret1 (.inl rfl) Try.results34 rfl ?_
    refine ⟨_, rfl, ?_, hw⟩
    first
      | exact ⟨_, rfl, .inr ⟨j, x, g, hx, Prod.ext h25.1 h25.2, fun k y hk hy => hno k y (by omega) hy, rfl, rfl⟩⟩
      | exact ⟨_, rfl, .inl ⟨rfl, fun x hx => by
          obtain ⟨k, hk, rfl⟩ := List.getElem_of_mem hx
          exact hno k _ (by omega) (List.getElem?_eq_getElem hk)⟩⟩
end Go.Proofs.Ytdjlfbadcijjaaa
