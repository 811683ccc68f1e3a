import Derived.Test.YtgmkoieemmglpaaDf
namespace Go.Proofs.Ytgmkoieemmglpaa
open Go.RowKit Go.HL

/-! the document's side -/
theorem rahead_calls {S : Nat → Prop} {w : World} {l : LnV} (h : RSl S w esn l.sao l.scap l.snaps) (hb : l.snaps.length ≤ 5000000000000) (i : Nat) (hi : i ≤ l.snaps.length) : Calls Try.prog 27 [lval l, vi (i : Int)].toArray w (Ret fun v w' => v = vi (l.abs.ahead i) ∧ Chg Nob w w') := by
  have hw := Chg.refl Nob w
  refine Calls.of_WC Try.func27 rfl Try.ntmps27 (by simp) ?_
  refine WC.seq (WC.region (?_))
  refine WL.box rfl rfl ?_
  intro g_1 w_1 hge_1 hlt_1 hb_1 k_1
  have zs_k_1 := k_1.size
  replace h := h.pure k_1
  replace hw := hw.pure k_1
  refine WL.assign rfl rfl (WL.nil (WX.then_normal (WC.seq (WC.seq (WC.region (WL.move rfl rfl (?_)))))))
  refine WL.eql? rfl rfl rfl (fun h6 => ?_) (fun h6 => ?_)
  ·
    refine WL.nil (WX.then_normal (WC.cond_true rfl (WC.seq (WC.region (WL.fieldAddr (fld_25_0) rfl rfl (WL.loadB Try.isAgg3 hb_1 rfl rfl rfl (WL.assign rfl rfl (?_))))))))
    refine WL.nil (WX.then_normal (WC.ret (WX.then_ret (?_))))
    refine WX.ret1 (.inl rfl) Try.results27 rfl ?_
    first
      | (have h0 : i = 0 := by omega
         subst h0
         exact ⟨_, rfl, rfl, hw⟩)
      | (have h0 : i ≠ 0 := by omega
         refine ⟨_, rfl, ?_, hw⟩
         rw [LA.ahead, if_neg h0, show l.abs.snaps = sabs l.snaps from rfl, sabs_at hx]
         rfl)
  ·
    refine WL.nil (WX.then_normal (WC.cond_false rfl (WC.skip (WX.then_normal (WC.seq (WC.region (WL.fieldAddr (fld_25_1) rfl rfl (?_))))))))
    refine WL.loadB Try.isAgg22 hb_1 rfl rfl rfl (WL.move rfl rfl (?_))
    refine WL.sub64 rfl rfl (by constructor <;> omega) rfl ?_
    obtain ⟨x, hx⟩ : ∃ x, l.snaps[i - 1]? = some x := ⟨_, List.getElem?_eq_getElem (by omega)⟩
    refine WL.indexT (e := esn) Try.underlying22 Try.sizeOf72 h rfl rfl ⟨hx, by omega⟩ rfl ?_
    intro bb oo hcc
    refine WL.fieldAddr (fld_72_0) rfl rfl (WL.load Try.isAgg3 rfl (hcc _ _ rfl) rfl (WL.assign rfl rfl (WL.nil (WX.then_normal (WC.ret (?_))))))
    refine WX.ret1 (.inl rfl) Try.results27 rfl ?_
    first
      | (have h0 : i = 0 := by omega
         subst h0
         exact ⟨_, rfl, rfl, hw⟩)
      | (have h0 : i ≠ 0 := by omega
         refine ⟨_, rfl, ?_, hw⟩
         rw [LA.ahead, if_neg h0, show l.abs.snaps = sabs l.snaps from rfl, sabs_at hx]
         rfl)
theorem young_calls {S : Nat → Prop} {w : World} {ao : Option Addr} {c : Nat} {ps : List PtV} (hr : RSl S w ept ao c ps) (hl : ps.length ≤ 9223372036854775807) (t : Int) :
    Calls Try.prog 28 [.slice ao ps.length c, vi t].toArray w (Ret fun v w' => (∃ b : Bool, v = .bool b ∧ (b = true ↔ ∀ p ∈ ps, p.b ≤ t)) ∧ Chg Nob w w') := by
  have hw := Chg.refl Nob w
  refine Calls.of_WC Try.func28 rfl Try.ntmps28 (by simp) ?_
  refine WC.seq (WC.region (WL.assign rfl rfl (WL.nil (WX.then_normal (WC.seq (WC.seq (WC.region (?_))))))))
  refine WL.assign rfl rfl (WL.nil (WX.then_normal (WC.block (?_))))
  refine WC.loop (σ := Nat) (fun i => [(0, .slice ao ps.length c), (1, vi t), (5, vi (i : Int))]) (fun i w' => i ≤ ps.length ∧ RSl S w' ept ao c ps ∧ Chg Nob w w' ∧ ∀ j x, j < i → ps[j]? = some x → x.b ≤ t) (fun i => ps.length - i) 0 ⟨rfl, rfl, rfl, trivial⟩ ⟨Nat.zero_le _, hr, hw, fun j x hj => by omega⟩ ?_
  clear hr hw
  rintro i w1 ⟨hi, hr, hw, hno⟩
  refine WC.seq (WC.seq (WC.region (WL.move rfl rfl (WL.move rfl rfl (WL.len Try.underlying23 rfl rfl (?_))))))
  refine WL.lss? rfl rfl rfl (fun h9 => ?_) (fun h9 => ?_)
  ·
    refine WL.nil (WX.then_normal (WC.cond_true rfl (WC.skip (WX.then_normal (WC.seq (WC.block (WC.seq (?_))))))))
    refine WC.region (WL.move rfl rfl (WL.move rfl rfl (?_)))
    obtain ⟨x, hx⟩ : ∃ x, ps[i]? = some x := ⟨_, List.getElem?_eq_getElem (by omega)⟩
    refine WL.indexT (e := ept) Try.underlying23 Try.sizeOf27 hr rfl rfl ⟨hx, rfl⟩ rfl ?_
    intro bb oo hcc
    refine WL.fieldAddr (fld_27_2) rfl rfl (WL.load Try.isAgg3 rfl (hcc _ _ rfl) rfl (WL.move rfl rfl (?_)))
    refine WL.gtr? rfl rfl rfl (fun h18 => ?_) (fun h18 => ?_)
    ·
      refine WL.nil (WX.then_normal (WC.cond_true rfl (WC.seq (WC.region (WL.assign rfl rfl (WL.nil (WX.then_normal (?_))))))))
      refine WC.ret (WX.block_ret (WX.then_ret (WX.then_ret (WX.block_ret (WX.then_ret (?_))))))
      refine WX.ret1 (.inl rfl) Try.results28 rfl ?_
      first
        | (have hh : t < x.b := h18
           exact ⟨_, rfl, ⟨false, rfl, (fun h => by cases h), (fun h => by have := h x (List.mem_of_getElem? hx); omega)⟩, hw⟩)
        | (refine ⟨_, rfl, ⟨true, rfl, fun _ y hy => ?_, fun _ => rfl⟩, hw⟩
           obtain ⟨k, hk, rfl⟩ := List.getElem_of_mem hy
           exact hno k _ (by omega) (List.getElem?_eq_getElem hk))
    ·
      refine WL.nil (WX.then_normal (WC.cond_false rfl (WC.skip (WX.block_normal (WX.then_normal (WC.region (WL.move rfl rfl (?_))))))))
      refine WL.add64 rfl rfl (by first | omega | (constructor <;> omega)) rfl (WL.assign rfl rfl (WL.nil (?_)))
      refine WX.loop_next (i + 1) ⟨rfl, rfl, rfl, trivial⟩ ⟨by omega, hr, hw, fun j y hj hy => ?_⟩ (by omega)
      rcases Nat.lt_or_ge j i with h1 | h1
      ·
        exact hno j y h1 hy
      ·
        have h2 : j = i := by omega
        subst h2
        rw [hx] at hy
        injection hy with hy
        subst hy
        omega
  ·
    refine WL.nil (WX.then_normal (WC.cond_false rfl (WC.exit (WX.then_exit (WX.then_exit (WX.block_here (WX.then_normal (?_))))))))
    refine WC.seq (WC.region (WL.assign rfl rfl (WL.nil (WX.then_normal (WC.ret (?_))))))
    refine WX.ret1 (.inl rfl) Try.results28 rfl ?_
    first
      | (have hh : t < x.b := h18
         exact ⟨_, rfl, ⟨false, rfl, (fun h => by cases h), (fun h => by have := h x (List.mem_of_getElem? hx); omega)⟩, hw⟩)
      | (refine ⟨_, rfl, ⟨true, rfl, fun _ y hy => ?_, fun _ => rfl⟩, hw⟩
         obtain ⟨k, hk, rfl⟩ := List.getElem_of_mem hy
         exact hno k _ (by omega) (List.getElem?_eq_getElem hk))
theorem eqg_ptr : Try.prog.eqGuardType Try.prog.depth 27 = false := by kernel_rfl
theorem eq_ptr (a b : PtV) (w : World) : (Op.equalIn 10000 27 (.agg (ept.f a).toArray) (.agg (ept.f b).toArray)).run Try.prog w = .ok (decide (a = b)) w := by
  refine eqA_of (d := 9999) Try.underlying27 (by kernel_rfl) ?_
  have h3 : (decide (a.a = b.a) && (decide (a.z = b.z) && (decide (a.b = b.b) && (decide (a.s = b.s) && true)))) = decide (a = b) := by
    have : decide (a = b) = decide (a.a = b.a ∧ a.z = b.z ∧ a.b = b.b ∧ a.s = b.s) := decide_eq_decide.2 (PtV.eq_iff a b).symm
    rw [this]
    simp [Bool.decide_and]
  rw [← h3]
  refine eqf_cons rfl (part1 Try.sizeOf3 Try.isAgg3 rfl) (part1 Try.sizeOf3 Try.isAgg3 rfl) (run_equalIn_int w 9998 _ _ _ _ _ Try.underlying3) ?_
  refine eqf_cons rfl (part1 Try.sizeOf3 Try.isAgg3 rfl) (part1 Try.sizeOf3 Try.isAgg3 rfl) (run_equalIn_int w 9998 _ _ _ _ _ Try.underlying3) ?_
  refine eqf_cons rfl (part1 Try.sizeOf3 Try.isAgg3 rfl) (part1 Try.sizeOf3 Try.isAgg3 rfl) (run_equalIn_int w 9998 _ _ _ _ _ Try.underlying3) ?_
  refine eqf_cons rfl (part1 Try.sizeOf9 Try.isAgg9 rfl) (part1 Try.sizeOf9 Try.isAgg9 rfl) (by rw [← beq_bytes]; exact run_equalIn_string w 9998 _ _ _ Try.underlying9) eqf_nil
theorem same_calls {S1 S2 : Nat → Prop} {w : World} {a1 a2 : Option Addr} {c1 c2 : Nat} {xs ys : List PtV} (h1 : RSl S1 w ept a1 c1 xs) (h2 : RSl S2 w ept a2 c2 ys) (hl : xs.length ≤ 9223372036854775807) :
    Calls Try.prog 20 [.slice a1 xs.length c1, .slice a2 ys.length c2].toArray w (Ret fun v w' => v = .bool (decide (xs = ys)) ∧ Chg Nob w w') := by
  have hw := Chg.refl Nob w
  refine Calls.of_WC Try.func20 rfl Try.ntmps20 (by simp) ?_
  refine WC.seq (WC.region (WL.assign rfl rfl (WL.nil (WX.then_normal (WC.seq (WC.seq (WC.region (?_))))))))
  refine WL.move rfl rfl (WL.len Try.underlying23 rfl rfl (WL.move rfl rfl (WL.len Try.underlying23 rfl rfl (?_))))
  refine WL.neq? rfl rfl rfl (fun h10 => ?_) (fun h10 => ?_)
  ·
    refine WL.nil (WX.then_normal (WC.cond_true rfl (WC.seq (WC.region (WL.assign rfl rfl (WL.nil (WX.then_normal (?_))))))))
    refine WC.ret (WX.then_ret (?_))
    refine WX.ret1 (.inl rfl) Try.results20 rfl ?_
    first
      | (have hh : (xs.length : Int) ≠ ys.length := h10
         refine ⟨_, rfl, ?_, hw⟩
         rw [decide_eq_false (fun e => hh (by rw [e]))])
      | (have hh : x ≠ y := h25
         refine ⟨_, rfl, ?_, hw⟩
         rw [decide_eq_false (fun e => hh (by rw [e, hy] at hx; injection hx with hx; exact hx.symm))])
      | (have hh : (xs.length : Int) = ys.length := h10
         have e : xs = ys := by
           apply List.ext_getElem?
           intro j
           rcases Nat.lt_or_ge j i with h3 | h3
           ·
             exact hno j h3
           ·
             rw [List.getElem?_eq_none (by omega), List.getElem?_eq_none (by omega)]
         exact ⟨_, rfl, by rw [decide_eq_true e], hw⟩)
  ·
    refine WL.nil (WX.then_normal (WC.cond_false rfl (WC.skip (WX.then_normal (WC.seq (WC.seq (WC.region (?_))))))))
    refine WL.assign rfl rfl (WL.nil (WX.then_normal (WC.block (?_))))
    refine WC.loop (σ := Nat) (fun i => [(0, .slice a1 xs.length c1), (1, .slice a2 ys.length c2), (5, vi (i : Int))]) (fun i w' => i ≤ xs.length ∧ RSl S1 w' ept a1 c1 xs ∧ RSl S2 w' ept a2 c2 ys ∧ Chg Nob w w' ∧ ∀ j, j < i → xs[j]? = ys[j]?) (fun i => xs.length - i) 0 ⟨rfl, rfl, rfl, trivial⟩ ⟨Nat.zero_le _, h1, h2, hw, fun j hj => by omega⟩ ?_
    clear h1 h2 hw
    rintro i w1 ⟨hi, h1, h2, hw, hno⟩
    refine WC.seq (WC.seq (WC.region (WL.move rfl rfl (WL.move rfl rfl (WL.len Try.underlying23 rfl rfl (?_))))))
    refine WL.lss? rfl rfl rfl (fun h14 => ?_) (fun h14 => ?_)
    ·
      refine WL.nil (WX.then_normal (WC.cond_true rfl (WC.skip (WX.then_normal (WC.seq (WC.block (WC.seq (?_))))))))
      obtain ⟨x, hx⟩ : ∃ x, xs[i]? = some x := ⟨_, List.getElem?_eq_getElem (by omega)⟩
      obtain ⟨y, hy⟩ : ∃ y, ys[i]? = some y := ⟨_, List.getElem?_eq_getElem (by omega)⟩
      obtain ⟨b1, o1, rfl⟩ := h1.place hx
      obtain ⟨b2, o2, rfl⟩ := h2.place hy
      refine WC.draw (Nob) [0, 1, 2, 3, 4, 5, 6, 7, 8] [] mixed rfl rfl (fun wd_1 kd_1 zd_1 => ?_)
      have zs_kd_1 := kd_1.size
      replace h1 := h1.pure kd_1
      replace h2 := h2.pure kd_1
      replace hw := hw.pure kd_1
      apply DQ.step (E' := [(0, _)])
      case ho => rfl
      case hs => exact ⟨rfl, trivial⟩
      case hk => rfl
      case h1 =>
        intro wq_2 kq_2
        refine WL.move rfl rfl (?_)
        refine WL.nil ?_
        exact WX.one ⟨rfl, by first | exact Chg.refl _ _ | assumption⟩
      apply DQ.step (E' := [(5, _)])
      case ho => rfl
      case hs => exact ⟨rfl, trivial⟩
      case hk => rfl
      case h1 =>
        intro wq_3 kq_3
        refine WL.move rfl rfl (?_)
        refine WL.nil ?_
        exact WX.one ⟨rfl, by first | exact Chg.refl _ _ | assumption⟩
      apply DQ.step (E' := [(17, _), (18, _)])
      case ho => rfl
      case hs => exact ⟨rfl, rfl, trivial⟩
      case hk => rfl
      case h1 =>
        intro wq_4 kq_4
        have zs_kq_4 := kq_4.size
        replace h1 := h1.pure kq_4
        replace h2 := h2.pure kq_4
        replace hw := hw.pure kq_4
        refine WL.indexC h1 Try.underlying23 Try.sizeOf27 rfl rfl ⟨hx, rfl⟩ rfl ?_
        refine WL.nil ?_
        exact WX.one ⟨rfl, by first | exact Chg.refl _ _ | assumption⟩
      apply DQ.step (E' := [(19, _)])
      case ho => rfl
      case hs => exact ⟨rfl, trivial⟩
      case hk => rfl
      case h1 =>
        intro wq_5 kq_5
        have zs_kq_5 := kq_5.size
        replace h1 := h1.pure kq_5
        replace h2 := h2.pure kq_5
        replace hw := hw.pure kq_5
        refine WL.loads _ Try.isAgg27 Try.sizeOf27 rfl (h1.cellsAt hx) rfl rfl (?_)
        refine WL.nil ?_
        exact WX.one ⟨rfl, by first | exact Chg.refl _ _ | assumption⟩
      apply DQ.step (E' := [(1, _)])
      case ho => rfl
      case hs => exact ⟨rfl, trivial⟩
      case hk => rfl
      case h1 =>
        intro wq_6 kq_6
        refine WL.move rfl rfl (?_)
        refine WL.nil ?_
        exact WX.one ⟨rfl, by first | exact Chg.refl _ _ | assumption⟩
      apply DQ.step (E' := [(5, _)])
      case ho => rfl
      case hs => exact ⟨rfl, trivial⟩
      case hk => rfl
      case h1 =>
        intro wq_7 kq_7
        refine WL.move rfl rfl (?_)
        refine WL.nil ?_
        exact WX.one ⟨rfl, by first | exact Chg.refl _ _ | assumption⟩
      apply DQ.step (E' := [(21, _), (22, _)])
      case ho => rfl
      case hs => exact ⟨rfl, rfl, trivial⟩
      case hk => rfl
      case h1 =>
        intro wq_8 kq_8
        have zs_kq_8 := kq_8.size
        replace h1 := h1.pure kq_8
        replace h2 := h2.pure kq_8
        replace hw := hw.pure kq_8
        refine WL.indexC h2 Try.underlying23 Try.sizeOf27 rfl rfl ⟨hy, rfl⟩ rfl ?_
        refine WL.nil ?_
        exact WX.one ⟨rfl, by first | exact Chg.refl _ _ | assumption⟩
      apply DQ.step (E' := [(23, _)])
      case ho => rfl
      case hs => exact ⟨rfl, trivial⟩
      case hk => rfl
      case h1 =>
        intro wq_9 kq_9
        have zs_kq_9 := kq_9.size
        replace h1 := h1.pure kq_9
        replace h2 := h2.pure kq_9
        replace hw := hw.pure kq_9
        refine WL.loads _ Try.isAgg27 Try.sizeOf27 rfl (h2.cellsAt hy) rfl rfl (?_)
        refine WL.nil ?_
        exact WX.one ⟨rfl, by first | exact Chg.refl _ _ | assumption⟩
      apply DQ.split (E' := [(20, _), (24, _)])
      case ho => rfl
      case hs => exact ⟨rfl, rfl, trivial⟩
      case hk => rfl
      case h1 =>
        intro wq_10 kq_10
        refine WL.aneq eqg_ptr (eq_ptr _ _) rfl rfl rfl ?_
        refine WL.nil ?_
        exact WX.one ⟨rfl, by first | exact Chg.refl _ _ | assumption⟩
      case ht =>
        intro h25
        replace h25 := of_decide_eq_true h25
        refine DQ.done (fun _ => ?_)
        refine DL.done (fun we_11 ke_11 => ?_)
        have zs_ke_11 := ke_11.size
        replace h1 := h1.pure ke_11
        replace h2 := h2.pure ke_11
        replace hw := hw.pure ke_11
        refine WX.then_normal (WC.cond_true rfl (WC.seq (WC.region (WL.assign rfl rfl (WL.nil (WX.then_normal (WC.ret (?_))))))))
        refine WX.block_ret (WX.then_ret (WX.then_ret (WX.block_ret (WX.then_ret (?_)))))
        refine WX.ret1 (.inl rfl) Try.results20 rfl ?_
        first
          | (have hh : (xs.length : Int) ≠ ys.length := h10
             refine ⟨_, rfl, ?_, hw⟩
             rw [decide_eq_false (fun e => hh (by rw [e]))])
          | (have hh : x ≠ y := h25
             refine ⟨_, rfl, ?_, hw⟩
             rw [decide_eq_false (fun e => hh (by rw [e, hy] at hx; injection hx with hx; exact hx.symm))])
          | (have hh : (xs.length : Int) = ys.length := h10
             have e : xs = ys := by
               apply List.ext_getElem?
               intro j
               rcases Nat.lt_or_ge j i with h3 | h3
               ·
                 exact hno j h3
               ·
                 rw [List.getElem?_eq_none (by omega), List.getElem?_eq_none (by omega)]
             exact ⟨_, rfl, by rw [decide_eq_true e], hw⟩)
      case hf =>
        intro h25
        replace h25 := of_decide_eq_false h25
        refine DQ.done (fun _ => ?_)
        refine DL.done (fun we_11 ke_11 => ?_)
        have zs_ke_11 := ke_11.size
        replace h1 := h1.pure ke_11
        replace h2 := h2.pure ke_11
        replace hw := hw.pure ke_11
        refine WX.then_normal (WC.cond_false rfl (WC.skip (WX.block_normal (WX.then_normal (WC.region (WL.move rfl rfl (WL.add64 rfl rfl (by first | omega | (constructor <;> omega)) rfl (?_))))))))
        refine WL.assign rfl rfl (WL.nil (?_))
        refine WX.loop_next (i + 1) ⟨rfl, rfl, rfl, trivial⟩ ⟨by omega, h1, h2, hw, fun j hj => ?_⟩ (by omega)
        rcases Nat.lt_or_ge j i with h3 | h3
        ·
          exact hno j h3
        ·
          have h4 : j = i := by omega
          subst h4
          have h5 : x = y := by
            first
              | exact h25
              | exact Decidable.not_not.1 h25
          rw [hx, hy, h5]
    ·
      refine WL.nil (WX.then_normal (WC.cond_false rfl (WC.exit (WX.then_exit (WX.then_exit (WX.block_here (WX.then_normal (?_))))))))
      refine WC.seq (WC.region (WL.assign rfl rfl (WL.nil (WX.then_normal (WC.ret (?_))))))
      refine WX.ret1 (.inl rfl) Try.results20 rfl ?_
      first
        | (have hh : (xs.length : Int) ≠ ys.length := h10
           refine ⟨_, rfl, ?_, hw⟩
           rw [decide_eq_false (fun e => hh (by rw [e]))])
        | (have hh : x ≠ y := h25
           refine ⟨_, rfl, ?_, hw⟩
           rw [decide_eq_false (fun e => hh (by rw [e, hy] at hx; injection hx with hx; exact hx.symm))])
        | (have hh : (xs.length : Int) = ys.length := h10
           have e : xs = ys := by
             apply List.ext_getElem?
             intro j
             rcases Nat.lt_or_ge j i with h3 | h3
             ·
               exact hno j h3
             ·
               rw [List.getElem?_eq_none (by omega), List.getElem?_eq_none (by omega)]
           exact ⟨_, rfl, by rw [decide_eq_true e], hw⟩)
end Go.Proofs.Ytgmkoieemmglpaa
