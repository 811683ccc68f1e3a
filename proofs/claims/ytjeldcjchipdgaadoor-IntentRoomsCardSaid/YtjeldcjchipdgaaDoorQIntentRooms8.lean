import Derived.Test.YtjeldcjchipdgaaDoorQIntentRooms7
namespace Go.Proofs.YtjeldcjchipdgaaDoor
open Go.RowKit Go.HL
set_option maxRecDepth 100000

/-! appending an intent -/
theorem ap_no {s : RA} {l : LgV} {t : ByteArray} (h : apE0 l t ≠ 0) : apE s l t = apE0 l t ∧ apS s l t = s ∧ apL s l t = l := by
  have e : apE s l t = apE0 l t := by rw [apE, if_pos h]
  refine ⟨e, by rw [apS, if_neg h], by rw [apL, e, if_neg h]⟩
theorem ap_stop {s : RA} {l : LgV} {t : ByteArray} {i : Nat} (h0 : apE0 l t = 0) (hi : i ≤ needN t) (h : (apR s l.f l.b l.nx t i).2.2 ≠ 0) : apE s l t = (apR s l.f l.b l.nx t i).2.2 ∧ apS s l t = (apR s l.f l.b l.nx t i).1 ∧ apL s l t = l := by
  have e0 : apR s l.f l.b l.nx t (needN t) = apR s l.f l.b l.nx t i := by
    have := apR_stuck h (needN t - i)
    rw [show i + (needN t - i) = needN t from by omega] at this
    exact this
  have e : apE s l t = (apR s l.f l.b l.nx t i).2.2 := by rw [apE, if_neg (fun x => x h0), e0, if_pos h]
  exact ⟨e, by rw [apS, if_pos h0, e0], by rw [apL, e, if_neg h]⟩
theorem ap_end {s : RA} {l : LgV} {t : ByteArray} (h0 : apE0 l t = 0) (h : (apR s l.f l.b l.nx t (needN t)).2.2 = 0) : apS s l t = (apR s l.f l.b l.nx t (needN t)).1 ∧ ((apR s l.f l.b l.nx t (needN t)).2.1 = 0 → apE s l t = 4 ∧ apL s l t = l) ∧ ((apR s l.f l.b l.nx t (needN t)).2.1 ≠ 0 → apE s l t = 0 ∧ apL s l t = { l with nx := l.nx + needN t }) := by
  refine ⟨by rw [apS, if_pos h0], fun h1 => ?_, fun h1 => ?_⟩
  · have e : apE s l t = 4 := by rw [apE, if_neg (fun x => x h0), if_neg (fun x => x h), if_pos h1]
    exact ⟨e, by rw [apL, e, if_neg (by decide)]⟩
  · have e : apE s l t = 0 := by rw [apE, if_neg (fun x => x h0), if_neg (fun x => x h), if_neg h1]
    exact ⟨e, by rw [apL, if_pos e]⟩
set_option maxHeartbeats 4000000 in
theorem iappend_in {A : Nat → Prop} {w : World} {R L : Nat} {s : RA} {l : LgV} (h : RK A w R s) (hA : ∀ x, A x → x < w.heap.size) (hL : Blk w L 103 (lgC R l)) (hLA : ¬ A L) (hl : l.ok s.sn) (t : ByteArray) (ht : t.size ≤ 140737488351232) (hw9 : s.waits.length ≤ 80000) :
    Calls Tryd.prog 25 [ptr L, .string t].toArray w (Ret fun v w' => v = vi (apE s l t) ∧ RK (fun x => A x ∨ (w.heap.size ≤ x)) w' R (apS s l t) ∧ Blk w' L 103 (lgC R (apL s l t)) ∧ Chg (fun x => A x ∨ x = L) w w') := by
  have hw := Chg.refl A w
  have hdn := h.ok.dn
  have hsn := h.ok.sn
  have lf := hl.f
  have lc := hl.c
  have lb := hl.b
  have lnx := hl.nx
  have lin := hl.in_
  have hLl := hL.lt
  have hn1 := needN_pos t
  have hnt : (needN t : Int) * 56 ≤ t.size + 112 ∧ (t.size : Int) ≤ needN t * 56 ∧ (needN t ≠ 1 → ((needN t : Int) - 1) * 56 < t.size) := by unfold needN; omega
  obtain ⟨n, en⟩ : ∃ n, n = needN t := ⟨_, rfl⟩
  refine Calls.of_WC Tryd.func25 rfl Tryd.ntmps25 (by simp) ?_
  refine WC.seq (WC.region (WL.assign rfl rfl (WL.nil (WX.then_normal (WC.seq (WC.region (WL.move rfl rfl (?_))))))))
  refine WL.call eg_26 rfl rfl (need_calls t _ ht) ?_
  rintro v w1 ⟨rfl, k1⟩
  rw [← en]
  have zs_k1 := k1.size
  replace h := h.pure k1
  replace hL := hL.pure k1
  replace hw := hw.pure k1
  refine WL.assign rfl rfl (WL.nil (WX.then_normal (WC.seq (WC.block (WC.seq (WC.region (WL.move rfl rfl (?_))))))))
  refine WL.ptrNil Tryd.underlying55 rfl rfl rfl ?_
  refine WL.assign rfl rfl (WL.nil (WX.then_normal (WC.cond_false rfl (WC.seq (WC.region (WL.move rfl rfl (WL.move rfl rfl (?_))))))))
  refine WL.nilCheck rfl rfl (WL.fieldAddr (fld_103_2) rfl rfl (WL.loadB Tryd.isAgg3 hL rfl rfl rfl (?_)))
  refine WL.gtr? rfl rfl rfl (fun h22 => ?_) (fun h22 => ?_)
  ·
    refine WL.assign rfl rfl (WL.nil (WX.then_normal (WC.cond_true rfl (WC.seq (WC.region (WL.assign rfl rfl (WL.nil (?_))))))))
    refine WX.then_normal (WC.ret (WX.block_ret (WX.then_ret (?_))))
    refine WX.ret1 (.inl rfl) Tryd.results25 rfl ?_
    first
      | (have hz : l.c < (n : Int) := h22
         obtain ⟨e1, e2, e3⟩ := ap_no (s := s) (l := l) (t := t) (by rw [apE0, if_pos (by omega)]; decide)
         have e4 : apE0 l t = 14 := by rw [apE0, if_pos (by omega)]
         rw [e1, e2, e3, e4]
         exact ⟨_, rfl, rfl, h.mono (fun x hx => .inl hx), hL, hw.mono (fun x _ hx => .inl hx)⟩)
      | (have hz : l.c - l.nx < (n : Int) := h27
         have e4 : apE0 l t = 5 := by rw [apE0, if_neg (by omega), if_pos (by omega)]
         obtain ⟨e1, e2, e3⟩ := ap_no (s := s) (l := l) (t := t) (by rw [e4]; decide)
         rw [e1, e2, e3, e4]
         exact ⟨_, rfl, rfl, h.mono (fun x hx => .inl hx), hL, hw.mono (fun x _ hx => .inl hx)⟩)
      | (have hz : X.2.2 ≠ 0 := h65
         rw [if_pos hz] at e1
         obtain ⟨f1, f2, f3⟩ := ap_stop (s := s) (l := l) (t := t) (i := i + 1) h0 (by omega) (by rw [e1]; exact hz)
         rw [f1, f2, f3, e1]
         exact ⟨_, rfl, rfl, h6.mono (fun x hx => by rcases hx with h7 | h7; exact .inl h7; right; omega), hL, hw.mono (fun x _ hx => .inl hx)⟩)
      | (have hin : i = needN t := by omega
         subst hin
         obtain ⟨f1, f2, f3⟩ := ap_end (s := s) (l := l) (t := t) h0 hi0
         have hmo := h.mono (A' := fun x => A x ∨ w.heap.size ≤ x) (fun x hx => by rcases hx.1 with h7 | h7; exact .inl h7; right; omega)
         by_cases hc : (apR s l.f l.b l.nx t (needN t)).2.1 = 0
         ·
           obtain ⟨f4, f5⟩ := f2 hc
           rw [f1, f4, f5]
           first
             | exact ⟨_, rfl, rfl, hmo, hL, hw.mono (fun x _ hx => .inl hx)⟩
             | (exfalso; omega)
         ·
           obtain ⟨f4, f5⟩ := f3 hc
           rw [f1, f4, f5]
           first
             | exact ⟨_, rfl, rfl, hmo, Blk.eqc (cs' := lgC R { l with nx := l.nx + needN t }) hL (by rw [← en]; rfl), hw2⟩
             | (exfalso; omega))
  ·
    refine WL.assign rfl rfl (WL.nil (WX.then_normal (WC.cond_false rfl (WC.seq (WC.region (WL.move rfl rfl (WL.move rfl rfl (?_))))))))
    refine WL.call eg_30 rfl rfl (lroom_calls hL hl) ?_
    rintro v w1 ⟨rfl, k1⟩
    have zs_k1 := k1.size
    replace h := h.pure k1
    replace hL := hL.pure k1
    replace hw := hw.pure k1
    refine WL.gtr? rfl rfl rfl (fun h27 => ?_) (fun h27 => ?_)
    ·
      refine WL.assign rfl rfl (WL.nil (WX.then_normal (WC.cond_true rfl (WC.seq (WC.region (WL.assign rfl rfl (WL.nil (?_))))))))
      refine WX.then_normal (WC.ret (WX.block_ret (WX.then_ret (?_))))
      refine WX.ret1 (.inl rfl) Tryd.results25 rfl ?_
      first
        | (have hz : l.c < (n : Int) := h22
           obtain ⟨e1, e2, e3⟩ := ap_no (s := s) (l := l) (t := t) (by rw [apE0, if_pos (by omega)]; decide)
           have e4 : apE0 l t = 14 := by rw [apE0, if_pos (by omega)]
           rw [e1, e2, e3, e4]
           exact ⟨_, rfl, rfl, h.mono (fun x hx => .inl hx), hL, hw.mono (fun x _ hx => .inl hx)⟩)
        | (have hz : l.c - l.nx < (n : Int) := h27
           have e4 : apE0 l t = 5 := by rw [apE0, if_neg (by omega), if_pos (by omega)]
           obtain ⟨e1, e2, e3⟩ := ap_no (s := s) (l := l) (t := t) (by rw [e4]; decide)
           rw [e1, e2, e3, e4]
           exact ⟨_, rfl, rfl, h.mono (fun x hx => .inl hx), hL, hw.mono (fun x _ hx => .inl hx)⟩)
        | (have hz : X.2.2 ≠ 0 := h65
           rw [if_pos hz] at e1
           obtain ⟨f1, f2, f3⟩ := ap_stop (s := s) (l := l) (t := t) (i := i + 1) h0 (by omega) (by rw [e1]; exact hz)
           rw [f1, f2, f3, e1]
           exact ⟨_, rfl, rfl, h6.mono (fun x hx => by rcases hx with h7 | h7; exact .inl h7; right; omega), hL, hw.mono (fun x _ hx => .inl hx)⟩)
        | (have hin : i = needN t := by omega
           subst hin
           obtain ⟨f1, f2, f3⟩ := ap_end (s := s) (l := l) (t := t) h0 hi0
           have hmo := h.mono (A' := fun x => A x ∨ w.heap.size ≤ x) (fun x hx => by rcases hx.1 with h7 | h7; exact .inl h7; right; omega)
           by_cases hc : (apR s l.f l.b l.nx t (needN t)).2.1 = 0
           ·
             obtain ⟨f4, f5⟩ := f2 hc
             rw [f1, f4, f5]
             first
               | exact ⟨_, rfl, rfl, hmo, hL, hw.mono (fun x _ hx => .inl hx)⟩
               | (exfalso; omega)
           ·
             obtain ⟨f4, f5⟩ := f3 hc
             rw [f1, f4, f5]
             first
               | exact ⟨_, rfl, rfl, hmo, Blk.eqc (cs' := lgC R { l with nx := l.nx + needN t }) hL (by rw [← en]; rfl), hw2⟩
               | (exfalso; omega))
    ·
      refine WL.assign rfl rfl (WL.nil (WX.then_normal (WC.cond_false rfl (WC.skip (WX.block_normal (WX.then_normal (WC.seq (?_))))))))
      refine WC.region (WL.assign rfl rfl (WL.nil (WX.then_normal (WC.seq (WC.seq (WC.region (WL.move rfl rfl (?_))))))))
      refine WL.move rfl rfl (WL.nil (WX.then_normal (WC.block (?_))))
      have h0 : apE0 l t = 0 := by rw [apE0, if_neg (by omega), if_neg (by omega)]
      have hnc : n ≤ 500 := by omega
      obtain ⟨n0, en0⟩ : ∃ n0, n0 = w1.heap.size := ⟨_, rfl⟩
      refine WC.loop (σ := Nat) (fun i => [(0, ptr L), (1, .string t), (5, vi (n : Int)), (6, vi ((apR s l.f l.b l.nx t i).2.1 : Int)), (28, vi (n : Int)), (29, vi (i : Int))])
        (fun i w' => i ≤ n ∧ (apR s l.f l.b l.nx t i).2.2 = 0 ∧ n0 ≤ w'.heap.size ∧ Blk w' L 103 (lgC R l) ∧ RK (fun x => A x ∨ n0 ≤ x) w' R (apR s l.f l.b l.nx t i).1 ∧ Chg A w w') (fun i => n - i) 0 ⟨rfl, rfl, rfl, rfl, rfl, rfl, trivial⟩
        ⟨Nat.zero_le _, rfl, by omega, hL, h.mono (fun x hx => .inl hx), hw⟩ ?_
      clear h hL hw
      rintro i w3 ⟨hi, hi0, hn3, hL, h, hw⟩
      obtain ⟨d1, d2, d3, d4, d5⟩ := apR_dn s l.f l.b l.nx t i
      have hdi : s.dn * i ≤ 16 * 500 := Nat.mul_le_mul (by omega) (by omega)
      replace h := h.old
      refine WC.seq (WC.region (?_))
      refine WL.lss? rfl rfl rfl (fun h30 => ?_) (fun h30 => ?_)
      ·
        refine WL.nil (WX.then_normal (WC.seq (WC.cond_true rfl (WC.skip (WX.then_normal (WC.seq (WC.block (?_))))))))
        refine WC.seq (WC.region (WL.move rfl rfl (WL.assign rfl rfl (WL.nil (WX.then_normal (WC.seq (?_)))))))
        refine WC.draw (Nob) [0, 1, 2, 3, 4, 5, 6, 7, 8, 9, 10, 11, 12, 13, 14, 15, 16, 17, 18, 19, 20] [21, 22] mixed rfl rfl (fun wd_1 kd_1 zd_1 => ?_)
        have zs_kd_1 := kd_1.size
        replace hL := hL.pure kd_1
        replace h := h.pure kd_1
        replace hw := hw.pure kd_1
        apply DQ.step (E' := [(0, _)])
        case ho => rfl
        case hs => exact ⟨rfl, trivial⟩
        case hk => rfl
        case h1 =>
          intro wq_3 kq_3
          refine WL.move rfl rfl (?_)
          refine WL.nil ?_
          exact WX.one ⟨rfl, by exact Chg.refl _ _⟩
        apply DQ.step (E' := [(32, _)])
        case ho => rfl
        case hs => exact ⟨rfl, trivial⟩
        case hk => rfl
        case h1 =>
          intro wq_4 kq_4
          refine WL.nilCheck rfl rfl (?_)
          refine WL.nil ?_
          exact WX.one ⟨rfl, by exact Chg.refl _ _⟩
        apply DQ.step (E' := [(33, _)])
        case ho => rfl
        case hs => exact ⟨rfl, trivial⟩
        case hk => rfl
        case h1 =>
          intro wq_5 kq_5
          refine WL.fieldAddr (fld_103_3) rfl rfl (?_)
          refine WL.nil ?_
          exact WX.one ⟨rfl, by exact Chg.refl _ _⟩
        apply DQ.step (E' := [(34, _)])
        case ho => rfl
        case hs => exact ⟨rfl, trivial⟩
        case hk => rfl
        case h1 =>
          intro wq_6 kq_6
          have zs_kq_6 := kq_6.size
          replace hL := hL.pure kq_6
          replace h := h.pure kq_6
          replace hw := hw.pure kq_6
          refine WL.loadB Tryd.isAgg3 hL rfl rfl rfl (?_)
          refine WL.nil ?_
          exact WX.one ⟨rfl, by exact Chg.refl _ _⟩
        apply DQ.step (E' := [(0, _)])
        case ho => rfl
        case hs => exact ⟨rfl, trivial⟩
        case hk => rfl
        case h1 =>
          intro wq_7 kq_7
          refine WL.move rfl rfl (?_)
          refine WL.nil ?_
          exact WX.one ⟨rfl, by exact Chg.refl _ _⟩
        apply DQ.step (E' := [(36, _)])
        case ho => rfl
        case hs => exact ⟨rfl, trivial⟩
        case hk => rfl
        case h1 =>
          intro wq_8 kq_8
          refine WL.nilCheck rfl rfl (?_)
          refine WL.nil ?_
          exact WX.one ⟨rfl, by exact Chg.refl _ _⟩
        apply DQ.step (E' := [(37, _)])
        case ho => rfl
        case hs => exact ⟨rfl, trivial⟩
        case hk => rfl
        case h1 =>
          intro wq_9 kq_9
          refine WL.fieldAddr (fld_103_4) rfl rfl (?_)
          refine WL.nil ?_
          exact WX.one ⟨rfl, by exact Chg.refl _ _⟩
        apply DQ.step (E' := [(38, _)])
        case ho => rfl
        case hs => exact ⟨rfl, trivial⟩
        case hk => rfl
        case h1 =>
          intro wq_10 kq_10
          have zs_kq_10 := kq_10.size
          replace hL := hL.pure kq_10
          replace h := h.pure kq_10
          replace hw := hw.pure kq_10
          refine WL.loadB Tryd.isAgg3 hL rfl rfl rfl (?_)
          refine WL.nil ?_
          exact WX.one ⟨rfl, by exact Chg.refl _ _⟩
        apply DQ.step (E' := [(7, _)])
        case ho => rfl
        case hs => exact ⟨rfl, trivial⟩
        case hk => rfl
        case h1 =>
          intro wq_11 kq_11
          refine WL.move rfl rfl (?_)
          refine WL.nil ?_
          exact WX.one ⟨rfl, by exact Chg.refl _ _⟩
        apply DQ.step (E' := [(39, _), (40, _)])
        case ho => rfl
        case hs => exact ⟨rfl, rfl, trivial⟩
        case hk => rfl
        case h1 =>
          intro wq_12 kq_12
          refine WL.add64 rfl rfl (by omega) rfl (?_)
          refine WL.nil ?_
          exact WX.one ⟨rfl, by exact Chg.refl _ _⟩
        apply DQ.step (E' := [(1, _)])
        case ho => rfl
        case hs => exact ⟨rfl, trivial⟩
        case hk => rfl
        case h1 =>
          intro wq_13 kq_13
          refine WL.move rfl rfl (?_)
          refine WL.nil ?_
          exact WX.one ⟨rfl, by exact Chg.refl _ _⟩
        apply DQ.step (E' := [(7, _)])
        case ho => rfl
        case hs => exact ⟨rfl, trivial⟩
        case hk => rfl
        case h1 =>
          intro wq_14 kq_14
          refine WL.move rfl rfl (?_)
          refine WL.nil ?_
          exact WX.one ⟨rfl, by exact Chg.refl _ _⟩
        apply DQ.step (E' := [(43, _)])
        case ho => rfl
        case hs => exact ⟨rfl, trivial⟩
        case hk => rfl
        case h1 =>
          intro wq_15 kq_15
          refine WL.mul64 rfl rfl (by omega) rfl (?_)
          refine WL.nil ?_
          exact WX.one ⟨rfl, by exact Chg.refl _ _⟩
        apply DQ.step (E' := [(7, _)])
        case ho => rfl
        case hs => exact ⟨rfl, trivial⟩
        case hk => rfl
        case h1 =>
          intro wq_16 kq_16
          refine WL.move rfl rfl (?_)
          refine WL.nil ?_
          exact WX.one ⟨rfl, by exact Chg.refl _ _⟩
        apply DQ.step (E' := [(45, _)])
        case ho => rfl
        case hs => exact ⟨rfl, trivial⟩
        case hk => rfl
        case h1 =>
          intro wq_17 kq_17
          refine WL.add64 rfl rfl (by omega) rfl (?_)
          refine WL.nil ?_
          exact WX.one ⟨rfl, by exact Chg.refl _ _⟩
        apply DQ.step (E' := [(46, _)])
        case ho => rfl
        case hs => exact ⟨rfl, trivial⟩
        case hk => rfl
        case h1 =>
          intro wq_18 kq_18
          refine WL.mul64 rfl rfl (by omega) rfl (?_)
          refine WL.nil ?_
          exact WX.one ⟨rfl, by exact Chg.refl _ _⟩
        apply DQ.step (E' := [(1, _)])
        case ho => rfl
        case hs => exact ⟨rfl, trivial⟩
        case hk => rfl
        case h1 =>
          intro wq_19 kq_19
          refine WL.move rfl rfl (?_)
          refine WL.nil ?_
          exact WX.one ⟨rfl, by exact Chg.refl _ _⟩
        apply DQ.step (E' := [(48, _)])
        case ho => rfl
        case hs => exact ⟨rfl, trivial⟩
        case hk => rfl
        case h1 =>
          intro wq_20 kq_20
          have zs_kq_20 := kq_20.size
          replace hL := hL.pure kq_20
          replace h := h.pure kq_20
          replace hw := hw.pure kq_20
          refine WL.lens Tryd.underlying9 rfl rfl (?_)
          refine WL.nil ?_
          exact WX.one ⟨rfl, by exact Chg.refl _ _⟩
        apply DQ.step (E' := [(47, _), (49, _)])
        case ho => rfl
        case hs => exact ⟨rfl, rfl, trivial⟩
        case hk => rfl
        case h1 =>
          intro wq_21 kq_21
          have zs_kq_21 := kq_21.size
          replace hL := hL.pure kq_21
          replace h := h.pure kq_21
          replace hw := hw.pure kq_21
          refine WL.mini rfl rfl rfl ?_
          rw [show (if (t.size : Int) < ((i : Int) + 1) * 56 then (t.size : Int) else ((i : Int) + 1) * 56) = ((min ((i + 1) * 56) t.size : Nat) : Int) from by split <;> omega]
          refine WL.nil ?_
          exact WX.one ⟨rfl, by exact Chg.refl _ _⟩
        apply DQ.step (E' := [(42, _), (44, _), (50, _)])
        case ho => rfl
        case hs => exact ⟨rfl, rfl, rfl, trivial⟩
        case hk => rfl
        case h1 =>
          intro wq_22 kq_22
          have zs_kq_22 := kq_22.size
          replace hL := hL.pure kq_22
          replace h := h.pure kq_22
          replace hw := hw.pure kq_22
          have hi56 : i * 56 ≤ min ((i + 1) * 56) t.size := by have := hnt.2.2; omega
          refine WL.sslice (l := i * 56) (h := min ((i + 1) * 56) t.size) Tryd.underlying9 rfl (.inl rfl) (.inl rfl) (by constructor <;> omega) rfl ?_
          refine WL.nil ?_
          exact WX.one ⟨rfl, by exact Chg.refl _ _⟩
        apply DQ.step (E' := [(35, _), (41, _), (51, _)])
        case ho => rfl
        case hs => exact ⟨rfl, rfl, rfl, trivial⟩
        case hk => rfl
        case h1 =>
          intro wq_23 kq_23
          refine WL.bld rfl (bld_108_0_1_3 _ _ _) rfl (?_)
          refine WL.nil ?_
          exact WX.one ⟨rfl, by exact Chg.refl _ _⟩
        refine DQ.done (fun hd_2 => ?_)
        refine DL.step [] rfl trivial rfl (fun wq_24 kq_24 => ?_)
        have zs_kq_24 := kq_24.size
        replace hL := hL.pure kq_24
        replace h := h.pure kq_24
        replace hw := hw.pure kq_24
        replace hd_2 := hd_2.pure kq_24
        refine WL.alloc Tryd.zeroValue108 rfl ?_
        intro g_25 w_25 hge_25 hlt_25 hb_25 k_25
        have zs_k_25 := k_25.size
        replace hL := hL.pure k_25
        replace h := h.pure k_25
        replace hw := hw.pure k_25
        replace hd_2 := hd_2.pure k_25
        refine WL.nil ?_
        refine WX.one ⟨hd_2, ?_⟩
        refine DL.step [(8, _), (52, _)] rfl ⟨rfl, rfl, trivial⟩ rfl (fun wq_26 kq_26 => ?_)
        have zs_kq_26 := kq_26.size
        replace hL := hL.pure kq_26
        replace h := h.pure kq_26
        replace hw := hw.pure kq_26
        replace hd_2 := hd_2.pure kq_26
        replace hb_25 := hb_25.pure kq_26
        refine WL.stores Tryd.sizeOf108 hb_25 rfl rfl (by simp; done) (by simp [Value.oneCell']; done) (by simp [Value.cells]; done) rfl ?_
        intro w_27 hs_27 hn_27 k_27
        have zs_k_27 := k_27.size
        replace hL := hL.chg k_27 (by intro h1; have h2 : _ = _ := h1; exfalso; omega)
        replace h := h.chg k_27 (by intro b h1 h2 h3; have h4 : _ = _ := h3; (try dsimp only at h2); exfalso; omega)
        replace hw := hw.chg k_27 (by intro x h1 h2; have h3 : _ = _ := h2; exfalso; omega)
        replace hd_2 := hd_2.chg k_27 (by intro x h1 h2; have h3 : _ = _ := h2; exfalso; omega)
        replace hb_25 := hn_27
        refine WL.nil ?_
        refine WX.one0 (v := undef) ⟨hd_2, ?_⟩
        refine DL.done (fun we_28 ke_28 => ?_)
        have zs_ke_28 := ke_28.size
        replace hL := hL.pure ke_28
        replace h := h.pure ke_28
        replace hw := hw.pure ke_28
        replace hd_2 := hd_2.pure ke_28
        replace hb_25 := hb_25.pure ke_28
        refine WX.then_normal (WC.seq (WC.seq (WC.region (WL.move rfl rfl (WL.move rfl rfl (WL.sub64 rfl rfl (by omega) rfl (?_)))))))
        refine WL.eql? rfl rfl rfl (fun h56 => ?_) (fun h56 => ?_)
        ·
          refine WL.nil (WX.then_normal (WC.cond_true rfl (WC.region (?_))))
          refine WL.fieldAddr fld_108_2 rfl rfl ?_
          refine WL.store Tryd.sizeOf3 hb_25 rfl rfl rfl rfl ?_
          intro w9 z9 hn9 k9
          replace h := h.chg k9 (fun b _ h1 (h2 : b = g_25) => by have := h1.2; omega)
          replace hL := hL.chg k9 (fun (h2 : L = g_25) => by omega)
          replace hw : Chg A w w9 := hw.trans k9 (fun b h1 (h2 : b = g_25) => by exfalso; omega)
          replace hb_25 := hn9
          refine WL.nil (WX.then_normal (WC.seq (WC.region (WL.move rfl rfl (?_)))))
          have hb8 := Blk.eqc (cs' := epc.f (pcA l.b l.nx t i)) hb_25 (by
            show _ = [vi l.b, vi (l.nx + i), vi (if i + 1 = needN t then 1 else 0), .string (t.extract (i * 56) (min ((i + 1) * 56) t.size))]
            by_cases hlast : i + 1 = needN t
            ·
              rw [if_pos hlast]
              first
                | rfl
                | (exfalso; omega)
            ·
              rw [if_neg hlast]
              first
                | rfl
                | (exfalso; omega))
          refine WL.loads (epc.f (pcA l.b l.nx t i)) Tryd.isAgg108 Tryd.sizeOf108 rfl (fun j v hj => by rw [Nat.zero_add]; exact hb8.cell hj) rfl rfl ?_
          have hpr : RtC (pcA l.b l.nx t i) := pcA_right lb (by omega)
          have hnum : (pcA l.b l.nx t i).num = l.nx + i := rfl
          obtain ⟨s1, es1⟩ : ∃ s1, s1 = (apR s l.f l.b l.nx t i).1 := ⟨_, rfl⟩
          rw [← es1] at d1 d2 d3 d4 h
          refine WL.call eg_58 rfl rfl (pwrite_calls h (fun x hx => by omega) hL (fun hx => by rcases hx.1 with h8 | h8; exact hLA h8; omega) (by rw [d2]; exact hl) (pcA l.b l.nx t i) hpr (by rw [hnum]; omega) (by omega)) ?_
          rintro v w6 ⟨rfl, h6, k6⟩
          rw [hnum, d1] at h6 ⊢
          obtain ⟨X, eX⟩ : ∃ X, X = lwR s1 (l.f + (l.nx + i)) (secB (cit (pcA l.b l.nx t i))) s.dn := ⟨_, rfl⟩
          rw [← eX] at h6 ⊢
          have e1 : apR s l.f l.b l.nx t (i + 1) = if X.2.2 ≠ 0 then (X.1, (apR s l.f l.b l.nx t i).2.1, X.2.2) else (X.1, (apR s l.f l.b l.nx t i).2.1 + X.2.1, 0) := by
            rw [apR, if_neg (fun x => x hi0), ← es1, ← eX]
          obtain ⟨N9, eN9, bN9, fN9⟩ : ∃ N9 : Nat, (if X.2.2 = 0 then (X.2.1 : Int) else 0) = (N9 : Int) ∧ N9 ≤ 16 ∧ (X.2.2 = 0 → N9 = X.2.1) := by
            have hX : X.2.1 ≤ s.dn := by rw [eX]; exact (lwR_dn _ _ _ _).2.2.2.2
            by_cases hz : X.2.2 = 0
            ·
              exact ⟨X.2.1, by rw [if_pos hz], by omega, fun _ => rfl⟩
            ·
              exact ⟨0, by rw [if_neg hz]; rfl, by omega, fun h => absurd h hz⟩
          rw [eN9]
          have z6 := k6.size
          replace hL := hL.chg k6 (fun hx => by rcases hx.1 with h8 | h8; exact hLA h8; omega)
          replace hw : Chg A w w6 := hw.trans k6 (fun x h1 h2 => by rcases h2.1 with h4 | h4; exact h4; exfalso; omega)
          replace h6 := h6.mono (A' := fun x => A x ∨ n0 ≤ x) (fun x hx => by rcases hx with h7 | h7; exact h7.1; right; omega)
          refine WL.move rfl rfl (WL.extract rfl rfl rfl (WL.extract rfl rfl rfl (WL.assign rfl rfl (WL.assign rfl rfl (WL.nil (WX.then_normal (WC.seq (?_))))))))
          refine WC.seq (WC.region (WL.move rfl rfl (?_)))
          refine WL.neq? rfl rfl rfl (fun h65 => ?_) (fun h65 => ?_)
          ·
            refine WL.nil (WX.then_normal (WC.cond_true rfl (WC.seq (WC.region (WL.move rfl rfl (WL.assign rfl rfl (WL.nil (?_))))))))
            refine WX.then_normal (WC.ret (WX.then_ret (WX.block_ret (WX.then_ret (WX.then_ret (WX.block_ret (WX.then_ret (?_))))))))
            refine WX.ret1 (.inl rfl) Tryd.results25 rfl ?_
            first
              | (have hz : l.c < (n : Int) := h22
                 obtain ⟨e1, e2, e3⟩ := ap_no (s := s) (l := l) (t := t) (by rw [apE0, if_pos (by omega)]; decide)
                 have e4 : apE0 l t = 14 := by rw [apE0, if_pos (by omega)]
                 rw [e1, e2, e3, e4]
                 exact ⟨_, rfl, rfl, h.mono (fun x hx => .inl hx), hL, hw.mono (fun x _ hx => .inl hx)⟩)
              | (have hz : l.c - l.nx < (n : Int) := h27
                 have e4 : apE0 l t = 5 := by rw [apE0, if_neg (by omega), if_pos (by omega)]
                 obtain ⟨e1, e2, e3⟩ := ap_no (s := s) (l := l) (t := t) (by rw [e4]; decide)
                 rw [e1, e2, e3, e4]
                 exact ⟨_, rfl, rfl, h.mono (fun x hx => .inl hx), hL, hw.mono (fun x _ hx => .inl hx)⟩)
              | (have hz : X.2.2 ≠ 0 := h65
                 rw [if_pos hz] at e1
                 obtain ⟨f1, f2, f3⟩ := ap_stop (s := s) (l := l) (t := t) (i := i + 1) h0 (by omega) (by rw [e1]; exact hz)
                 rw [f1, f2, f3, e1]
                 exact ⟨_, rfl, rfl, h6.mono (fun x hx => by rcases hx with h7 | h7; exact .inl h7; right; omega), hL, hw.mono (fun x _ hx => .inl hx)⟩)
              | (have hin : i = needN t := by omega
                 subst hin
                 obtain ⟨f1, f2, f3⟩ := ap_end (s := s) (l := l) (t := t) h0 hi0
                 have hmo := h.mono (A' := fun x => A x ∨ w.heap.size ≤ x) (fun x hx => by rcases hx.1 with h7 | h7; exact .inl h7; right; omega)
                 by_cases hc : (apR s l.f l.b l.nx t (needN t)).2.1 = 0
                 ·
                   obtain ⟨f4, f5⟩ := f2 hc
                   rw [f1, f4, f5]
                   first
                     | exact ⟨_, rfl, rfl, hmo, hL, hw.mono (fun x _ hx => .inl hx)⟩
                     | (exfalso; omega)
                 ·
                   obtain ⟨f4, f5⟩ := f3 hc
                   rw [f1, f4, f5]
                   first
                     | exact ⟨_, rfl, rfl, hmo, Blk.eqc (cs' := lgC R { l with nx := l.nx + needN t }) hL (by rw [← en]; rfl), hw2⟩
                     | (exfalso; omega))
          ·
            refine WL.nil (WX.then_normal (WC.cond_false rfl (WC.skip (WX.then_normal (WC.region (WL.move rfl rfl (WL.move rfl rfl (?_))))))))
            refine WL.add64 rfl rfl (by omega) rfl (WL.assign rfl rfl (WL.nil (WX.block_normal (WX.then_normal (WC.region (WL.add64 rfl rfl (by omega) rfl (WL.move rfl rfl (?_))))))))
            refine WL.nil (?_)
            have hz : X.2.2 = 0 := h65
            rw [if_neg (fun x => x hz)] at e1
            have f6 : apR s l.f l.b l.nx t (i + 1) = (X.1, (apR s l.f l.b l.nx t i).2.1 + X.2.1, 0) := e1
            refine WX.loop_next (i + 1) ⟨rfl, rfl, rfl, ?_, rfl, rfl, trivial⟩ ⟨by omega, by rw [f6], by omega, hL, by rw [f6]; exact h6, hw⟩ (by show _ - _ < _ - _; omega)
            rw [f6, ← fN9 hz]
            rfl
        ·
          refine WL.nil (WX.then_normal (WC.cond_false rfl (WC.skip (WX.then_normal (WC.seq (WC.region (WL.move rfl rfl (?_))))))))
          have hb8 := Blk.eqc (cs' := epc.f (pcA l.b l.nx t i)) hb_25 (by
            show _ = [vi l.b, vi (l.nx + i), vi (if i + 1 = needN t then 1 else 0), .string (t.extract (i * 56) (min ((i + 1) * 56) t.size))]
            by_cases hlast : i + 1 = needN t
            ·
              rw [if_pos hlast]
              first
                | rfl
                | (exfalso; omega)
            ·
              rw [if_neg hlast]
              first
                | rfl
                | (exfalso; omega))
          refine WL.loads (epc.f (pcA l.b l.nx t i)) Tryd.isAgg108 Tryd.sizeOf108 rfl (fun j v hj => by rw [Nat.zero_add]; exact hb8.cell hj) rfl rfl ?_
          have hpr : RtC (pcA l.b l.nx t i) := pcA_right lb (by omega)
          have hnum : (pcA l.b l.nx t i).num = l.nx + i := rfl
          obtain ⟨s1, es1⟩ : ∃ s1, s1 = (apR s l.f l.b l.nx t i).1 := ⟨_, rfl⟩
          rw [← es1] at d1 d2 d3 d4 h
          refine WL.call eg_58 rfl rfl (pwrite_calls h (fun x hx => by omega) hL (fun hx => by rcases hx.1 with h8 | h8; exact hLA h8; omega) (by rw [d2]; exact hl) (pcA l.b l.nx t i) hpr (by rw [hnum]; omega) (by omega)) ?_
          rintro v w6 ⟨rfl, h6, k6⟩
          rw [hnum, d1] at h6 ⊢
          obtain ⟨X, eX⟩ : ∃ X, X = lwR s1 (l.f + (l.nx + i)) (secB (cit (pcA l.b l.nx t i))) s.dn := ⟨_, rfl⟩
          rw [← eX] at h6 ⊢
          have e1 : apR s l.f l.b l.nx t (i + 1) = if X.2.2 ≠ 0 then (X.1, (apR s l.f l.b l.nx t i).2.1, X.2.2) else (X.1, (apR s l.f l.b l.nx t i).2.1 + X.2.1, 0) := by
            rw [apR, if_neg (fun x => x hi0), ← es1, ← eX]
          obtain ⟨N9, eN9, bN9, fN9⟩ : ∃ N9 : Nat, (if X.2.2 = 0 then (X.2.1 : Int) else 0) = (N9 : Int) ∧ N9 ≤ 16 ∧ (X.2.2 = 0 → N9 = X.2.1) := by
            have hX : X.2.1 ≤ s.dn := by rw [eX]; exact (lwR_dn _ _ _ _).2.2.2.2
            by_cases hz : X.2.2 = 0
            ·
              exact ⟨X.2.1, by rw [if_pos hz], by omega, fun _ => rfl⟩
            ·
              exact ⟨0, by rw [if_neg hz]; rfl, by omega, fun h => absurd h hz⟩
          rw [eN9]
          have z6 := k6.size
          replace hL := hL.chg k6 (fun hx => by rcases hx.1 with h8 | h8; exact hLA h8; omega)
          replace hw : Chg A w w6 := hw.trans k6 (fun x h1 h2 => by rcases h2.1 with h4 | h4; exact h4; exfalso; omega)
          replace h6 := h6.mono (A' := fun x => A x ∨ n0 ≤ x) (fun x hx => by rcases hx with h7 | h7; exact h7.1; right; omega)
          refine WL.move rfl rfl (WL.extract rfl rfl rfl (WL.extract rfl rfl rfl (WL.assign rfl rfl (WL.assign rfl rfl (WL.nil (WX.then_normal (WC.seq (?_))))))))
          refine WC.seq (WC.region (WL.move rfl rfl (?_)))
          refine WL.neq? rfl rfl rfl (fun h65 => ?_) (fun h65 => ?_)
          ·
            refine WL.nil (WX.then_normal (WC.cond_true rfl (WC.seq (WC.region (WL.move rfl rfl (WL.assign rfl rfl (WL.nil (?_))))))))
            refine WX.then_normal (WC.ret (WX.then_ret (WX.block_ret (WX.then_ret (WX.then_ret (WX.block_ret (WX.then_ret (?_))))))))
            refine WX.ret1 (.inl rfl) Tryd.results25 rfl ?_
            first
              | (have hz : l.c < (n : Int) := h22
                 obtain ⟨e1, e2, e3⟩ := ap_no (s := s) (l := l) (t := t) (by rw [apE0, if_pos (by omega)]; decide)
                 have e4 : apE0 l t = 14 := by rw [apE0, if_pos (by omega)]
                 rw [e1, e2, e3, e4]
                 exact ⟨_, rfl, rfl, h.mono (fun x hx => .inl hx), hL, hw.mono (fun x _ hx => .inl hx)⟩)
              | (have hz : l.c - l.nx < (n : Int) := h27
                 have e4 : apE0 l t = 5 := by rw [apE0, if_neg (by omega), if_pos (by omega)]
                 obtain ⟨e1, e2, e3⟩ := ap_no (s := s) (l := l) (t := t) (by rw [e4]; decide)
                 rw [e1, e2, e3, e4]
                 exact ⟨_, rfl, rfl, h.mono (fun x hx => .inl hx), hL, hw.mono (fun x _ hx => .inl hx)⟩)
              | (have hz : X.2.2 ≠ 0 := h65
                 rw [if_pos hz] at e1
                 obtain ⟨f1, f2, f3⟩ := ap_stop (s := s) (l := l) (t := t) (i := i + 1) h0 (by omega) (by rw [e1]; exact hz)
                 rw [f1, f2, f3, e1]
                 exact ⟨_, rfl, rfl, h6.mono (fun x hx => by rcases hx with h7 | h7; exact .inl h7; right; omega), hL, hw.mono (fun x _ hx => .inl hx)⟩)
              | (have hin : i = needN t := by omega
                 subst hin
                 obtain ⟨f1, f2, f3⟩ := ap_end (s := s) (l := l) (t := t) h0 hi0
                 have hmo := h.mono (A' := fun x => A x ∨ w.heap.size ≤ x) (fun x hx => by rcases hx.1 with h7 | h7; exact .inl h7; right; omega)
                 by_cases hc : (apR s l.f l.b l.nx t (needN t)).2.1 = 0
                 ·
                   obtain ⟨f4, f5⟩ := f2 hc
                   rw [f1, f4, f5]
                   first
                     | exact ⟨_, rfl, rfl, hmo, hL, hw.mono (fun x _ hx => .inl hx)⟩
                     | (exfalso; omega)
                 ·
                   obtain ⟨f4, f5⟩ := f3 hc
                   rw [f1, f4, f5]
                   first
                     | exact ⟨_, rfl, rfl, hmo, Blk.eqc (cs' := lgC R { l with nx := l.nx + needN t }) hL (by rw [← en]; rfl), hw2⟩
                     | (exfalso; omega))
          ·
            refine WL.nil (WX.then_normal (WC.cond_false rfl (WC.skip (WX.then_normal (WC.region (WL.move rfl rfl (WL.move rfl rfl (?_))))))))
            refine WL.add64 rfl rfl (by omega) rfl (WL.assign rfl rfl (WL.nil (WX.block_normal (WX.then_normal (WC.region (WL.add64 rfl rfl (by omega) rfl (WL.move rfl rfl (?_))))))))
            refine WL.nil (?_)
            have hz : X.2.2 = 0 := h65
            rw [if_neg (fun x => x hz)] at e1
            have f6 : apR s l.f l.b l.nx t (i + 1) = (X.1, (apR s l.f l.b l.nx t i).2.1 + X.2.1, 0) := e1
            refine WX.loop_next (i + 1) ⟨rfl, rfl, rfl, ?_, rfl, rfl, trivial⟩ ⟨by omega, by rw [f6], by omega, hL, by rw [f6]; exact h6, hw⟩ (by show _ - _ < _ - _; omega)
            rw [f6, ← fN9 hz]
            rfl
      ·
        refine WL.nil (WX.then_normal (WC.seq (WC.cond_false rfl (WC.exit (WX.then_exit (WX.then_exit (WX.block_here (?_))))))))
        refine WX.then_normal (WC.seq (WC.seq (WC.region (WL.move rfl rfl (?_)))))
        refine WL.eql? rfl rfl rfl (fun h72 => ?_) (fun h72 => ?_)
        ·
          refine WL.nil (WX.then_normal (WC.cond_true rfl (WC.seq (WC.region (WL.assign rfl rfl (WL.nil (WX.then_normal (?_))))))))
          refine WC.ret (WX.then_ret (?_))
          refine WX.ret1 (.inl rfl) Tryd.results25 rfl ?_
          first
            | (have hz : l.c < (n : Int) := h22
               obtain ⟨e1, e2, e3⟩ := ap_no (s := s) (l := l) (t := t) (by rw [apE0, if_pos (by omega)]; decide)
               have e4 : apE0 l t = 14 := by rw [apE0, if_pos (by omega)]
               rw [e1, e2, e3, e4]
               exact ⟨_, rfl, rfl, h.mono (fun x hx => .inl hx), hL, hw.mono (fun x _ hx => .inl hx)⟩)
            | (have hz : l.c - l.nx < (n : Int) := h27
               have e4 : apE0 l t = 5 := by rw [apE0, if_neg (by omega), if_pos (by omega)]
               obtain ⟨e1, e2, e3⟩ := ap_no (s := s) (l := l) (t := t) (by rw [e4]; decide)
               rw [e1, e2, e3, e4]
               exact ⟨_, rfl, rfl, h.mono (fun x hx => .inl hx), hL, hw.mono (fun x _ hx => .inl hx)⟩)
            | (have hz : X.2.2 ≠ 0 := h65
               rw [if_pos hz] at e1
               obtain ⟨f1, f2, f3⟩ := ap_stop (s := s) (l := l) (t := t) (i := i + 1) h0 (by omega) (by rw [e1]; exact hz)
               rw [f1, f2, f3, e1]
               exact ⟨_, rfl, rfl, h6.mono (fun x hx => by rcases hx with h7 | h7; exact .inl h7; right; omega), hL, hw.mono (fun x _ hx => .inl hx)⟩)
            | (have hin : i = needN t := by omega
               subst hin
               obtain ⟨f1, f2, f3⟩ := ap_end (s := s) (l := l) (t := t) h0 hi0
               have hmo := h.mono (A' := fun x => A x ∨ w.heap.size ≤ x) (fun x hx => by rcases hx.1 with h7 | h7; exact .inl h7; right; omega)
               by_cases hc : (apR s l.f l.b l.nx t (needN t)).2.1 = 0
               ·
                 obtain ⟨f4, f5⟩ := f2 hc
                 rw [f1, f4, f5]
                 first
                   | exact ⟨_, rfl, rfl, hmo, hL, hw.mono (fun x _ hx => .inl hx)⟩
                   | (exfalso; omega)
               ·
                 obtain ⟨f4, f5⟩ := f3 hc
                 rw [f1, f4, f5]
                 first
                   | exact ⟨_, rfl, rfl, hmo, Blk.eqc (cs' := lgC R { l with nx := l.nx + needN t }) hL (by rw [← en]; rfl), hw2⟩
                   | (exfalso; omega))
        ·
          refine WL.nil (WX.then_normal (WC.cond_false rfl (WC.skip (WX.then_normal (WC.seq (WC.region (WL.move rfl rfl (?_))))))))
          refine WL.nilCheck rfl rfl (WL.fieldAddr (fld_103_4) rfl rfl (WL.loadB Tryd.isAgg3 hL rfl rfl rfl (WL.move rfl rfl (WL.add64 rfl rfl (by omega) rfl (WL.nilCheck rfl rfl (?_))))))
          refine WL.fieldAddr fld_103_4 rfl rfl ?_
          refine WL.store Tryd.sizeOf3 hL rfl rfl rfl rfl ?_
          intro w9 z9 hn9 k9
          replace h := h.chg k9 (fun b _ h1 (h2 : b = L) => by subst h2; rcases h1.1 with h8 | h8; exact hLA h8; omega)
          have hw2 : Chg (fun x => A x ∨ x = L) w w9 := (hw.mono (fun x _ hx => .inl hx)).trans k9 (fun b h1 h2 => .inr h2)
          replace hL := hn9
          refine WL.nil (WX.then_normal (WC.seq (WC.region (WL.assign rfl rfl (WL.nil (WX.then_normal (WC.ret (?_))))))))
          refine WX.ret1 (.inl rfl) Tryd.results25 rfl ?_
          first
            | (have hz : l.c < (n : Int) := h22
               obtain ⟨e1, e2, e3⟩ := ap_no (s := s) (l := l) (t := t) (by rw [apE0, if_pos (by omega)]; decide)
               have e4 : apE0 l t = 14 := by rw [apE0, if_pos (by omega)]
               rw [e1, e2, e3, e4]
               exact ⟨_, rfl, rfl, h.mono (fun x hx => .inl hx), hL, hw.mono (fun x _ hx => .inl hx)⟩)
            | (have hz : l.c - l.nx < (n : Int) := h27
               have e4 : apE0 l t = 5 := by rw [apE0, if_neg (by omega), if_pos (by omega)]
               obtain ⟨e1, e2, e3⟩ := ap_no (s := s) (l := l) (t := t) (by rw [e4]; decide)
               rw [e1, e2, e3, e4]
               exact ⟨_, rfl, rfl, h.mono (fun x hx => .inl hx), hL, hw.mono (fun x _ hx => .inl hx)⟩)
            | (have hz : X.2.2 ≠ 0 := h65
               rw [if_pos hz] at e1
               obtain ⟨f1, f2, f3⟩ := ap_stop (s := s) (l := l) (t := t) (i := i + 1) h0 (by omega) (by rw [e1]; exact hz)
               rw [f1, f2, f3, e1]
               exact ⟨_, rfl, rfl, h6.mono (fun x hx => by rcases hx with h7 | h7; exact .inl h7; right; omega), hL, hw.mono (fun x _ hx => .inl hx)⟩)
            | (have hin : i = needN t := by omega
               subst hin
               obtain ⟨f1, f2, f3⟩ := ap_end (s := s) (l := l) (t := t) h0 hi0
               have hmo := h.mono (A' := fun x => A x ∨ w.heap.size ≤ x) (fun x hx => by rcases hx.1 with h7 | h7; exact .inl h7; right; omega)
               by_cases hc : (apR s l.f l.b l.nx t (needN t)).2.1 = 0
               ·
                 obtain ⟨f4, f5⟩ := f2 hc
                 rw [f1, f4, f5]
                 first
                   | exact ⟨_, rfl, rfl, hmo, hL, hw.mono (fun x _ hx => .inl hx)⟩
                   | (exfalso; omega)
               ·
                 obtain ⟨f4, f5⟩ := f3 hc
                 rw [f1, f4, f5]
                 first
                   | exact ⟨_, rfl, rfl, hmo, Blk.eqc (cs' := lgC R { l with nx := l.nx + needN t }) hL (by rw [← en]; rfl), hw2⟩
                   | (exfalso; omega))
end Go.Proofs.YtjeldcjchipdgaaDoor
namespace Go.HL
open Go.RowKit
end Go.HL
namespace Go.Proofs.YtjeldcjchipdgaaDoor
open Go.RowKit Go.HL
set_option maxRecDepth 100000

theorem cntD_all {s : RA} (h : ∀ d, goneS s d = false) (k : Nat) : cntD s k = k := by
  induction k with
  | zero => rfl
  | succ k ih => rw [cntD, if_neg (by rw [h]; decide), ih]
end Go.Proofs.YtjeldcjchipdgaaDoor
namespace Go.Proofs.YtjeldcjchipdgaaDoor
open Go.RowKit Go.HL
set_option maxRecDepth 100000

/-! plain: pieces on a powered rack -/
theorem lwR_upG {s : RA} (h : Up s) {a : Int} (ha : 0 ≤ a ∧ a < s.sn) {B : List UInt8} (hB : B.length = 128) (k : Nat) (hk : k ≤ s.dn) : lwR s a B k = (addAll s a B k, cntD s k, 0) := by
  induction k with
  | zero => rfl
  | succ k ih =>
    have ih := ih (by omega)
    have hi : inS (addAll s a B k) (k : Nat) a := by
      unfold inS
      rw [(addAll_dn s a B k).1, (addAll_dn s a B k).2.1]
      omega
    rw [lwR, ih]
    simp only [ne_eq, not_true_eq_false, if_false]
    cases hg : goneS s (k : Nat) with
    | false =>
      obtain ⟨e1, e2⟩ := (addAll_up h a B k).write hi (by rw [addAll_gone]; exact hg) hB
      rw [if_pos e1, e2, addAll, cntD, if_neg (by rw [hg]; decide), if_neg (by rw [hg]; decide)]
    | true =>
      have e1 : writeE (addAll s a B k) (k : Nat) a B.length = 3 := by
        unfold writeE
        rw [if_neg (fun x => x.elim (fun y => y hi) (fun y => y hB)), if_pos (by rw [addAll_gone]; exact hg)]
      have e2 : writeS (addAll s a B k) (k : Nat) a B = addAll s a B k := by
        unfold writeS
        rw [e1, if_neg (by decide), if_neg (by decide)]
      rw [e1, if_neg (by decide), if_pos rfl, e2, addAll, cntD, if_pos hg, if_pos hg]
/-- no drive is gone -/
structure Hale (s : RA) : Prop where
  up : Up s
  gone : ∀ d, goneS s d = false
theorem addAll_all {s : RA} (h : Hale s) (a : Int) (B : List UInt8) (k : Nat) : Hale (addAll s a B k) ∧ (addAll s a B k).waits.length = s.waits.length + k := by
  refine ⟨⟨addAll_up h.up _ _ _, fun d => (addAll_gone _ _ _ _ _).trans (h.gone d)⟩, ?_⟩
  induction k with
  | zero => rfl
  | succ k ih =>
    rw [addAll, if_neg (by rw [h.gone]; decide)]
    show ((addAll s a B k).waits ++ [_]).length = _
    rw [List.length_append, ih]
    rfl
theorem apR_up {s : RA} (h : Hale s) (hd : 1 ≤ s.dn) {f b nx : Int} {t : ByteArray} (hb : 0 ≤ b ∧ b ≤ 1125899906842624) (hf : 0 ≤ f) (hx : 0 ≤ nx) (i : Nat) (hi : nx + i ≤ 1000 ∧ f + nx + i ≤ s.sn) :
    ∃ s1, apR s f b nx t i = (s1, s.dn * i, 0) ∧ Hale s1 ∧ s1.dn = s.dn ∧ s1.sn = s.sn ∧ s1.waits.length = s.waits.length + s.dn * i ∧ s1.last = s.last ∧
      (∀ d a : Nat, d < s.dn → heldS s1 ((d : Int), (a : Int)) = if f + nx ≤ a ∧ (a : Int) < f + nx + i then secB (cit (pcA b nx t ((a : Int) - f - nx).toNat)) else heldS s ((d : Int), (a : Int))) := by
  induction i with
  | zero =>
    refine ⟨s, rfl, h, rfl, rfl, rfl, rfl, fun d a _ => ?_⟩
    rw [if_neg (by omega)]
  | succ i ih =>
    obtain ⟨s1, e, h1, d1, n1, w1, l1, g1⟩ := ih (by omega)
    have hpr : RtC (pcA b nx t i) := pcA_right hb (by omega)
    obtain ⟨B, eB⟩ : ∃ B, B = secB (cit (pcA b nx t i)) := ⟨_, rfl⟩
    have hBl : B.length = 128 := by rw [eB]; exact pc_128 hpr
    have hl := lwR_upG h1.up (a := f + (nx + i)) (by omega) hBl s.dn (by omega)
    obtain ⟨a1, a2, a3, a4, a5, a6⟩ := addAll_dn s1 (f + (nx + i)) B s.dn
    obtain ⟨b1, b2⟩ := addAll_all h1 (f + (nx + i)) B s.dn
    refine ⟨addAll s1 (f + (nx + i)) B s.dn, ?_, b1, a1.trans d1, a2.trans n1, ?_, a6.trans l1, fun d a hda => ?_⟩
    · rw [apR, e, ← eB]
      dsimp only
      rw [if_neg (fun x => x rfl), hl]
      dsimp only
      rw [if_neg (fun x => x rfl), cntD_all h1.gone, Nat.mul_succ]
    · rw [b2, w1, Nat.mul_succ]; omega
    · rw [addAll_held]
      by_cases hc : (a : Int) = f + (nx + i)
      · rw [if_pos ⟨d, hda, by rw [hc], h1.gone _⟩, if_pos (by omega), eB]
        congr 3
        omega
      · rw [if_neg (by
          rintro ⟨d', _, h2, _⟩
          exact hc (congrArg Prod.snd h2)), g1 d a hda]
        by_cases hc2 : f + nx ≤ a ∧ (a : Int) < f + nx + i
        · rw [if_pos hc2, if_pos (by omega)]
        · rw [if_neg hc2, if_neg (by omega)]
theorem err_up {s : RA} (h : Hale s) {d : Nat} {a : Int} (hd : d < s.dn) (ha : 0 ≤ a ∧ a < s.sn) : errS s d a = 0 := by
  rw [errS, if_neg (fun x => x ⟨by omega, by omega, ha.1, ha.2⟩), if_neg (by rw [h.gone]; decide), if_neg (by rw [h.up.off]; decide)]
theorem find_hit {s : RA} (h : Hale s) (hd : 1 ≤ s.dn) {f b : Int} {j : Nat} (hj : 0 ≤ f + j ∧ f + j < s.sn) {p : PcV} (hp : RtC p) (hb : p.base = b) (hn : p.num = j) (hh : heldS s (0, f + j) = secB (cit p)) : findE s f b j = 0 ∧ findP s f b j = some p := by
  have h0 : stF s f b j ((0 : Nat) : Int) = (0, some p) := by
    have e0 := err_up h (d := 0) (by omega) hj
    have hh2 : heldS s (((0 : Nat) : Int), f + j) = secB (cit p) := hh
    rw [stF, e0, if_neg (by decide), if_neg (fun x => x rfl), hh2, pc_enc hp]
    exact if_pos ⟨hb, hn⟩
  have := fdR_hit (s := s) (f := f) (b := b) (n := j) (k := 0) rfl h0 (fun x => by cases x.2) (by omega)
  exact ⟨by rw [findE, this], by rw [findP, this]⟩
theorem find_miss {s : RA} (h : Hale s) {f b : Int} {j : Nat} (hj : 0 ≤ f + j ∧ f + j < s.sn) (hh : ∀ d : Nat, d < s.dn → pcD (heldS s ((d : Int), f + j)) = none) : findE s f b j = 0 ∧ findP s f b j = none := by
  have : ∀ k, k ≤ s.dn → fdR s f b j k = (0, none) := by
    intro k
    induction k with
    | zero => intro _; rfl
    | succ k ih =>
      intro hk
      rw [fdR_go (ih (by omega)), stF, err_up h (by omega) hj, if_neg (by decide), if_neg (fun x => x rfl), hh k (by omega)]
  have e := this s.dn (Nat.le_refl _)
  exact ⟨by rw [findE, e], by rw [findP, e]⟩
theorem opA_congr {s s' : RA} {f b : Int} (k : Nat) (h : ∀ j, j < k → findE s' f b (j : Nat) = findE s f b (j : Nat) ∧ findP s' f b (j : Nat) = findP s f b (j : Nat)) : opA s' f b k = opA s f b k := by
  induction k with
  | zero => rfl
  | succ k ih =>
    have ih := ih (fun j hj => h j (by omega))
    obtain ⟨h1, h2⟩ := h k (by omega)
    rw [opA, opA, ih, stA, stA, h1, h2]
/-- a log with what was appended, on a rack where all is well -/
structure LgI (l : LgV) (have_ : List ByteArray) (s : RA) : Prop where
  ok : l.ok s.sn
  hale : Hale s
  dn : 1 ≤ s.dn
  hit : ∀ j : Nat, (j : Int) < l.nx → findE s l.f l.b j = 0 ∧ ∃ p, findP s l.f l.b j = some p ∧ (∀ d : Nat, d < s.dn → heldS s ((d : Int), l.f + j) = secB (cit p)) ∧ RtC p ∧ p.base = l.b ∧ p.num = j
  blank : ∀ (j d : Nat), l.nx ≤ j → (j : Int) < l.c → d < s.dn → heldS s ((d : Int), l.f + j) = zeros
  op : opA s l.f l.b l.nx.toNat = ⟨false, 0, [], have_, l.nx.toNat⟩
theorem LgI.new {s : RA} {l : LgV} (hok : l.ok s.sn) (h : Hale s) (hd : 1 ≤ s.dn) (h0 : l.nx = 0) (hz : ∀ (j d : Nat), (j : Int) < l.c → d < s.dn → heldS s ((d : Int), l.f + j) = zeros) : LgI l [] s :=
  ⟨hok, h, hd, fun j hj => by omega, fun j d _ hj hd => hz j d hj hd, by rw [h0]; rfl⟩
theorem take_ext {t : ByteArray} {a b : Nat} (h : a ≤ b) : t.data.toList.take a ++ (t.extract a (min b t.size)).data.toList = t.data.toList.take b := by
  have hl : t.data.toList.length = t.size := by simp
  have e1 : (t.extract a (min b t.size)).data.toList = (t.data.toList.drop a).take (min b t.size - a) := by simp
  rw [e1]
  apply List.ext_getElem?
  intro j
  rw [List.getElem?_append]
  by_cases hj : j < a
  · by_cases hj2 : j < t.size
    · rw [if_pos (by rw [List.length_take]; omega), List.getElem?_take, List.getElem?_take, if_pos hj, if_pos (by omega)]
    · rw [if_neg (by rw [List.length_take]; omega), List.getElem?_take, List.getElem?_drop, List.getElem?_take, List.getElem?_eq_none (by omega : t.data.toList.length ≤ j)]
      rw [List.getElem?_eq_none (by rw [List.length_take]; omega)]
      split <;> simp
  · by_cases hj2 : a ≤ t.size
    · rw [if_neg (by rw [List.length_take]; omega), List.length_take, List.getElem?_take, List.getElem?_drop, List.getElem?_take, show a + (j - min a t.data.toList.length) = j from by omega]
      by_cases hj3 : j < b
      · rw [if_pos hj3]
        by_cases hj4 : j < t.size
        · rw [if_pos (by omega)]
        · rw [List.getElem?_eq_none (by omega : t.data.toList.length ≤ j)]
          split <;> rfl
      · rw [if_neg (by omega), if_neg hj3]
    · rw [if_neg (by rw [List.length_take]; omega), List.getElem?_take, List.getElem?_drop, List.getElem?_take, List.getElem?_eq_none (by omega), List.getElem?_eq_none (by omega)]
      split <;> split <;> rfl
theorem LgI.append {l : LgV} {hv : List ByteArray} {s : RA} (h : LgI l hv s) (t : ByteArray) (hfit : (needN t : Int) ≤ l.c - l.nx) :
    apE s l t = 0 ∧ apL s l t = { l with nx := l.nx + needN t } ∧ LgI { l with nx := l.nx + needN t } (hv ++ [t]) (apS s l t) ∧ (apS s l t).dn = s.dn ∧ (apS s l t).sn = s.sn ∧ (apS s l t).waits.length = s.waits.length + s.dn * needN t ∧ (apS s l t).last = s.last ∧
      (∀ d a : Nat, d < s.dn → heldS (apS s l t) ((d : Int), (a : Int)) = if l.f + l.nx ≤ a ∧ (a : Int) < l.f + l.nx + needN t then secB (cit (pcA l.b l.nx t ((a : Int) - l.f - l.nx).toNat)) else heldS s ((d : Int), (a : Int))) := by
  have lf := h.ok.f
  have lc := h.ok.c
  have lb := h.ok.b
  have lx := h.ok.nx
  have li := h.ok.in_
  have hd := h.dn
  have hn1 := needN_pos t
  obtain ⟨n, en⟩ : ∃ n, n = needN t := ⟨_, rfl⟩
  have h0 : apE0 l t = 0 := by rw [apE0, if_neg (by omega), if_neg (by omega)]
  obtain ⟨s1, e, h1, d1, n1, w1, l1, g1⟩ := apR_up h.hale hd lb lf lx.1 (t := t) (needN t) (by omega)
  obtain ⟨f1, f2, f3⟩ := ap_end (s := s) (l := l) (t := t) h0 (by rw [e])
  obtain ⟨f4, f5⟩ := f3 (by
    rw [e]
    show s.dn * needN t ≠ 0
    exact Nat.ne_of_gt (Nat.mul_pos (by omega) (by omega)))
  rw [e] at f1
  have f1 : apS s l t = s1 := f1
  rw [← en] at hfit hn1 e w1 g1 f5 ⊢
  rw [f1]
  have hpc : ∀ i : Nat, i < n → RtC (pcA l.b l.nx t i) := fun i hi => pcA_right lb (by omega)
  have gnew : ∀ (i d : Nat), i < n → d < s.dn → heldS s1 ((d : Int), l.f + (l.nx + i)) = secB (cit (pcA l.b l.nx t i)) := fun i d hi hdd => by
    have := g1 d (l.f + l.nx + i).toNat hdd
    rw [show (((l.f + l.nx + i).toNat : Nat) : Int) = l.f + (l.nx + i) from by omega, if_pos (by omega), show (l.f + (l.nx + i) - l.f - l.nx).toNat = i from by omega] at this
    exact this
  have gold : ∀ (j d : Nat), ((j : Int) < l.nx ∨ l.nx + n ≤ j) → d < s.dn → heldS s1 ((d : Int), l.f + j) = heldS s ((d : Int), l.f + j) := fun j d hj hdd => by
    have := g1 d (l.f + j).toNat hdd
    rw [show (((l.f + j).toNat : Nat) : Int) = l.f + j from by omega, if_neg (by omega)] at this
    exact this
  have fnew : ∀ i : Nat, i < n → findE s1 l.f l.b ((l.nx.toNat + i : Nat) : Int) = 0 ∧ findP s1 l.f l.b ((l.nx.toNat + i : Nat) : Int) = some (pcA l.b l.nx t i) := fun i hi =>
    find_hit h1 (by omega) (by omega) (hpc i hi) rfl (by show l.nx + (i : Int) = _; omega) (by
      have := gnew i 0 hi (by omega)
      rw [show l.f + (l.nx + (i : Int)) = l.f + ((l.nx.toNat + i : Nat) : Int) from by omega] at this
      exact this)
  have fold : ∀ j : Nat, (j : Int) < l.nx → findE s1 l.f l.b j = findE s l.f l.b j ∧ findP s1 l.f l.b j = findP s l.f l.b j := fun j hj => by
    obtain ⟨q1, p, q2, q3, q4, q5, q6⟩ := h.hit j hj
    obtain ⟨r1, r2⟩ := find_hit h1 (by omega) (f := l.f) (b := l.b) (j := j) (by omega) q4 q5 q6 (by
      have := gold j 0 (.inl hj) (by omega)
      rw [q3 0 (by omega)] at this
      exact this)
    exact ⟨r1.trans q1.symm, r2.trans q2.symm⟩
  have hstep : ∀ i, i ≤ n → opA s1 l.f l.b (l.nx.toNat + i) = if i = n then ⟨false, 0, [], hv ++ [t], l.nx.toNat + n⟩ else ⟨false, 0, t.data.toList.take (i * 56), hv, l.nx.toNat⟩ := by
    intro i
    induction i with
    | zero =>
      intro _
      rw [if_neg (by omega), Nat.add_zero, opA_congr (s := s) l.nx.toNat (fun j hj => fold j (by omega)), h.op]
      simp
    | succ i ih =>
      intro hi
      have ih := ih (by omega)
      rw [if_neg (by omega)] at ih
      obtain ⟨q1, q2⟩ := fnew i (by omega)
      rw [← Nat.add_assoc, opA, ih]
      dsimp only
      rw [if_neg (by decide), stA, q1, if_neg (fun x => x rfl), q2]
      dsimp only
      have ht : t.data.toList.take (i * 56) ++ (pcA l.b l.nx t i).text.data.toList = t.data.toList.take ((i + 1) * 56) := take_ext (by omega)
      by_cases hlast : i + 1 = n
      · have hl1 : (pcA l.b l.nx t i).last = 1 := if_pos (by rw [← en]; exact hlast)
        rw [if_pos hl1, if_pos hlast, ht]
        have hall : t.data.toList.take ((i + 1) * 56) = t.data.toList := List.take_of_length_le (by
          have : t.data.toList.length = t.size := by simp
          have : t.size ≤ n * 56 := by rw [en]; unfold needN; omega
          rw [hlast]
          omega)
        rw [hall, show l.nx.toNat + i + 1 = l.nx.toNat + n from by omega]
      · have hl0 : (pcA l.b l.nx t i).last = 0 := if_neg (by rw [← en]; exact hlast)
        rw [if_neg (by rw [hl0]; decide), if_neg hlast, ht]
  refine ⟨f4, f5, ⟨⟨lf, lc, lb, by show 0 ≤ l.nx + (n : Int) ∧ l.nx + (n : Int) ≤ l.c; omega, by show l.f + l.c ≤ _; rw [n1]; exact li⟩, h1, by omega, fun j hj => ?_, fun j d hj1 hj2 hdd => ?_, ?_⟩, d1, n1, w1, l1, g1⟩
  · have hj : (j : Int) < l.nx + n := hj
    show findE s1 l.f l.b j = 0 ∧ ∃ p, findP s1 l.f l.b j = some p ∧ (∀ d : Nat, d < s1.dn → heldS s1 ((d : Int), l.f + j) = secB (cit p)) ∧ RtC p ∧ p.base = l.b ∧ p.num = j
    by_cases hjx : (j : Int) < l.nx
    · obtain ⟨r1, r2⟩ := fold j hjx
      obtain ⟨q1, p, q2, q3, q4, q5, q6⟩ := h.hit j hjx
      exact ⟨r1.trans q1, p, r2.trans q2, fun d hdd => by rw [gold j d (.inl hjx) (by omega)]; exact q3 d (by omega), q4, q5, q6⟩
    · obtain ⟨i, hi⟩ : ∃ i : Nat, j = l.nx.toNat + i := ⟨j - l.nx.toNat, by omega⟩
      subst hi
      obtain ⟨q1, q2⟩ := fnew i (by omega)
      refine ⟨q1, _, q2, fun d hdd => ?_, hpc i (by omega), rfl, by show l.nx + (i : Int) = _; omega⟩
      have := gnew i d (by omega) (by omega)
      rw [show l.f + (l.nx + (i : Int)) = l.f + ((l.nx.toNat + i : Nat) : Int) from by omega] at this
      exact this
  · have hj1 : l.nx + (n : Int) ≤ j := hj1
    show heldS s1 ((d : Int), l.f + j) = zeros
    rw [gold j d (.inr hj1) (by omega)]
    exact h.blank j d (by omega) hj2 (by omega)
  · have := hstep n (Nat.le_refl _)
    rw [if_pos rfl] at this
    show opA s1 l.f l.b (l.nx + (n : Int)).toNat = ⟨false, 0, [], hv ++ [t], (l.nx + (n : Int)).toNat⟩
    rw [show (l.nx + (n : Int)).toNat = l.nx.toNat + n from by omega]
    exact this
/-- it is opened as it stands -/
theorem LgI.opens {l : LgV} {hv : List ByteArray} {s : RA} (h : LgI l hv s) : openE s l.f l.c l.b = 0 ∧ openL s l.f l.c l.b = hv ∧ (openN s l.f l.c l.b : Int) = l.nx := by
  have lf := h.ok.f
  have lc := h.ok.c
  have lb := h.ok.b
  have lx := h.ok.nx
  have li := h.ok.in_
  have hO : opOk s l.f l.c l.b := ⟨lf, lc.1, lc.2, by omega, lb.1, lb.2⟩
  by_cases hfull : l.nx = l.c
  · obtain ⟨e1, e2, e3⟩ := open_end hO (k := l.nx.toNat) (by omega) (.inr (by rw [hfull]))
    rw [h.op] at e1 e2 e3
    exact ⟨e1, e3 e1, by rw [e2]; dsimp only; omega⟩
  · obtain ⟨q1, q2⟩ := find_miss h.hale (f := l.f) (b := l.b) (j := l.nx.toNat) (by omega) (fun d hd => by rw [h.blank l.nx.toNat d (by omega) (by omega) hd]; exact pc_zeros)
    obtain ⟨-, b2, -, -⟩ := opA_at (s := s) (f := l.f) (b := l.b) (k := l.nx.toNat) (by rw [h.op]) (by rw [h.op]) q1 q2
    obtain ⟨c1, c2, c3, c4⟩ := b2 rfl rfl
    obtain ⟨e1, e2, e3⟩ := open_end hO (k := l.nx.toNat + 1) (by omega) (.inl c1)
    rw [c2] at e1
    have e3 := e3 e1
    rw [c3, h.op] at e3
    rw [c4, h.op] at e2
    exact ⟨e1, e3, by rw [e2]; dsimp only; omega⟩
end Go.Proofs.YtjeldcjchipdgaaDoor
namespace Go.Proofs.YtjeldcjchipdgaaDoor
open Go.RowKit Go.HL
set_option maxRecDepth 100000

theorem iappend_calls {A : Nat → Prop} {w : World} {R L : Nat} {s : RA} {l : LgV} (h : RK A w R s) (hL : Blk w L 103 (lgC R l)) (hLA : ¬ A L) (hl : l.ok s.sn) (t : ByteArray) (ht : t.size ≤ 140737488351232) (hw9 : s.waits.length ≤ 80000) :
    Calls Tryd.prog 25 [ptr L, .string t].toArray w (Ret fun v w' => v = vi (apE s l t) ∧ RK (fun x => A x ∨ (w.heap.size ≤ x)) w' R (apS s l t) ∧ Blk w' L 103 (lgC R (apL s l t)) ∧ Chg (fun x => A x ∨ x = L) w w') := by
  refine (iappend_in h.old (fun x hx => hx.2) hL (fun x => hLA x.1) hl t ht hw9).mono ?_
  rintro e w' ⟨v, rfl, rfl, hR, hB, k⟩
  exact ⟨_, rfl, rfl, hR.mono (fun x hx => hx.elim (fun h => .inl h.1) .inr), hB, k.mono (fun x _ hx => hx.elim (fun h => .inl h.1) .inr)⟩
/-- the same texts? -/
theorem same13_calls {S1 S2 : Nat → Prop} {w : World} {a1 a2 : Option Addr} {c1 c2 : Nat} {l1 l2 : List ByteArray} (h1 : RSl S1 w es a1 c1 l1) (h2 : RSl S2 w es a2 c2 l2) (z1 : l1.length ≤ 1000000) :
    Calls Tryd.prog 31 [.slice a1 l1.length c1, .slice a2 l2.length c2].toArray w (Ret fun v w' => v = .bool (decide (l1 = l2)) ∧ Chg Nob w w') := by
  have hw := Chg.refl Nob w
  refine Calls.of_WC Tryd.func31 rfl Tryd.ntmps31 (by simp) ?_
  refine WC.seq (WC.region (WL.assign rfl rfl (WL.nil (WX.then_normal (WC.seq (WC.seq (WC.region (?_))))))))
  refine WL.move rfl rfl (WL.len Tryd.underlying56 rfl rfl (WL.move rfl rfl (WL.len Tryd.underlying56 rfl rfl (?_))))
  refine WL.neq? rfl rfl rfl (fun h10 => ?_) (fun h10 => ?_)
  ·
    refine WL.nil (WX.then_normal (WC.cond_true rfl (WC.seq (WC.region (WL.assign rfl rfl (WL.nil (WX.then_normal (?_))))))))
    refine WC.ret (WX.then_ret (?_))
    refine WX.ret1 (.inl rfl) Tryd.results31 rfl ?_
    refine ⟨_, rfl, ?_, hw⟩
    congr 1
    first
      | (symm
         refine decide_eq_false (fun h => ?_)
         subst h
         first
           | (rw [hx] at hy
              injection hy with hy
              exact hxy hy)
           | (exfalso
              have h10 : (l1.length : Int) ≠ l1.length := by assumption
              exact h10 rfl))
      | (symm
         refine decide_eq_true ?_
         rw [List.take_of_length_le (by omega), List.take_of_length_le (by omega)] at hE
         exact hE)
  ·
    refine WL.nil (WX.then_normal (WC.cond_false rfl (WC.skip (WX.then_normal (WC.seq (WC.seq (WC.region (?_))))))))
    refine WL.assign rfl rfl (WL.nil (WX.then_normal (WC.block (?_))))
    refine WC.loop (σ := Nat) (fun k => [(0, .slice a1 l1.length c1), (1, .slice a2 l2.length c2), (5, vi (k : Int))])
      (fun k w' => k ≤ l1.length ∧ l1.take k = l2.take k ∧ RSl S1 w' es a1 c1 l1 ∧ RSl S2 w' es a2 c2 l2 ∧ Chg Nob w w') (fun k => l1.length - k) 0 ⟨rfl, rfl, rfl, trivial⟩ ⟨Nat.zero_le _, rfl, h1, h2, hw⟩ ?_
    clear h1 h2 hw
    rintro k w3 ⟨hk, hE, h1, h2, hw⟩
    refine WC.seq (WC.seq (WC.region (WL.move rfl rfl (WL.move rfl rfl (WL.len Tryd.underlying56 rfl rfl (?_))))))
    refine WL.lss? rfl rfl rfl (fun h14 => ?_) (fun h14 => ?_)
    ·
      refine WL.nil (WX.then_normal (WC.cond_true rfl (WC.skip (WX.then_normal (WC.seq (WC.block (WC.seq (?_))))))))
      obtain ⟨x, hx⟩ : ∃ x, l1[k]? = some x := ⟨_, List.getElem?_eq_getElem (by omega)⟩
      obtain ⟨y, hy⟩ : ∃ y, l2[k]? = some y := ⟨_, List.getElem?_eq_getElem (by omega)⟩
      obtain ⟨b1, o1, rfl⟩ := h1.place hx
      obtain ⟨b2, o2, rfl⟩ := h2.place hy
      by_cases hxy : x = y
      ·
        refine WC.draw (Nob) [0, 1, 2, 3, 4, 5, 6, 7, 8] [] mixed rfl rfl (fun wd_1 kd_1 zd_1 => ?_)
        have zs_kd_1 := kd_1.size
        replace h1 := h1.pure kd_1
        replace h2 := h2.pure kd_1
        replace hw := hw.pure kd_1
        apply DQ.step (E' := [(0, _)])
        case ho => rfl
        case hs => exact ⟨rfl, trivial⟩
        case hk => rfl
        case h1 =>
          intro wq_2 kq_2
          refine WL.move rfl rfl (?_)
          refine WL.nil ?_
          exact WX.one ⟨rfl, by exact Chg.refl _ _⟩
        apply DQ.step (E' := [(5, _)])
        case ho => rfl
        case hs => exact ⟨rfl, trivial⟩
        case hk => rfl
        case h1 =>
          intro wq_3 kq_3
          refine WL.move rfl rfl (?_)
          refine WL.nil ?_
          exact WX.one ⟨rfl, by exact Chg.refl _ _⟩
        apply DQ.step (E' := [(17, _), (18, _)])
        case ho => rfl
        case hs => exact ⟨rfl, rfl, trivial⟩
        case hk => rfl
        case h1 =>
          intro wq_4 kq_4
          have zs_kq_4 := kq_4.size
          replace h1 := h1.pure kq_4
          replace h2 := h2.pure kq_4
          replace hw := hw.pure kq_4
          refine WL.indexC h1 Tryd.underlying56 Tryd.sizeOf9 rfl rfl ⟨hx, rfl⟩ rfl ?_
          refine WL.nil ?_
          exact WX.one ⟨rfl, by exact Chg.refl _ _⟩
        apply DQ.step (E' := [(19, _)])
        case ho => rfl
        case hs => exact ⟨rfl, trivial⟩
        case hk => rfl
        case h1 =>
          intro wq_5 kq_5
          have zs_kq_5 := kq_5.size
          replace h1 := h1.pure kq_5
          replace h2 := h2.pure kq_5
          replace hw := hw.pure kq_5
          refine WL.load Tryd.isAgg9 rfl ((h1.cellsAt hx) 0 _ rfl) rfl (?_)
          refine WL.nil ?_
          exact WX.one ⟨rfl, by exact Chg.refl _ _⟩
        apply DQ.step (E' := [(1, _)])
        case ho => rfl
        case hs => exact ⟨rfl, trivial⟩
        case hk => rfl
        case h1 =>
          intro wq_6 kq_6
          refine WL.move rfl rfl (?_)
          refine WL.nil ?_
          exact WX.one ⟨rfl, by exact Chg.refl _ _⟩
        apply DQ.step (E' := [(5, _)])
        case ho => rfl
        case hs => exact ⟨rfl, trivial⟩
        case hk => rfl
        case h1 =>
          intro wq_7 kq_7
          refine WL.move rfl rfl (?_)
          refine WL.nil ?_
          exact WX.one ⟨rfl, by exact Chg.refl _ _⟩
        apply DQ.step (E' := [(21, _), (22, _)])
        case ho => rfl
        case hs => exact ⟨rfl, rfl, trivial⟩
        case hk => rfl
        case h1 =>
          intro wq_8 kq_8
          have zs_kq_8 := kq_8.size
          replace h1 := h1.pure kq_8
          replace h2 := h2.pure kq_8
          replace hw := hw.pure kq_8
          refine WL.indexC h2 Tryd.underlying56 Tryd.sizeOf9 rfl rfl ⟨hy, rfl⟩ rfl ?_
          refine WL.nil ?_
          exact WX.one ⟨rfl, by exact Chg.refl _ _⟩
        apply DQ.step (E' := [(23, _)])
        case ho => rfl
        case hs => exact ⟨rfl, trivial⟩
        case hk => rfl
        case h1 =>
          intro wq_9 kq_9
          have zs_kq_9 := kq_9.size
          replace h1 := h1.pure kq_9
          replace h2 := h2.pure kq_9
          replace hw := hw.pure kq_9
          refine WL.load Tryd.isAgg9 rfl ((h2.cellsAt hy) 0 _ rfl) rfl (?_)
          refine WL.nil ?_
          exact WX.one ⟨rfl, by exact Chg.refl _ _⟩
        apply DQ.step (E' := [(20, _), (24, _)])
        case ho => rfl
        case hs => exact ⟨rfl, rfl, trivial⟩
        case hk => rfl
        case h1 =>
          intro wq_10 kq_10
          refine WL.sneqF rfl rfl rfl (hxy) ?_
          refine WL.nil ?_
          exact WX.one ⟨rfl, by exact Chg.refl _ _⟩
        refine DQ.done (fun _ => ?_)
        refine DL.done (fun we_11 ke_11 => ?_)
        have zs_ke_11 := ke_11.size
        replace h1 := h1.pure ke_11
        replace h2 := h2.pure ke_11
        replace hw := hw.pure ke_11
        refine WX.then_normal (WC.cond_false rfl (WC.skip (WX.block_normal (WX.then_normal (WC.region (WL.move rfl rfl (WL.add64 rfl rfl (by omega) rfl (?_))))))))
        refine WL.assign rfl rfl (WL.nil (?_))
        refine WX.loop_next (k + 1) ⟨rfl, rfl, rfl, trivial⟩ ⟨by omega, ?_, h1, h2, hw⟩ (by show _ - _ < _ - _; omega)
        rw [List.take_add_one, List.take_add_one, hE, hx, hy, hxy]
      ·
        refine WC.draw (Nob) [0, 1, 2, 3, 4, 5, 6, 7, 8] [] mixed rfl rfl (fun wd_1 kd_1 zd_1 => ?_)
        have zs_kd_1 := kd_1.size
        replace h1 := h1.pure kd_1
        replace h2 := h2.pure kd_1
        replace hw := hw.pure kd_1
        apply DQ.step (E' := [(0, _)])
        case ho => rfl
        case hs => exact ⟨rfl, trivial⟩
        case hk => rfl
        case h1 =>
          intro wq_2 kq_2
          refine WL.move rfl rfl (?_)
          refine WL.nil ?_
          exact WX.one ⟨rfl, by exact Chg.refl _ _⟩
        apply DQ.step (E' := [(5, _)])
        case ho => rfl
        case hs => exact ⟨rfl, trivial⟩
        case hk => rfl
        case h1 =>
          intro wq_3 kq_3
          refine WL.move rfl rfl (?_)
          refine WL.nil ?_
          exact WX.one ⟨rfl, by exact Chg.refl _ _⟩
        apply DQ.step (E' := [(17, _), (18, _)])
        case ho => rfl
        case hs => exact ⟨rfl, rfl, trivial⟩
        case hk => rfl
        case h1 =>
          intro wq_4 kq_4
          have zs_kq_4 := kq_4.size
          replace h1 := h1.pure kq_4
          replace h2 := h2.pure kq_4
          replace hw := hw.pure kq_4
          refine WL.indexC h1 Tryd.underlying56 Tryd.sizeOf9 rfl rfl ⟨hx, rfl⟩ rfl ?_
          refine WL.nil ?_
          exact WX.one ⟨rfl, by exact Chg.refl _ _⟩
        apply DQ.step (E' := [(19, _)])
        case ho => rfl
        case hs => exact ⟨rfl, trivial⟩
        case hk => rfl
        case h1 =>
          intro wq_5 kq_5
          have zs_kq_5 := kq_5.size
          replace h1 := h1.pure kq_5
          replace h2 := h2.pure kq_5
          replace hw := hw.pure kq_5
          refine WL.load Tryd.isAgg9 rfl ((h1.cellsAt hx) 0 _ rfl) rfl (?_)
          refine WL.nil ?_
          exact WX.one ⟨rfl, by exact Chg.refl _ _⟩
        apply DQ.step (E' := [(1, _)])
        case ho => rfl
        case hs => exact ⟨rfl, trivial⟩
        case hk => rfl
        case h1 =>
          intro wq_6 kq_6
          refine WL.move rfl rfl (?_)
          refine WL.nil ?_
          exact WX.one ⟨rfl, by exact Chg.refl _ _⟩
        apply DQ.step (E' := [(5, _)])
        case ho => rfl
        case hs => exact ⟨rfl, trivial⟩
        case hk => rfl
        case h1 =>
          intro wq_7 kq_7
          refine WL.move rfl rfl (?_)
          refine WL.nil ?_
          exact WX.one ⟨rfl, by exact Chg.refl _ _⟩
        apply DQ.step (E' := [(21, _), (22, _)])
        case ho => rfl
        case hs => exact ⟨rfl, rfl, trivial⟩
        case hk => rfl
        case h1 =>
          intro wq_8 kq_8
          have zs_kq_8 := kq_8.size
          replace h1 := h1.pure kq_8
          replace h2 := h2.pure kq_8
          replace hw := hw.pure kq_8
          refine WL.indexC h2 Tryd.underlying56 Tryd.sizeOf9 rfl rfl ⟨hy, rfl⟩ rfl ?_
          refine WL.nil ?_
          exact WX.one ⟨rfl, by exact Chg.refl _ _⟩
        apply DQ.step (E' := [(23, _)])
        case ho => rfl
        case hs => exact ⟨rfl, trivial⟩
        case hk => rfl
        case h1 =>
          intro wq_9 kq_9
          have zs_kq_9 := kq_9.size
          replace h1 := h1.pure kq_9
          replace h2 := h2.pure kq_9
          replace hw := hw.pure kq_9
          refine WL.load Tryd.isAgg9 rfl ((h2.cellsAt hy) 0 _ rfl) rfl (?_)
          refine WL.nil ?_
          exact WX.one ⟨rfl, by exact Chg.refl _ _⟩
        apply DQ.step (E' := [(20, _), (24, _)])
        case ho => rfl
        case hs => exact ⟨rfl, rfl, trivial⟩
        case hk => rfl
        case h1 =>
          intro wq_10 kq_10
          refine WL.sneqT rfl rfl rfl (hxy) ?_
          refine WL.nil ?_
          exact WX.one ⟨rfl, by exact Chg.refl _ _⟩
        refine DQ.done (fun _ => ?_)
        refine DL.done (fun we_11 ke_11 => ?_)
        have zs_ke_11 := ke_11.size
        replace h1 := h1.pure ke_11
        replace h2 := h2.pure ke_11
        replace hw := hw.pure ke_11
        refine WX.then_normal (WC.cond_true rfl (WC.seq (WC.region (WL.assign rfl rfl (WL.nil (WX.then_normal (WC.ret (?_))))))))
        refine WX.block_ret (WX.then_ret (WX.then_ret (WX.block_ret (WX.then_ret (?_)))))
        refine WX.ret1 (.inl rfl) Tryd.results31 rfl ?_
        refine ⟨_, rfl, ?_, hw⟩
        congr 1
        first
          | (symm
             refine decide_eq_false (fun h => ?_)
             subst h
             first
               | (rw [hx] at hy
                  injection hy with hy
                  exact hxy hy)
               | (exfalso
                  have h10 : (l1.length : Int) ≠ l1.length := by assumption
                  exact h10 rfl))
          | (symm
             refine decide_eq_true ?_
             rw [List.take_of_length_le (by omega), List.take_of_length_le (by omega)] at hE
             exact hE)
    ·
      refine WL.nil (WX.then_normal (WC.cond_false rfl (WC.exit (WX.then_exit (WX.then_exit (WX.block_here (WX.then_normal (?_))))))))
      refine WC.seq (WC.region (WL.assign rfl rfl (WL.nil (WX.then_normal (WC.ret (?_))))))
      refine WX.ret1 (.inl rfl) Tryd.results31 rfl ?_
      refine ⟨_, rfl, ?_, hw⟩
      congr 1
      first
        | (symm
           refine decide_eq_false (fun h => ?_)
           subst h
           first
             | (rw [hx] at hy
                injection hy with hy
                exact hxy hy)
             | (exfalso
                have h10 : (l1.length : Int) ≠ l1.length := by assumption
                exact h10 rfl))
        | (symm
           refine decide_eq_true ?_
           rw [List.take_of_length_le (by omega), List.take_of_length_le (by omega)] at hE
           exact hE)
theorem short_calls (s : ByteArray) (w : World) : Calls Tryd.prog 28 [.string s].toArray w (Ret fun v w' => v = .string (s.extract 0 (min s.size 300)) ∧ Chg Nob w w') := by
  have hw := Chg.refl Nob w
  refine Calls.of_WC Tryd.func28 rfl Tryd.ntmps28 (by simp) ?_
  refine WC.seq (WC.region (WL.assign rfl rfl (WL.nil (WX.then_normal (WC.seq (WC.region (WL.move rfl rfl (?_))))))))
  refine WL.move rfl rfl (WL.lens Tryd.underlying9 rfl rfl (?_))
  refine WL.mini rfl rfl rfl ?_
  rw [show (if (300 : Int) < (s.size : Int) then (300 : Int) else (s.size : Int)) = ((min s.size 300 : Nat) : Int) from by split <;> omega]
  refine WL.sslice (h := min s.size 300) (k := .i64) Tryd.underlying9 rfl (.inr ⟨rfl, rfl⟩) (.inl rfl) (by constructor <;> omega) rfl ?_
  refine WL.assign rfl rfl (WL.nil (WX.then_normal (WC.ret (?_))))
  refine WX.ret1 (.inl rfl) Tryd.results28 rfl ?_
  exact ⟨_, rfl, rfl, hw⟩
theorem LgI.held {l : LgV} {hv : List ByteArray} {s s' : RA} (h : LgI l hv s) (h' : Hale s') (ed : s'.dn = s.dn) (en : s'.sn = s.sn) (eh : ∀ d a : Nat, d < s.dn → heldS s' ((d : Int), (a : Int)) = heldS s ((d : Int), (a : Int))) : LgI l hv s' := by
  have lf := h.ok.f
  have lx := h.ok.nx
  have li := h.ok.in_
  have eh2 : ∀ d j : Nat, d < s.dn → heldS s' ((d : Int), l.f + j) = heldS s ((d : Int), l.f + j) := fun d j hd => by
    have := eh d (l.f + j).toNat hd
    rw [show (((l.f + j).toNat : Nat) : Int) = l.f + j from by omega] at this
    exact this
  have hd := h.dn
  have hh : ∀ j : Nat, (j : Int) < l.nx → findE s' l.f l.b j = findE s l.f l.b j ∧ findP s' l.f l.b j = findP s l.f l.b j := fun j hj => by
    obtain ⟨q1, p, q2, q3, q4, q5, q6⟩ := h.hit j hj
    obtain ⟨r1, r2⟩ := find_hit h' (by omega) (f := l.f) (b := l.b) (j := j) (by omega) q4 q5 q6 (by
      have := eh2 0 j (by omega)
      rw [q3 0 (by omega)] at this
      exact this)
    exact ⟨r1.trans q1.symm, r2.trans q2.symm⟩
  refine ⟨by rw [en]; exact h.ok, h', by omega, fun j hj => ?_, fun j d h1 h2 h3 => by rw [eh2 d j (by omega)]; exact h.blank j d h1 h2 (by omega), ?_⟩
  · obtain ⟨r1, r2⟩ := hh j hj
    obtain ⟨q1, p, q2, q3, q4⟩ := h.hit j hj
    exact ⟨r1.trans q1, p, r2.trans q2, fun d hdd => by rw [eh2 d j (by omega)]; exact q3 d (by omega), q4⟩
  · rw [opA_congr (s := s) l.nx.toNat (fun j hj => hh j (by omega)), h.op]
set_option maxHeartbeats 4000000 in
theorem known13_calls (w : World) : Calls Tryd.prog 23 [].toArray w (Ret fun v w' => v = .bool true ∧ Chg Nob w w') := by
  have hw := Chg.refl Nob w
  obtain ⟨s0, sd, sn, u0, sg, sh, sl, sw, hNew⟩ := new_all 5 20 (by decide) (by decide)
  have hI0 : LgI ⟨8, 10, 3, 0⟩ [] s0 := LgI.new ⟨by show (0 : Int) ≤ 8; omega, by show (1 : Int) ≤ 10 ∧ (10 : Int) ≤ 500; omega, by show (0 : Int) ≤ 3 ∧ (3 : Int) ≤ _; omega, by show (0 : Int) ≤ 0 ∧ (0 : Int) ≤ 10; omega, by show (8 : Int) + 10 ≤ _; omega⟩ ⟨u0, sg⟩ (by omega) rfl (fun j d _ _ => sh _)
  obtain ⟨o1, o2, o3⟩ := hI0.opens
  have sw0 : s0.waits.length = 0 := by rw [sw]; rfl
  obtain ⟨T, eT⟩ : ∃ T : ByteArray, T = ⟨#[97, 98, 99]⟩ := ⟨_, rfl⟩
  have hT3 : T.size = 3 := by rw [eT]; rfl
  have hTn : needN T = 1 := by unfold needN; rw [hT3]; decide
  obtain ⟨p1, p2, hI1, q1, q2, q3, q4, q5⟩ := hI0.append T (by rw [hTn]; show (1 : Int) ≤ 10 - 0; omega)
  have e1 : openE s0 8 10 3 = 0 := o1
  have e2 : openL s0 8 10 3 = [] := o2
  have e3 : (openN s0 8 10 3 : Int) = 0 := o3
  obtain ⟨s1, es1⟩ : ∃ s1, s1 = apS s0 ⟨8, 10, 3, 0⟩ T := ⟨_, rfl⟩
  rw [← es1] at hI1 q1 q2 q3 q4 q5
  have hl1 : ({ f := 8, c := 10, b := 3, nx := (0 : Int) + needN T } : LgV) = ⟨8, 10, 3, 1⟩ := by rw [hTn]; rfl
  have hI2 : LgI ⟨8, 10, 3, 1⟩ [T] s1 := by
    have h9 := hI1
    show LgI ⟨8, 10, 3, 1⟩ ([] ++ [T]) s1
    rw [← hl1]
    exact h9
  have p2' : apL s0 ⟨8, 10, 3, 0⟩ T = ⟨8, 10, 3, 1⟩ := p2.trans hl1
  have hI3 : LgI ⟨8, 10, 3, 1⟩ [T] (crashS (allS s1) []) := by
    refine hI2.held ⟨crash_up _ _, fun d => hI2.hale.gone d⟩ rfl rfl (fun d a _ => ?_)
    rw [crash_held, crash_nil, allS_last]
  obtain ⟨r1, r2, r3⟩ := hI3.opens
  have r1 : openE (crashS (allS s1) []) 8 10 3 = 0 := r1
  have r2 : openL (crashS (allS s1) []) 8 10 3 = [T] := r2
  refine Calls.of_WC Tryd.func23 rfl Tryd.ntmps23 (by simp) ?_
  refine WC.seq (WC.region (WL.assign rfl rfl (WL.nil (WX.then_normal (WC.seq (WC.region (?_)))))))
  refine WL.call eg_15 rfl rfl (hNew _) ?_
  rintro v w1 ⟨⟨R, rfl, hR⟩, k1⟩
  have zs_k1 := k1.size
  replace hw := hw.pure k1
  refine WL.move rfl rfl (WL.extract rfl rfl rfl (WL.extract rfl rfl rfl (WL.assign rfl rfl (WL.assign rfl rfl (WL.nil (WX.then_normal (WC.seq (?_))))))))
  refine WC.region (WL.move rfl rfl (?_))
  refine WL.call eg_24 rfl rfl (iopen_calls hR 8 10 3 ⟨by decide, by decide⟩ ⟨by decide, by decide⟩) ?_
  rintro v w2 ⟨⟨pl, ao, cp, rfl, hq, hno, hyes⟩, k2⟩
  obtain ⟨L, rfl, hL0, hLq, hL, hlk⟩ := hyes e1
  rw [e1, e2] at *
  rw [e3] at hL hlk
  replace hR := hR.old
  have zs_k2 := k2.size
  replace hw := hw.pure k2
  replace hR := hR.pure k2
  refine WL.move rfl rfl (WL.extract rfl rfl rfl (WL.extract rfl rfl rfl (WL.extract rfl rfl rfl (WL.assign rfl rfl (WL.assign rfl rfl (WL.assign rfl rfl (WL.nil (?_))))))))
  refine WX.then_normal (WC.seq (WC.seq (WC.region (WL.move rfl rfl (?_)))))
  refine WL.neqF rfl rfl rfl (rfl) ?_
  refine WL.move rfl rfl (WL.want rfl rfl rfl (WL.move rfl rfl (WL.want rfl rfl rfl (?_))))
  refine WL.neqF rfl rfl rfl (rfl) ?_
  refine WL.pickF rfl rfl rfl (WL.move rfl rfl (WL.want rfl rfl rfl (WL.move rfl rfl (WL.want rfl rfl rfl (?_)))))
  refine WL.ptrNil Tryd.underlying55 rfl rfl rfl ?_
  refine WL.pickF rfl rfl rfl (WL.move rfl rfl (WL.want rfl rfl rfl (WL.move rfl rfl (WL.want rfl rfl rfl (?_)))))
  have hLA : ¬ (w.heap.size ≤ L ∧ L < w1.heap.size) := fun h => by omega
  refine WL.call eg_25 rfl rfl (iappend_calls hR hL (fun h => by omega) hI0.ok (⟨#[97, 98, 99]⟩ : ByteArray) (by decide) (by omega)) ?_
  rintro v w3 ⟨rfl, hR3, hL3, k3⟩
  rw [← eT] at hR3 hL3 ⊢
  rw [p1]
  rw [← es1] at hR3
  rw [p2'] at hL3
  replace hw := hw.trans k3 (fun x h1 h2 => by rcases h2 with h3 | h3 <;> omega)
  have z3 := k3.size
  refine WL.want rfl rfl rfl (?_)
  refine WL.neqF rfl rfl rfl (rfl) ?_
  refine WL.pickF rfl rfl rfl (WL.move rfl rfl (WL.want rfl rfl rfl (WL.move rfl rfl (WL.want rfl rfl rfl (?_)))))
  refine WL.call eg_18 rfl rfl (FlushU hR3 hI2.hale.up) ?_
  rintro v w4 ⟨rfl, hR4, k4⟩
  replace hL3 := hL3.chg k4 (fun h => by rcases h with h | h; omega; have := hL.lt; omega)
  replace hw := hw.trans k4 (fun x h1 h2 => by rcases h2 with h3 | h3; omega; omega)
  refine WL.want rfl rfl rfl (?_)
  refine WL.neqF rfl rfl rfl (rfl) ?_
  refine WL.pickF rfl rfl rfl (WL.move rfl rfl (WL.want rfl rfl rfl (WL.move rfl rfl (WL.want rfl rfl rfl (?_)))))
  refine WL.call eg_30 rfl rfl (lroom_calls hL3 hI2.ok) ?_
  rintro v w5 ⟨rfl, k5⟩
  have zs_k5 := k5.size
  replace hR4 := hR4.pure k5
  replace hL3 := hL3.pure k5
  replace hw := hw.pure k5
  refine WL.want rfl rfl rfl (?_)
  refine WL.neqF rfl rfl rfl ((by decide)) ?_
  refine WL.pickF rfl rfl rfl (WL.nil (WX.then_normal (WC.cond_false rfl (WC.skip (WX.then_normal (WC.seq (WC.region (?_))))))))
  refine WL.move rfl rfl (?_)
  refine WL.call eg_21 rfl rfl (Crash0_calls hR4) ?_
  rintro v w6 ⟨rfl, hR6, k6⟩
  replace hw := hw.trans k6 (fun x h1 h2 => by rcases h2 with h3 | h3; omega; omega)
  refine WL.nil (WX.then_normal (WC.seq (WC.region (WL.move rfl rfl (?_)))))
  refine WL.call eg_24 rfl rfl (iopen_calls hR6 8 10 3 ⟨by decide, by decide⟩ ⟨by decide, by decide⟩) ?_
  rintro v w7 ⟨⟨pl2, ao2, cp2, rfl, hq2, hno2, hyes2⟩, k7⟩
  rw [r1, r2] at *
  have zs_k7 := k7.size
  replace hw := hw.pure k7
  refine WL.move rfl rfl (WL.extract rfl rfl rfl (WL.extract rfl rfl rfl (WL.extract rfl rfl rfl (WL.assign rfl rfl (WL.assign rfl rfl (WL.assign rfl rfl (WL.nil (?_))))))))
  refine WX.then_normal (WC.seq (WC.region (WL.move rfl rfl (?_))))
  refine WL.eqlT rfl rfl rfl (rfl) ?_
  refine WL.move rfl rfl (WL.want rfl rfl rfl (WL.move rfl rfl (WL.want rfl rfl rfl (?_))))
  refine WL.build (e := es) [T] Tryd.underlying56 Tryd.sizeOf9 Tryd.zeroValue9 rfl rfl rfl (by simp [Value.cells] <;> rfl) (by decide) rfl ?_
  intro a_hn w_hn hn l_hn z_hn k_hn
  have zs_k_hn := k_hn.size
  replace hw := hw.pure k_hn
  replace hq2 := hq2.pure k_hn
  refine WL.want rfl rfl rfl (?_)
  refine WL.call eg_31 rfl rfl (same13_calls hq2.rsl hn.rsl (by simp)) ?_
  rintro v w8 ⟨rfl, k8⟩
  rw [decide_eq_true rfl]
  have zs_k8 := k8.size
  replace hw := hw.pure k8
  replace hq2 := hq2.pure k8
  replace hn := hn.pure k8
  refine WL.pickT rfl rfl rfl (WL.assign rfl rfl (WL.nil (WX.then_normal (WC.ret (?_)))))
  refine WX.ret1 (.inl rfl) Tryd.results23 rfl ?_
  exact ⟨_, rfl, rfl, hw⟩
end Go.Proofs.YtjeldcjchipdgaaDoor
namespace Go.Proofs.YtjeldcjchipdgaaDoor
open Go.RowKit Go.HL
set_option maxRecDepth 100000

theorem RK.nostr {A : Nat → Prop} {w : World} {R : Nat} {s : RA} (h : RK A w R s) : RK (fun x => A x ∧ kb w x ≠ some (some 9)) w R s := by
  obtain ⟨m, ga, gc, wa, wc, ws, ls, hB, hI, hl⟩ := h.ex
  refine ⟨⟨h.aR, by rw [hB.kb]; decide⟩, h.ok, m, ga, gc, wa, wc, ws, ls, hB, ⟨⟨hI.sm, by rw [hI.map.kb]; simp⟩, hI.map, hI.gone.kb.mono ?_, hI.waits.kb.mono ?_, fun p hp => (hI.byl p hp).kb.mono ?_, fun p hp => (hI.byw p hp).kb.mono ?_⟩, hl⟩
  all_goals
    rintro b ⟨h1, h2⟩
    exact ⟨h1, by rw [h2]; decide⟩
/-- behind some texts: what the log holds -/
structure RmI (cnt i : Nat) (l : LgV) (hv : List ByteArray) (s : RA) : Prop where
  lg : LgI l hv s
  f : l.f = 20
  c : l.c = cnt
  b : l.b = 0
  dn : s.dn = 5
  sn : s.sn = 60
  len : s.waits.length ≤ 150 * i
theorem RmI.big {cnt i : Nat} {l : LgV} {hv : List ByteArray} {s : RA} (h : RmI cnt i l hv s) {t : ByteArray} (ht : l.c < needN t) : apE s l t = 14 ∧ apS s l t = s ∧ apL s l t = l ∧ RmI cnt (i + 1) l hv s := by
  have e0 : apE0 l t = 14 := by rw [apE0, if_pos ht]
  obtain ⟨e1, e2, e3⟩ := ap_no (s := s) (l := l) (t := t) (by rw [e0]; decide)
  exact ⟨e1.trans e0, e2, e3, h.lg, h.f, h.c, h.b, h.dn, h.sn, by have := h.len; omega⟩
theorem RmI.full {cnt i : Nat} {l : LgV} {hv : List ByteArray} {s : RA} (h : RmI cnt i l hv s) {t : ByteArray} (ht : ¬ l.c < needN t) (h2 : l.c - l.nx < needN t) : apE s l t = 5 ∧ apS s l t = s ∧ apL s l t = l ∧ RmI cnt (i + 1) l hv s := by
  have e0 : apE0 l t = 5 := by rw [apE0, if_neg ht, if_pos h2]
  obtain ⟨e1, e2, e3⟩ := ap_no (s := s) (l := l) (t := t) (by rw [e0]; decide)
  exact ⟨e1.trans e0, e2, e3, h.lg, h.f, h.c, h.b, h.dn, h.sn, by have := h.len; omega⟩
theorem RmI.fits {cnt i : Nat} {l : LgV} {hv : List ByteArray} {s : RA} (h : RmI cnt i l hv s) (hc : cnt ≤ 30) {t : ByteArray} (h2 : (needN t : Int) ≤ l.c - l.nx) : apE s l t = 0 ∧ apL s l t = { l with nx := l.nx + needN t } ∧ RmI cnt (i + 1) { l with nx := l.nx + needN t } (hv ++ [t]) (apS s l t) ∧ (apS s l t).waits.length = s.waits.length + 5 * needN t := by
  obtain ⟨e1, e2, e3, e4, e5, e6, -⟩ := h.lg.append t h2
  have h3 := h.lg.ok.nx
  have h4 := h.c
  have h5 := h.len
  rw [h.dn] at e6
  exact ⟨e1, e2, ⟨e3, h.f, h.c, h.b, e4.trans h.dn, e5.trans h.sn, by omega⟩, e6⟩
set_option maxHeartbeats 4000000 in
theorem intentRooms_calls {w : World} {a0 : Option Addr} {c0 : Nat} {l0 : List ByteArray} (hf : RSl (· < w.heap.size) w es a0 c0 l0) (x1 : Int) :
    Calls Tryd.prog 7 [.slice a0 l0.length c0, vi x1].toArray w (Ret fun v w' => v = .bool true ∧ Chg Nob w w') := by
  have hw := Chg.refl Nob w
  obtain ⟨k0, hk0⟩ : ∃ f, f = (B64 x1 % 30).toNat := ⟨_, rfl⟩
  have hk5 : k0 < 30 := by rw [hk0, UInt64.toNat_mod]; exact Nat.mod_lt _ (by decide)
  obtain ⟨cnt, hcnt⟩ : ∃ c, c = k0 + 1 := ⟨_, rfl⟩
  obtain ⟨s0, sd, sn, u0, sg, sh, sl, sw, hNew⟩ := new_all 5 60 (by decide) (by decide)
  have sw0 : s0.waits.length = 0 := by rw [sw]; rfl
  have hI0 : RmI cnt 0 ⟨20, cnt, 0, 0⟩ [] s0 := ⟨LgI.new ⟨by show (0 : Int) ≤ 20; omega, by show (1 : Int) ≤ cnt ∧ (cnt : Int) ≤ 500; omega, by show (0 : Int) ≤ 0 ∧ (0 : Int) ≤ _; omega, by show (0 : Int) ≤ 0 ∧ (0 : Int) ≤ cnt; omega, by show (20 : Int) + cnt ≤ _; omega⟩ ⟨u0, sg⟩ (by omega) rfl (fun j d _ _ => sh _), rfl, rfl, rfl, sd, sn, by omega⟩
  obtain ⟨o1, o2, o3⟩ := hI0.lg.opens
  have e1 : openE s0 20 cnt 0 = 0 := o1
  have e2 : openL s0 20 cnt 0 = [] := o2
  have e3 : (openN s0 20 cnt 0 : Int) = 0 := o3
  refine Calls.of_WC Tryd.func7 rfl Tryd.ntmps7 (by simp) ?_
  refine WC.seq (WC.region (WL.assign rfl rfl (WL.nil (WX.then_normal (WC.seq (WC.seq (WC.region (?_))))))))
  refine WL.call eg_23 rfl rfl (known13_calls _) ?_
  rintro v w1 ⟨rfl, k1⟩
  have zs_k1 := k1.size
  replace hw := hw.pure k1
  replace hf := hf.pure k1
  refine WL.not rfl rfl (WL.nil (WX.then_normal (WC.cond_false rfl (WC.skip (WX.then_normal (WC.seq (WC.region (?_))))))))
  refine WL.move rfl rfl (WL.c_i64_u64 Tryd.underlying3 Tryd.underlying44 rfl rfl (WL.num rfl rfl (n_rem64 _ _ _ 30 (by decide)) rfl (?_)))
  refine WL.c_u64_i64s (n := k0) Tryd.underlying44 Tryd.underlying3 rfl ⟨hk0.symm, by omega⟩ rfl ?_
  refine WL.add64 rfl rfl (by constructor <;> omega) rfl ?_
  rw [show (1 : Int) + k0 = (cnt : Int) from by omega]
  refine WL.assign rfl rfl (WL.nil (WX.then_normal (WC.seq (WC.region (?_)))))
  refine WL.call eg_15 rfl rfl (hNew _) ?_
  rintro v w1 ⟨⟨R, rfl, hR⟩, k1⟩
  replace hR := hR.mono (A' := (w.heap.size ≤ ·)) (fun x hx => by have := hw.size; omega)
  have zs_k1 := k1.size
  replace hw := hw.pure k1
  replace hf := hf.pure k1
  refine WL.move rfl rfl (WL.extract rfl rfl rfl (WL.extract rfl rfl rfl (WL.assign rfl rfl (WL.assign rfl rfl (WL.nil (WX.then_normal (WC.seq (?_))))))))
  refine WC.region (WL.move rfl rfl (WL.move rfl rfl (?_)))
  refine WL.call eg_24 rfl rfl (iopen_calls hR 20 cnt 0 ⟨by decide, by decide⟩ ⟨by omega, by omega⟩) ?_
  rintro v w2 ⟨⟨pl, ao, cp, rfl, hq, hno, hyes⟩, k2⟩
  obtain ⟨L, rfl, hL0, hLq, hL, hlk⟩ := hyes e1
  rw [e1, e2] at *
  rw [e3] at hL hlk
  replace hR := hR.old
  have hwz := hw.size
  replace hR := hR.mono (A' := fun x => w.heap.size ≤ x ∧ x ≠ L) (fun x hx => ⟨hx.1, by omega⟩)
  have hLw : w.heap.size ≤ L := by omega
  have zs_k2 := k2.size
  replace hw := hw.pure k2
  replace hf := hf.pure k2
  replace hR := hR.pure k2
  refine WL.move rfl rfl (WL.extract rfl rfl rfl (WL.extract rfl rfl rfl (WL.extract rfl rfl rfl (WL.assign rfl rfl (WL.assign rfl rfl (WL.assign rfl rfl (WL.nil (?_))))))))
  refine WX.then_normal (WC.seq (WC.seq (WC.region (WL.move rfl rfl (?_)))))
  refine WL.neqF rfl rfl rfl (rfl) ?_
  refine WL.move rfl rfl (WL.want rfl rfl rfl (WL.move rfl rfl (WL.want rfl rfl rfl (?_))))
  refine WL.neqF rfl rfl rfl (rfl) ?_
  refine WL.pickF rfl rfl rfl (WL.nil (WX.then_normal (WC.cond_false rfl (WC.skip (WX.then_normal (WC.seq (WC.region (?_))))))))
  refine WL.assign rfl rfl (WL.nil (WX.then_normal (WC.seq (WC.region (WL.move rfl rfl (WL.assign rfl rfl (WL.nil (?_))))))))
  refine WX.then_normal (WC.seq (WC.seq (WC.region (WL.assign rfl rfl (WL.nil (WX.then_normal (WC.block (?_))))))))
  refine WC.loop (σ := Nat × List ByteArray × Option Addr × Nat × Int) (fun q => [(0, .slice a0 l0.length c0), (1, vi (cnt : Int)), (5, ptr R), (7, ptr L), (10, .slice q.2.2.1 q.2.1.length q.2.2.2.1), (11, vi q.2.2.2.2), (12, vi (q.1 : Int))])
    (fun q w' => (q.1 ≤ 30 ∧ q.1 ≤ l0.length) ∧ Chg Nob w w' ∧ RSl (· < w.heap.size) w' es a0 c0 l0 ∧ Row (fun x => w.heap.size ≤ x ∧ x ≠ L) w' 9 es q.2.2.1 q.2.2.2.1 q.2.1 ∧ (q.2.1.length ≤ q.1) ∧ ∃ (s : RA) (l : LgV), RmI cnt q.1 l q.2.1 s ∧ q.2.2.2.2 = cnt - l.nx ∧ RK (fun x => w.heap.size ≤ x ∧ x ≠ L) w' R s ∧ Blk w' L 103 (lgC R l)) (fun q => 30 - q.1) (0, [], none, 0, (cnt : Int)) ⟨rfl, rfl, rfl, rfl, rfl, rfl, rfl, trivial⟩
    ⟨⟨Nat.zero_le _, Nat.zero_le _⟩, hw, hf, Row.nil _ _ _ _, Nat.zero_le _, s0, _, hI0, by show (cnt : Int) = cnt - 0; omega, hR, hL⟩ ?_
  clear hR hL hw hf hlk
  rintro ⟨i, hv, ao2, cp2, left⟩ w5 ⟨⟨hi1, hi2⟩, hw, hf, hH, hvl, s, l, hI, hleft, hR, hL⟩
  dsimp only at hi1 hi2 hH hvl hI hleft ⊢
  have zw := hw.size
  have lc := hI.c
  have lnx := hI.lg.ok.nx
  have hlen := hI.len
  have lgL := hL.lt
  refine WC.seq (WC.seq (WC.region (WL.move rfl rfl (WL.move rfl rfl (WL.len Tryd.underlying56 rfl rfl (?_))))))
  refine WL.lss? rfl rfl rfl (fun h48 => ?_) (fun h48 => ?_)
  ·
    refine WL.move rfl rfl (WL.want rfl rfl rfl (WL.move rfl rfl (WL.want rfl rfl rfl (?_))))
    refine WL.lss? rfl rfl rfl (fun h51 => ?_) (fun h51 => ?_)
    ·
      refine WL.pickT rfl rfl rfl (WL.nil (WX.then_normal (WC.cond_true rfl (WC.skip (WX.then_normal (WC.seq (WC.block (?_))))))))
      refine WC.seq (WC.region (WL.move rfl rfl (WL.move rfl rfl (?_))))
      obtain ⟨X, hx⟩ : ∃ X, l0[i]? = some X := ⟨_, List.getElem?_eq_getElem (by omega)⟩
      refine WL.indexT Tryd.underlying56 Tryd.sizeOf9 hf rfl rfl ⟨hx, rfl⟩ rfl ?_
      intro b_1 o_1 hc_1
      refine WL.load Tryd.isAgg9 rfl (hc_1 0 _ rfl) rfl (?_)
      refine WL.call eg_28 rfl rfl (short_calls X _) ?_
      rintro v w6 ⟨rfl, k6⟩
      obtain ⟨T, eT⟩ : ∃ T, T = X.extract 0 (min X.size 300) := ⟨_, rfl⟩
      have hTs : T.size ≤ 300 := by rw [eT, ByteArray.size_extract]; omega
      rw [← eT]
      have zs_k6 := k6.size
      replace hw := hw.pure k6
      replace hf := hf.pure k6
      replace hH := hH.pure k6
      replace hR := hR.pure k6
      replace hL := hL.pure k6
      refine WL.assign rfl rfl (WL.nil (WX.then_normal (WC.seq (WC.region (WL.move rfl rfl (WL.lens Tryd.underlying9 rfl rfl (WL.add64 rfl rfl (by omega) rfl (?_))))))))
      refine WL.quo64i rfl rfl (by refine ⟨?_, ?_, ?_⟩ <;> omega) rfl (?_)
      refine WL.maxi rfl rfl rfl ?_
      rw [show (if (1 : Int) > ((T.size : Int) + 55) / 56 then (1 : Int) else ((T.size : Int) + 55) / 56) = (needN T : Int) from by unfold needN; split <;> omega]
      refine WL.assign rfl rfl (WL.nil (WX.then_normal (WC.seq (WC.region (WL.move rfl rfl (?_))))))
      refine WL.call eg_29 rfl rfl (Pending_calls hR) ?_
      rintro v w7 ⟨rfl, k7⟩
      have zs_k7 := k7.size
      replace hw := hw.pure k7
      replace hf := hf.pure k7
      replace hH := hH.pure k7
      replace hR := hR.pure k7
      replace hL := hL.pure k7
      refine WL.assign rfl rfl (WL.nil (WX.then_normal (WC.seq (WC.region (WL.move rfl rfl (WL.move rfl rfl (?_)))))))
      replace hR := hR.nostr
      refine WL.call eg_25 rfl rfl (iappend_calls hR hL (fun h => h.1.2 rfl) hI.lg.ok T (by omega) (by omega)) ?_
      rintro v w8 ⟨rfl, hR8, hL8, k8⟩
      obtain ⟨E, eE⟩ : ∃ E, E = apE s l T := ⟨_, rfl⟩
      obtain ⟨s8, es8⟩ : ∃ s8, s8 = apS s l T := ⟨_, rfl⟩
      obtain ⟨l8, el8⟩ : ∃ l8, l8 = apL s l T := ⟨_, rfl⟩
      rw [← eE]
      rw [← es8] at hR8
      rw [← el8] at hL8
      have hkL := hL.kb
      replace hH := hH.chgK k8 (fun b _ hm => by rcases hm with h | h; exact h.2; rw [h, hkL]; decide)
      replace hf := hf.chg k8 (fun b _ h1 hm => by rcases hm with h | h; have := h.1.1; omega; omega)
      replace hw := hw.trans k8 (fun x h1 h2 => by rcases h2 with h3 | h3; have := h3.1.1; omega; omega)
      have z8 := k8.size
      replace hR8 := hR8.mono (A' := fun x => w.heap.size ≤ x ∧ x ≠ L) (fun x hx => by rcases hx with h | h; exact h.1; exact ⟨by omega, by omega⟩)
      refine WL.assign rfl rfl (WL.nil (WX.then_normal (WC.seq (WC.block (WC.seq (WC.region (WL.move rfl rfl (?_))))))))
      refine WL.move rfl rfl (?_)
      refine WL.gtr? rfl rfl rfl (fun h91 => ?_) (fun h91 => ?_)
      ·
        refine WL.assign rfl rfl (WL.nil (WX.then_normal (WC.cond_true rfl (WC.seq (WC.region (WL.move rfl rfl (?_)))))))
        obtain ⟨p1, p2, p3, p4⟩ := hI.big (t := T) (by omega)
        rw [p1] at eE
        rw [p2] at es8
        rw [p3] at el8
        subst eE es8 el8
        have hleft' : left = cnt - l8.nx := hleft
        refine WL.neqF rfl rfl rfl (rfl) ?_
        refine WL.move rfl rfl (WL.want rfl rfl rfl (WL.move rfl rfl (WL.want rfl rfl rfl (?_))))
        refine WL.call eg_29 rfl rfl (Pending_calls hR8) ?_
        rintro v w9 ⟨rfl, k9⟩
        have zs_k9 := k9.size
        replace hR8 := hR8.pure k9
        replace hL8 := hL8.pure k9
        replace hw := hw.pure k9
        replace hf := hf.pure k9
        replace hH := hH.pure k9
        refine WL.want rfl rfl rfl (WL.move rfl rfl (WL.want rfl rfl rfl (?_)))
        refine WL.neqF rfl rfl rfl (rfl) ?_
        refine WL.pickF rfl rfl rfl (WL.nil (WX.then_normal (WC.cond_false rfl (WC.skip (WX.block_normal (WX.then_normal (WC.seq (?_))))))))
        refine WC.region (WL.move rfl rfl (?_))
        refine WL.call eg_30 rfl rfl (lroom_calls hL8 p4.lg.ok) ?_
        rintro v w10 ⟨rfl, k10⟩
        have zs_k10 := k10.size
        replace hR8 := hR8.pure k10
        replace hL8 := hL8.pure k10
        replace hw := hw.pure k10
        replace hf := hf.pure k10
        replace hH := hH.pure k10
        refine WL.move rfl rfl (?_)
        refine WL.neqF rfl rfl rfl ((by have := p4.c; omega)) ?_
        refine WL.move rfl rfl (WL.want rfl rfl rfl (WL.move rfl rfl (WL.want rfl rfl rfl (?_))))
        refine WL.call eg_26 rfl rfl (need_calls T _ (by omega)) ?_
        rintro v w11 ⟨rfl, k11⟩
        have zs_k11 := k11.size
        replace hR8 := hR8.pure k11
        replace hL8 := hL8.pure k11
        replace hw := hw.pure k11
        replace hf := hf.pure k11
        replace hH := hH.pure k11
        refine WL.want rfl rfl rfl (WL.move rfl rfl (WL.want rfl rfl rfl (?_)))
        refine WL.neqF rfl rfl rfl (rfl) ?_
        refine WL.pickF rfl rfl rfl (WL.nil (WX.then_normal (WC.cond_false rfl (WC.skip (WX.block_normal (WX.then_normal (WC.region (?_))))))))
        refine WL.move rfl rfl (WL.add64 rfl rfl (by omega) rfl (WL.assign rfl rfl (WL.nil (?_))))
        first
          | (have hz : (needN T : Int) ≤ left := h103
             exact WX.loop_next (i + 1, hv ++ [T], a_hH2, c_hH2, left - needN T) ⟨rfl, rfl, rfl, rfl, rfl, rfl, rfl, trivial⟩ ⟨⟨by dsimp only; omega, by dsimp only; omega⟩, hw, hf, hH2, by dsimp only; rw [List.length_append]; simpa using hvl, _, _, p4, hleft', hR8, hL8⟩ (by show 30 - (i + 1) < 30 - i; omega))
          | exact WX.loop_next (i + 1, hv, ao2, cp2, left) ⟨rfl, rfl, rfl, rfl, rfl, rfl, rfl, trivial⟩ ⟨⟨by dsimp only; omega, by dsimp only; omega⟩, hw, hf, hH, by dsimp only; omega, _, _, p4, hleft', hR8, hL8⟩ (by show 30 - (i + 1) < 30 - i; omega)
      ·
        refine WL.assign rfl rfl (WL.nil (WX.then_normal (WC.cond_false rfl (WC.seq (WC.region (WL.move rfl rfl (WL.move rfl rfl (?_))))))))
        refine WL.gtr? rfl rfl rfl (fun h103 => ?_) (fun h103 => ?_)
        ·
          refine WL.assign rfl rfl (WL.nil (WX.then_normal (WC.cond_true rfl (WC.seq (WC.region (WL.move rfl rfl (?_)))))))
          obtain ⟨p1, p2, p3, p4⟩ := hI.full (t := T) (by omega) (by omega)
          rw [p1] at eE
          rw [p2] at es8
          rw [p3] at el8
          subst eE es8 el8
          have hleft' : left = cnt - l8.nx := hleft
          refine WL.neqF rfl rfl rfl (rfl) ?_
          refine WL.move rfl rfl (WL.want rfl rfl rfl (WL.move rfl rfl (WL.want rfl rfl rfl (?_))))
          refine WL.call eg_29 rfl rfl (Pending_calls hR8) ?_
          rintro v w9 ⟨rfl, k9⟩
          have zs_k9 := k9.size
          replace hR8 := hR8.pure k9
          replace hL8 := hL8.pure k9
          replace hw := hw.pure k9
          replace hf := hf.pure k9
          replace hH := hH.pure k9
          refine WL.want rfl rfl rfl (WL.move rfl rfl (WL.want rfl rfl rfl (?_)))
          refine WL.neqF rfl rfl rfl (rfl) ?_
          refine WL.pickF rfl rfl rfl (WL.nil (WX.then_normal (WC.cond_false rfl (WC.skip (WX.block_normal (WX.then_normal (WC.seq (?_))))))))
          refine WC.region (WL.move rfl rfl (?_))
          refine WL.call eg_30 rfl rfl (lroom_calls hL8 p4.lg.ok) ?_
          rintro v w10 ⟨rfl, k10⟩
          have zs_k10 := k10.size
          replace hR8 := hR8.pure k10
          replace hL8 := hL8.pure k10
          replace hw := hw.pure k10
          replace hf := hf.pure k10
          replace hH := hH.pure k10
          refine WL.move rfl rfl (?_)
          refine WL.neqF rfl rfl rfl ((by have := p4.c; omega)) ?_
          refine WL.move rfl rfl (WL.want rfl rfl rfl (WL.move rfl rfl (WL.want rfl rfl rfl (?_))))
          refine WL.call eg_26 rfl rfl (need_calls T _ (by omega)) ?_
          rintro v w11 ⟨rfl, k11⟩
          have zs_k11 := k11.size
          replace hR8 := hR8.pure k11
          replace hL8 := hL8.pure k11
          replace hw := hw.pure k11
          replace hf := hf.pure k11
          replace hH := hH.pure k11
          refine WL.want rfl rfl rfl (WL.move rfl rfl (WL.want rfl rfl rfl (?_)))
          refine WL.neqF rfl rfl rfl (rfl) ?_
          refine WL.pickF rfl rfl rfl (WL.nil (WX.then_normal (WC.cond_false rfl (WC.skip (WX.block_normal (WX.then_normal (WC.region (?_))))))))
          refine WL.move rfl rfl (WL.add64 rfl rfl (by omega) rfl (WL.assign rfl rfl (WL.nil (?_))))
          first
            | (have hz : (needN T : Int) ≤ left := h103
               exact WX.loop_next (i + 1, hv ++ [T], a_hH2, c_hH2, left - needN T) ⟨rfl, rfl, rfl, rfl, rfl, rfl, rfl, trivial⟩ ⟨⟨by dsimp only; omega, by dsimp only; omega⟩, hw, hf, hH2, by dsimp only; rw [List.length_append]; simpa using hvl, _, _, p4, hleft', hR8, hL8⟩ (by show 30 - (i + 1) < 30 - i; omega))
            | exact WX.loop_next (i + 1, hv, ao2, cp2, left) ⟨rfl, rfl, rfl, rfl, rfl, rfl, rfl, trivial⟩ ⟨⟨by dsimp only; omega, by dsimp only; omega⟩, hw, hf, hH, by dsimp only; omega, _, _, p4, hleft', hR8, hL8⟩ (by show 30 - (i + 1) < 30 - i; omega)
        ·
          refine WL.assign rfl rfl (WL.nil (WX.then_normal (WC.cond_false rfl (WC.seq (WC.seq (WC.region (WL.move rfl rfl (?_))))))))
          obtain ⟨p1, p2, p4, p5⟩ := hI.fits (by omega) (t := T) (by omega)
          rw [p1] at eE
          rw [← es8] at p4 p5
          rw [← el8] at p2
          subst eE
          rw [← p2] at p4
          have hleft' : left - needN T = cnt - l8.nx := by rw [p2]; show _ = (cnt : Int) - (l.nx + needN T); omega
          refine WL.neqF rfl rfl rfl (rfl) ?_
          refine WL.move rfl rfl (WL.want rfl rfl rfl (WL.move rfl rfl (WL.want rfl rfl rfl (?_))))
          refine WL.call eg_29 rfl rfl (Pending_calls hR8) ?_
          rintro v w9 ⟨rfl, k9⟩
          have zs_k9 := k9.size
          replace hR8 := hR8.pure k9
          replace hL8 := hL8.pure k9
          replace hw := hw.pure k9
          replace hf := hf.pure k9
          replace hH := hH.pure k9
          refine WL.want rfl rfl rfl (WL.move rfl rfl (WL.want rfl rfl rfl (WL.move rfl rfl (WL.want rfl rfl rfl (WL.mul64 rfl rfl (by omega) rfl (WL.want rfl rfl rfl (WL.add64 rfl rfl (by omega) rfl (?_))))))))
          refine WL.want rfl rfl rfl (?_)
          refine WL.neqF rfl rfl rfl ((by omega)) ?_
          refine WL.pickF rfl rfl rfl (WL.nil (WX.then_normal (WC.cond_false rfl (WC.skip (WX.then_normal (WC.seq (WC.region (?_))))))))
          refine WL.move rfl rfl (WL.move rfl rfl (WL.sub64 rfl rfl (by omega) rfl (WL.assign rfl rfl (WL.nil (WX.then_normal (WC.region (WL.move rfl rfl (?_))))))))
          refine WL.move rfl rfl (?_)
          refine WL.build (e := es) [T] Tryd.underlying56 Tryd.sizeOf9 Tryd.zeroValue9 rfl rfl rfl (by simp [Value.cells] <;> rfl) (by decide) rfl ?_
          intro a_hn w_hn hn l_hn z_hn k_hn
          have zs_k_hn := k_hn.size
          replace hR8 := hR8.pure k_hn
          replace hL8 := hL8.pure k_hn
          replace hw := hw.pure k_hn
          replace hf := hf.pure k_hn
          replace hH := hH.pure k_hn
          have hHk := hH.kb
          replace hR8 := hR8.nostr
          refine WL.append (e := es) info_9 rfl Tryd.underlying56 rfl rfl hH (hn.rsl.src Tryd.underlying56) (by (try simp only [List.length_append, List.length_cons, List.length_nil] at *); omega) (by intro b hb; first | (apply hS; omega) | ((try dsimp only); omega)) rfl ?_
          intro a_hH2 c_hH2 w_hH2 hH2 g_hH2 n_hH2
          have z_hH2 := g_hH2.chg.size
          have zs_g_hH2_chg := g_hH2.chg.size
          replace hL8 := hL8.chg g_hH2.chg (by intro h1; exfalso; have h4 := h1.2; (try dsimp only at *); omega)
          replace hw := hw.chg g_hH2.chg (by intros; exfalso; (try dsimp only at *); omega)
          replace hf := hf.chg g_hH2.chg (by intros; exfalso; (try dsimp only at *); omega)
          replace hR8 := (hR8.chg g_hH2.chg (fun b _ h1 h2 => h1.2 (hHk.at_.eqb h2.1).2)).mono (A' := fun x => w.heap.size ≤ x ∧ x ≠ L) (fun x hx => hx.1)
          refine WL.assign rfl rfl (WL.nil (WX.block_normal (WX.then_normal (WC.seq (WC.region (WL.move rfl rfl (?_)))))))
          refine WL.call eg_30 rfl rfl (lroom_calls hL8 p4.lg.ok) ?_
          rintro v w10 ⟨rfl, k10⟩
          have zs_k10 := k10.size
          replace hL8 := hL8.pure k10
          replace hw := hw.pure k10
          replace hf := hf.pure k10
          replace hH2 := hH2.pure k10
          replace hR8 := hR8.pure k10
          refine WL.move rfl rfl (?_)
          refine WL.neqF rfl rfl rfl ((by have := p4.c; omega)) ?_
          refine WL.move rfl rfl (WL.want rfl rfl rfl (WL.move rfl rfl (WL.want rfl rfl rfl (?_))))
          refine WL.call eg_26 rfl rfl (need_calls T _ (by omega)) ?_
          rintro v w11 ⟨rfl, k11⟩
          have zs_k11 := k11.size
          replace hL8 := hL8.pure k11
          replace hw := hw.pure k11
          replace hf := hf.pure k11
          replace hH2 := hH2.pure k11
          replace hR8 := hR8.pure k11
          refine WL.want rfl rfl rfl (WL.move rfl rfl (WL.want rfl rfl rfl (?_)))
          refine WL.neqF rfl rfl rfl (rfl) ?_
          refine WL.pickF rfl rfl rfl (WL.nil (WX.then_normal (WC.cond_false rfl (WC.skip (WX.block_normal (WX.then_normal (WC.region (?_))))))))
          refine WL.move rfl rfl (WL.add64 rfl rfl (by omega) rfl (WL.assign rfl rfl (WL.nil (?_))))
          first
            | (have hz : (needN T : Int) ≤ left := h103
               exact WX.loop_next (i + 1, hv ++ [T], a_hH2, c_hH2, left - needN T) ⟨rfl, rfl, rfl, rfl, rfl, rfl, rfl, trivial⟩ ⟨⟨by dsimp only; omega, by dsimp only; omega⟩, hw, hf, hH2, by dsimp only; rw [List.length_append]; simpa using hvl, _, _, p4, hleft', hR8, hL8⟩ (by show 30 - (i + 1) < 30 - i; omega))
            | exact WX.loop_next (i + 1, hv, ao2, cp2, left) ⟨rfl, rfl, rfl, rfl, rfl, rfl, rfl, trivial⟩ ⟨⟨by dsimp only; omega, by dsimp only; omega⟩, hw, hf, hH, by dsimp only; omega, _, _, p4, hleft', hR8, hL8⟩ (by show 30 - (i + 1) < 30 - i; omega)
    ·
      refine WL.pickT rfl rfl rfl (WL.nil (WX.then_normal (WC.cond_false rfl (WC.exit (WX.then_exit (WX.then_exit (WX.block_here (?_))))))))
      refine WX.then_normal (WC.seq (WC.region (WL.move rfl rfl (WL.move rfl rfl (?_)))))
      obtain ⟨t1, t2, t3⟩ := hI.lg.opens
      rw [hI.f, hI.c, hI.b] at t1 t2 t3
      replace hR := hR.old
      replace hH := hH.lt
      refine WL.call eg_24 rfl rfl (iopen_calls hR 20 cnt 0 ⟨by decide, by decide⟩ ⟨by omega, by omega⟩) ?_
      rintro v w12 ⟨⟨pl3, ao3, cp3, rfl, hq3, hno3, hyes3⟩, k12⟩
      obtain ⟨L3, rfl, hL03, hLq3, hL3, hlk3⟩ := hyes3 t1
      rw [t1, t2] at *
      rw [t3] at hL3 hlk3
      have zs_k12 := k12.size
      replace hw := hw.pure k12
      replace hf := hf.pure k12
      replace hH := hH.pure k12
      refine WL.move rfl rfl (WL.extract rfl rfl rfl (WL.extract rfl rfl rfl (WL.extract rfl rfl rfl (WL.assign rfl rfl (WL.assign rfl rfl (WL.assign rfl rfl (WL.nil (?_))))))))
      refine WX.then_normal (WC.seq (WC.region (WL.move rfl rfl (?_))))
      refine WL.eqlT rfl rfl rfl (rfl) ?_
      refine WL.move rfl rfl (WL.want rfl rfl rfl (WL.move rfl rfl (WL.want rfl rfl rfl (WL.move rfl rfl (WL.want rfl rfl rfl (?_))))))
      refine WL.call eg_31 rfl rfl (same13_calls hq3.rsl hH.rsl (by omega)) ?_
      rintro v w13 ⟨rfl, k13⟩
      rw [decide_eq_true rfl]
      have zs_k13 := k13.size
      replace hw := hw.pure k13
      replace hf := hf.pure k13
      replace hH := hH.pure k13
      replace hq3 := hq3.pure k13
      replace hL3 := hL3.pure k13
      refine WL.pickT rfl rfl rfl (WL.move rfl rfl (WL.want rfl rfl rfl (WL.move rfl rfl (WL.want rfl rfl rfl (?_)))))
      refine WL.call eg_30 rfl rfl (lroom_calls hL3 hlk3) ?_
      rintro v w14 ⟨rfl, k14⟩
      have zs_k14 := k14.size
      replace hw := hw.pure k14
      replace hf := hf.pure k14
      replace hH := hH.pure k14
      replace hq3 := hq3.pure k14
      replace hL3 := hL3.pure k14
      refine WL.want rfl rfl rfl (WL.move rfl rfl (WL.want rfl rfl rfl (?_)))
      refine WL.eqlT rfl rfl rfl ((by show (cnt : Int) - l.nx = left; omega)) ?_
      refine WL.pickT rfl rfl rfl (WL.move rfl rfl (WL.want rfl rfl rfl (WL.move rfl rfl (WL.want rfl rfl rfl (?_)))))
      refine WL.call eg_32 rfl rfl (lbase_calls hL3) ?_
      rintro v w15 ⟨rfl, k15⟩
      have zs_k15 := k15.size
      replace hw := hw.pure k15
      replace hf := hf.pure k15
      replace hH := hH.pure k15
      replace hq3 := hq3.pure k15
      replace hL3 := hL3.pure k15
      refine WL.want rfl rfl rfl (?_)
      refine WL.eqlT rfl rfl rfl (rfl) ?_
      refine WL.pickT rfl rfl rfl (WL.assign rfl rfl (WL.nil (WX.then_normal (WC.ret (?_)))))
      refine WX.ret1 (.inl rfl) Tryd.results7 rfl ?_
      exact ⟨_, rfl, rfl, hw⟩
  ·
    refine WL.move rfl rfl (WL.pass rfl rfl rfl rfl (WL.pass rfl rfl rfl rfl (WL.pickF rfl rfl rfl (WL.nil (WX.then_normal (WC.cond_false rfl (WC.exit (?_))))))))
    refine WX.then_exit (WX.then_exit (WX.block_here (WX.then_normal (WC.seq (WC.region (WL.move rfl rfl (WL.move rfl rfl (?_))))))))
    obtain ⟨t1, t2, t3⟩ := hI.lg.opens
    rw [hI.f, hI.c, hI.b] at t1 t2 t3
    replace hR := hR.old
    replace hH := hH.lt
    refine WL.call eg_24 rfl rfl (iopen_calls hR 20 cnt 0 ⟨by decide, by decide⟩ ⟨by omega, by omega⟩) ?_
    rintro v w12 ⟨⟨pl3, ao3, cp3, rfl, hq3, hno3, hyes3⟩, k12⟩
    obtain ⟨L3, rfl, hL03, hLq3, hL3, hlk3⟩ := hyes3 t1
    rw [t1, t2] at *
    rw [t3] at hL3 hlk3
    have zs_k12 := k12.size
    replace hw := hw.pure k12
    replace hf := hf.pure k12
    replace hH := hH.pure k12
    refine WL.move rfl rfl (WL.extract rfl rfl rfl (WL.extract rfl rfl rfl (WL.extract rfl rfl rfl (WL.assign rfl rfl (WL.assign rfl rfl (WL.assign rfl rfl (WL.nil (?_))))))))
    refine WX.then_normal (WC.seq (WC.region (WL.move rfl rfl (?_))))
    refine WL.eqlT rfl rfl rfl (rfl) ?_
    refine WL.move rfl rfl (WL.want rfl rfl rfl (WL.move rfl rfl (WL.want rfl rfl rfl (WL.move rfl rfl (WL.want rfl rfl rfl (?_))))))
    refine WL.call eg_31 rfl rfl (same13_calls hq3.rsl hH.rsl (by omega)) ?_
    rintro v w13 ⟨rfl, k13⟩
    rw [decide_eq_true rfl]
    have zs_k13 := k13.size
    replace hw := hw.pure k13
    replace hf := hf.pure k13
    replace hH := hH.pure k13
    replace hq3 := hq3.pure k13
    replace hL3 := hL3.pure k13
    refine WL.pickT rfl rfl rfl (WL.move rfl rfl (WL.want rfl rfl rfl (WL.move rfl rfl (WL.want rfl rfl rfl (?_)))))
    refine WL.call eg_30 rfl rfl (lroom_calls hL3 hlk3) ?_
    rintro v w14 ⟨rfl, k14⟩
    have zs_k14 := k14.size
    replace hw := hw.pure k14
    replace hf := hf.pure k14
    replace hH := hH.pure k14
    replace hq3 := hq3.pure k14
    replace hL3 := hL3.pure k14
    refine WL.want rfl rfl rfl (WL.move rfl rfl (WL.want rfl rfl rfl (?_)))
    refine WL.eqlT rfl rfl rfl ((by show (cnt : Int) - l.nx = left; omega)) ?_
    refine WL.pickT rfl rfl rfl (WL.move rfl rfl (WL.want rfl rfl rfl (WL.move rfl rfl (WL.want rfl rfl rfl (?_)))))
    refine WL.call eg_32 rfl rfl (lbase_calls hL3) ?_
    rintro v w15 ⟨rfl, k15⟩
    have zs_k15 := k15.size
    replace hw := hw.pure k15
    replace hf := hf.pure k15
    replace hH := hH.pure k15
    replace hq3 := hq3.pure k15
    replace hL3 := hL3.pure k15
    refine WL.want rfl rfl rfl (?_)
    refine WL.eqlT rfl rfl rfl (rfl) ?_
    refine WL.pickT rfl rfl rfl (WL.assign rfl rfl (WL.nil (WX.then_normal (WC.ret (?_)))))
    refine WX.ret1 (.inl rfl) Tryd.results7 rfl ?_
    exact ⟨_, rfl, rfl, hw⟩
end Go.Proofs.YtjeldcjchipdgaaDoor
