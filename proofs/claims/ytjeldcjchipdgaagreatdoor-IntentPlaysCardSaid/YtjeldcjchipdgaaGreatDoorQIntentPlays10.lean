import Derived.Test.YtjeldcjchipdgaaGreatDoorQIntentPlays9
namespace Go.Proofs.YtjeldcjchipdgaaGreatDoor
open Go.RowKit Go.HL
set_option maxRecDepth 100000
theorem ap_no {s : RA} {l : LgV} {t : ByteArray} (h : apE0 l t ≠ 0) : apE s l t = apE0 l t ∧ apS s l t = s ∧ apL s l t = l := by
 have e : apE s l t = apE0 l t := by rw [apE, if_pos h]
 refine ⟨e, by rw [apS, if_neg h], by rw [apL, e, if_neg h]⟩
theorem ap_stop {s : RA} {l : LgV} {t : ByteArray} {i : Nat} (h0 : apE0 l t = 0) (hi : i ≤ needN t) (h : (apR s l.f l.b l.nx t i).2.2 ≠ 0) : apE s l t = (apR s l.f l.b l.nx t i).2.2 ∧ apS s l t = (apR s l.f l.b l.nx t i).1 ∧ apL s l t = l := by
 have e0 : apR s l.f l.b l.nx t (needN t) = apR s l.f l.b l.nx t i := by
  have := apR_stuck h (needN t - i)
  rw [show i + (needN t - i) = needN t from by omega] at this
  exact this
 have e : apE s l t = (apR s l.f l.b l.nx t i).2.2 := by rw [apE, if_neg (fun x => x h0), e0, if_pos h]
 exact ⟨e, by rw [apS, if_pos h0, e0], by rw [apL, e, if_neg h]⟩
theorem ap_end {s : RA} {l : LgV} {t : ByteArray} (h0 : apE0 l t = 0) (h : (apR s l.f l.b l.nx t (needN t)).2.2 = 0) : apS s l t = (apR s l.f l.b l.nx t (needN t)).1 ∧ ((apR s l.f l.b l.nx t (needN t)).2.1 = 0 → apE s l t = 4 ∧ apL s l t = l) ∧ ((apR s l.f l.b l.nx t (needN t)).2.1 ≠ 0 → apE s l t = 0 ∧ apL s l t = { l with nx := l.nx + needN t }) := by
 refine ⟨by rw [apS, if_pos h0], fun h1 => ?_, fun h1 => ?_⟩
 ·have e : apE s l t = 4 := by rw [apE, if_neg (fun x => x h0), if_neg (fun x => x h), if_pos h1]
  exact ⟨e, by rw [apL, e, if_neg (by decide)]⟩
 ·have e : apE s l t = 0 := by rw [apE, if_neg (fun x => x h0), if_neg (fun x => x h), if_neg h1]
  exact ⟨e, by rw [apL, if_pos e]⟩
set_option maxHeartbeats 4000000 in
theorem iappend_in {A : Nat → Prop} {w : World} {R L : Nat} {s : RA} {l : LgV} (h : RK A w R s) (hA : ∀ x, A x → x < w.heap.size) (hL : Blk w L 125 (lgC R l)) (hLA : ¬ A L) (hl : l.ok s.sn) (t : ByteArray) (ht : t.size ≤ 140737488351232) (hw9 : s.waits.length ≤ 80000) :
 Calls Tryz.prog 34 [ptr L, .string t].toArray w (Ret fun v w' => v = vi (apE s l t) ∧ RK (fun x => A x ∨ (w.heap.size ≤ x)) w' R (apS s l t) ∧ Blk w' L 125 (lgC R (apL s l t)) ∧ Chg (fun x => A x ∨ x = L) w w') := by
 have hw := Chg.refl A w
 have hdn := h.ok.dn
 have hsn := h.ok.sn
 have lf := hl.f
 have lc := hl.c
 have lb := hl.b
 have lnx := hl.nx
 have lin := hl.in_
 have hLl := hL.lt
 have hn1 := needN_pos t
 have hnt : (needN t : Int) * 56 ≤ t.size + 112 ∧ (t.size : Int) ≤ needN t * 56 ∧ (needN t ≠ 1 → ((needN t : Int) - 1) * 56 < t.size) := by unfold needN; omega
 obtain ⟨n, en⟩ : ∃ n, n = needN t := ⟨_, rfl⟩
 refine Calls.of_WC Tryz.func34 rfl Tryz.ntmps34 (by simp) ?_
 refine WC.sr (WL.assign rfl rfl (WL.t (WC.sr (WL.move rfl rfl (WL.call eg_42 rfl rfl (need_calls t _ ht) ?_)))))
 rintro v w1 ⟨rfl, k1⟩
 rw [← en]
 have zs_k1 := k1.size
 replace h := h.pure k1
 replace hL := hL.pure k1
 replace hw := hw.pure k1
 refine WL.assign rfl rfl (WL.t (WC.seq (WC.block (WC.sr (WL.move rfl rfl (WL.qq Tryz.underlying66 rfl rfl rfl ?_))))))
 refine WL.assign rfl rfl (WL.t (WC.qa rfl (WC.sr (WL.move rfl rfl (WL.move rfl rfl (WL.nilCheck rfl rfl (WL.fieldAddr (fld_125_2) rfl rfl (WL.qb Tryz.isAgg3 hL rfl rfl rfl (WL.qn rfl rfl rfl (fun h22 => ?_) (fun h22 => ?_))))))))))
 ·refine WL.assign rfl rfl (WL.t (WC.qb rfl (WC.sr (WL.assign rfl rfl (WL.nil (WX.qa (WC.ret (WX.qe (WX.qb (WX.qg (.inl rfl) Tryz.results34 rfl ?_))))))))))
  have hz : l.c < (n : Int) := h22
  obtain ⟨e1, e2, e3⟩ := ap_no (s := s) (l := l) (t := t) (by rw [apE0, if_pos (by omega)]; decide)
  have e4 : apE0 l t = 14 := by rw [apE0, if_pos (by omega)]
  rw [e1, e2, e3, e4]
  exact ⟨_, rfl, rfl, h.mono (fun x hx => .inl hx), hL, hw.mono (fun x _ hx => .inl hx)⟩
 ·refine WL.assign rfl rfl (WL.t (WC.qa rfl (WC.sr (WL.move rfl rfl (WL.move rfl rfl (WL.call eg_33 rfl rfl (lroom_calls hL hl) ?_))))))
  rintro v w1 ⟨rfl, k1⟩
  have zs_k1 := k1.size
  replace h := h.pure k1
  replace hL := hL.pure k1
  replace hw := hw.pure k1
  refine WL.qn rfl rfl rfl (fun h27 => ?_) (fun h27 => ?_)
  ·refine WL.assign rfl rfl (WL.t (WC.qb rfl (WC.sr (WL.assign rfl rfl (WL.nil (WX.qa (WC.ret (WX.qe (WX.qb (WX.qg (.inl rfl) Tryz.results34 rfl ?_))))))))))
   have hz : l.c - l.nx < (n : Int) := h27
   have e4 : apE0 l t = 5 := by rw [apE0, if_neg (by omega), if_pos (by omega)]
   obtain ⟨e1, e2, e3⟩ := ap_no (s := s) (l := l) (t := t) (by rw [e4]; decide)
   rw [e1, e2, e3, e4]
   exact ⟨_, rfl, rfl, h.mono (fun x hx => .inl hx), hL, hw.mono (fun x _ hx => .inl hx)⟩
  ·refine WL.assign rfl rfl (WL.t (WC.qa rfl (WC.skip (WX.qc (WX.qa (WC.seq (WC.region (WL.assign rfl rfl (WL.t (WC.seq (WC.sr (WL.move rfl rfl (WL.move rfl rfl (WL.t (WC.block (?_))))))))))))))))
   have h0 : apE0 l t = 0 := by rw [apE0, if_neg (by omega), if_neg (by omega)]
   have hnc : n ≤ 500 := by omega
   obtain ⟨n0, en0⟩ : ∃ n0, n0 = w1.heap.size := ⟨_, rfl⟩
   refine WC.loop (σ := Nat) (fun i => [(0, ptr L), (1, .string t), (5, vi (n : Int)), (6, vi ((apR s l.f l.b l.nx t i).2.1 : Int)), (28, vi (n : Int)), (29, vi (i : Int))])
    (fun i w' => i ≤ n ∧ (apR s l.f l.b l.nx t i).2.2 = 0 ∧ n0 ≤ w'.heap.size ∧ Blk w' L 125 (lgC R l) ∧ RK (fun x => A x ∨ n0 ≤ x) w' R (apR s l.f l.b l.nx t i).1 ∧ Chg A w w') (fun i => n - i) 0 ⟨rfl, rfl, rfl, rfl, rfl, rfl, trivial⟩
    ⟨Nat.zero_le _, rfl, by omega, hL, h.mono (fun x hx => .inl hx), hw⟩ ?_
   clear h hL hw
   rintro i w3 ⟨hi, hi0, hn3, hL, h, hw⟩
   obtain ⟨d1, d2, d3, d4, d5⟩ := apR_dn s l.f l.b l.nx t i
   have hdi : s.dn * i ≤ 16 * 500 := Nat.mul_le_mul (by omega) (by omega)
   replace h := h.old
   refine WC.sr (WL.qh rfl rfl rfl (fun h30 => ?_) (fun h30 => ?_))
   ·refine WL.t (WC.seq (WC.qb rfl (WC.skip (WX.qa (WC.seq (WC.block (WC.sr (WL.move rfl rfl (WL.assign rfl rfl (WL.t (WC.seq (WC.qc (Nob) [0, 1, 2, 3, 4, 5, 6, 7, 8, 9, 10, 11, 12, 13, 14, 15, 16, 17, 18, 19, 20] [21, 22] mixed rfl rfl (fun wd_1 kd_1 zd_1 => ?_)))))))))))))
    have zs_kd_1 := kd_1.size
    replace hL := hL.pure kd_1
    replace h := h.pure kd_1
    replace hw := hw.pure kd_1
    apply DQ.step [(0, _)] rfl ⟨rfl, trivial⟩ rfl (fun _ _ => WL.move rfl rfl  WL.q)
    apply DQ.step [(32, _)] rfl ⟨rfl, trivial⟩ rfl (fun _ _ => WL.nilCheck rfl rfl  WL.q)
    apply DQ.step [(33, _)] rfl ⟨rfl, trivial⟩ rfl (fun _ _ => WL.fieldAddr (fld_125_3) rfl rfl  WL.q)
    apply DQ.step [(34, _)] rfl ⟨rfl, trivial⟩ rfl
    ·intro wq_6 kq_6
     have zs_kq_6 := kq_6.size
     replace hL := hL.pure kq_6
     replace h := h.pure kq_6
     replace hw := hw.pure kq_6
     refine WL.qb Tryz.isAgg3 hL rfl rfl rfl (WL.q)
    apply DQ.step [(0, _)] rfl ⟨rfl, trivial⟩ rfl (fun _ _ => WL.move rfl rfl  WL.q)
    apply DQ.step [(36, _)] rfl ⟨rfl, trivial⟩ rfl (fun _ _ => WL.nilCheck rfl rfl  WL.q)
    apply DQ.step [(37, _)] rfl ⟨rfl, trivial⟩ rfl (fun _ _ => WL.fieldAddr (fld_125_4) rfl rfl  WL.q)
    apply DQ.step [(38, _)] rfl ⟨rfl, trivial⟩ rfl
    ·intro wq_10 kq_10
     have zs_kq_10 := kq_10.size
     replace hL := hL.pure kq_10
     replace h := h.pure kq_10
     replace hw := hw.pure kq_10
     refine WL.qb Tryz.isAgg3 hL rfl rfl rfl (WL.q)
    apply DQ.step [(7, _)] rfl ⟨rfl, trivial⟩ rfl (fun _ _ => WL.move rfl rfl  WL.q)
    apply DQ.step [(39, _), (40, _)] rfl ⟨rfl, rfl, trivial⟩ rfl (fun _ _ => WL.qe rfl rfl (by omega) rfl  WL.q)
    apply DQ.step [(1, _)] rfl ⟨rfl, trivial⟩ rfl (fun _ _ => WL.move rfl rfl  WL.q)
    apply DQ.step [(7, _)] rfl ⟨rfl, trivial⟩ rfl (fun _ _ => WL.move rfl rfl  WL.q)
    apply DQ.step [(43, _)] rfl ⟨rfl, trivial⟩ rfl (fun _ _ => WL.qy rfl rfl (by omega) rfl  WL.q)
    apply DQ.step [(7, _)] rfl ⟨rfl, trivial⟩ rfl (fun _ _ => WL.move rfl rfl  WL.q)
    apply DQ.step [(45, _)] rfl ⟨rfl, trivial⟩ rfl (fun _ _ => WL.qe rfl rfl (by omega) rfl  WL.q)
    apply DQ.step [(46, _)] rfl ⟨rfl, trivial⟩ rfl (fun _ _ => WL.qy rfl rfl (by omega) rfl  WL.q)
    apply DQ.step [(1, _)] rfl ⟨rfl, trivial⟩ rfl (fun _ _ => WL.move rfl rfl  WL.q)
    apply DQ.step [(48, _)] rfl ⟨rfl, trivial⟩ rfl
    ·intro wq_20 kq_20
     have zs_kq_20 := kq_20.size
     replace hL := hL.pure kq_20
     replace h := h.pure kq_20
     replace hw := hw.pure kq_20
     refine WL.qr Tryz.underlying9 rfl rfl (WL.q)
    apply DQ.step [(47, _), (49, _)] rfl ⟨rfl, rfl, trivial⟩ rfl
    ·intro wq_21 kq_21
     have zs_kq_21 := kq_21.size
     replace hL := hL.pure kq_21
     replace h := h.pure kq_21
     replace hw := hw.pure kq_21
     refine WL.mini rfl rfl rfl ?_
     rw [show (if (t.size : Int) < ((i : Int) + 1) * 56 then (t.size : Int) else ((i : Int) + 1) * 56) = ((min ((i + 1) * 56) t.size : Nat) : Int) from by split <;> omega]
     exact WL.q
    apply DQ.step [(42, _), (44, _), (50, _)] rfl ⟨rfl, rfl, rfl, trivial⟩ rfl
    ·intro wq_22 kq_22
     have zs_kq_22 := kq_22.size
     replace hL := hL.pure kq_22
     replace h := h.pure kq_22
     replace hw := hw.pure kq_22
     have hi56 : i * 56 ≤ min ((i + 1) * 56) t.size := by have := hnt.2.2; omega
     refine WL.qv (l := i * 56) (h := min ((i + 1) * 56) t.size) Tryz.underlying9 rfl (.inl rfl) (.inl rfl) (by constructor <;> omega) rfl ?_
     exact WL.q
    apply DQ.step [(35, _), (41, _), (51, _)] rfl ⟨rfl, rfl, rfl, trivial⟩ rfl (fun _ _ => WL.bld rfl (bld_127_0_1_3 _ _ _) rfl  WL.q)
    refine DQ.done (fun hd_2 => ?_)
    refine DL.step [] rfl trivial rfl (fun wq_24 kq_24 => ?_)
    have zs_kq_24 := kq_24.size
    replace hL := hL.pure kq_24
    replace h := h.pure kq_24
    replace hw := hw.pure kq_24
    replace hd_2 := hd_2.pure kq_24
    refine WL.alloc Tryz.zeroValue127 rfl ?_
    intro g_25 w_25 hge_25 hlt_25 hb_25 k_25
    have zs_k_25 := k_25.size
    replace hL := hL.pure k_25
    replace h := h.pure k_25
    replace hw := hw.pure k_25
    replace hd_2 := hd_2.pure k_25
    refine WL.nil (WX.one ⟨hd_2, ?_⟩)
    refine DL.step [(8, _), (52, _)] rfl ⟨rfl, rfl, trivial⟩ rfl (fun wq_26 kq_26 => ?_)
    have zs_kq_26 := kq_26.size
    replace hL := hL.pure kq_26
    replace h := h.pure kq_26
    replace hw := hw.pure kq_26
    replace hd_2 := hd_2.pure kq_26
    replace hb_25 := hb_25.pure kq_26
    refine WL.ql Tryz.sizeOf127 hb_25 rfl rfl (by simp; done) (by simp [Value.oneCell']; done) (by simp [Value.cells]; done) rfl ?_
    intro w_27 hs_27 hn_27 k_27
    have zs_k_27 := k_27.size
    replace hL := hL.chg k_27 (by intro h1; have h2 : _ = _ := h1; exfalso; omega)
    replace h := h.chg k_27 (by intro b h1 h2 h3; have h4 : _ = _ := h3; (try dsimp only at h2); exfalso; omega)
    replace hw := hw.chg k_27 (by intro x h1 h2; have h3 : _ = _ := h2; exfalso; omega)
    replace hd_2 := hd_2.chg k_27 (by intro x h1 h2; have h3 : _ = _ := h2; exfalso; omega)
    replace hb_25 := hn_27
    refine WL.nil (WX.qk (v := undef) ⟨hd_2, ?_⟩)
    refine DL.done (fun we_28 ke_28 => ?_)
    have zs_ke_28 := ke_28.size
    replace hL := hL.pure ke_28
    replace h := h.pure ke_28
    replace hw := hw.pure ke_28
    replace hd_2 := hd_2.pure ke_28
    replace hb_25 := hb_25.pure ke_28
    refine WX.qa (WC.seq (WC.sr (WL.move rfl rfl (WL.move rfl rfl (WL.qj rfl rfl (by omega) rfl (?_))))))
    refine WL.qi rfl rfl rfl (fun h56 => ?_) (fun h56 => ?_)
    ·refine WL.t (WC.qb rfl (WC.region (WL.fieldAddr fld_127_2 rfl rfl ?_)))
     refine WL.store Tryz.sizeOf3 hb_25 rfl rfl rfl rfl ?_
     intro w9 z9 hn9 k9
     replace h := h.chg k9 (fun b _ h1 (h2 : b = g_25) => by have := h1.2; omega)
     replace hL := hL.chg k9 (fun (h2 : L = g_25) => by omega)
     replace hw : Chg A w w9 := hw.trans k9 (fun b h1 (h2 : b = g_25) => by exfalso; omega)
     replace hb_25 := hn9
     refine WL.t (WC.sr (WL.move rfl rfl (?_)))
     have hb8 := Blk.eqc (cs' := epc.f (pcA l.b l.nx t i)) hb_25 (by
      show _ = [vi l.b, vi (l.nx + i), vi (if i + 1 = needN t then 1 else 0), .string (t.extract (i * 56) (min ((i + 1) * 56) t.size))]
      by_cases hlast : i + 1 = needN t
      ·rw [if_pos hlast]
       rfl
      ·rw [if_neg hlast]
       first
        |rfl
        |(exfalso; omega))
     refine WL.qw (epc.f (pcA l.b l.nx t i)) Tryz.isAgg127 Tryz.sizeOf127 rfl (fun j v hj => by rw [Nat.zero_add]; exact hb8.cell hj) rfl rfl ?_
     have hpr : RtC (pcA l.b l.nx t i) := pcA_right lb (by omega)
     have hnum : (pcA l.b l.nx t i).num = l.nx + i := rfl
     obtain ⟨s1, es1⟩ : ∃ s1, s1 = (apR s l.f l.b l.nx t i).1 := ⟨_, rfl⟩
     rw [← es1] at d1 d2 d3 d4 h
     refine WL.call eg_69 rfl rfl (pwrite_calls h (fun x hx => by omega) hL (fun hx => by rcases hx.1 with h8 | h8; exact hLA h8; omega) (by rw [d2]; exact hl) (pcA l.b l.nx t i) hpr (by rw [hnum]; omega) (by omega)) ?_
     rintro v w6 ⟨rfl, h6, k6⟩
     rw [hnum, d1] at h6 ⊢
     obtain ⟨X, eX⟩ : ∃ X, X = lwR s1 (l.f + (l.nx + i)) (secB (cit (pcA l.b l.nx t i))) s.dn := ⟨_, rfl⟩
     rw [← eX] at h6 ⊢
     have e1 : apR s l.f l.b l.nx t (i + 1) = if X.2.2 ≠ 0 then (X.1, (apR s l.f l.b l.nx t i).2.1, X.2.2) else (X.1, (apR s l.f l.b l.nx t i).2.1 + X.2.1, 0) := by
      rw [apR, if_neg (fun x => x hi0), ← es1, ← eX]
     obtain ⟨N9, eN9, bN9, fN9⟩ : ∃ N9 : Nat, (if X.2.2 = 0 then (X.2.1 : Int) else 0) = (N9 : Int) ∧ N9 ≤ 16 ∧ (X.2.2 = 0 → N9 = X.2.1) := by
      have hX : X.2.1 ≤ s.dn := by rw [eX]; exact (lwR_dn _ _ _ _).2.2.2.2
      by_cases hz : X.2.2 = 0
      ·exact ⟨X.2.1, by rw [if_pos hz], by omega, fun _ => rfl⟩
      ·exact ⟨0, by rw [if_neg hz]; rfl, by omega, fun h => absurd h hz⟩
     rw [eN9]
     have z6 := k6.size
     replace hL := hL.chg k6 (fun hx => by rcases hx.1 with h8 | h8; exact hLA h8; omega)
     replace hw : Chg A w w6 := hw.trans k6 (fun x h1 h2 => by rcases h2.1 with h4 | h4; exact h4; exfalso; omega)
     replace h6 := h6.mono (A' := fun x => A x ∨ n0 ≤ x) (fun x hx => by rcases hx with h7 | h7; exact h7.1; right; omega)
     refine WL.move rfl rfl (WL.extract rfl rfl rfl (WL.extract rfl rfl rfl (WL.assign rfl rfl (WL.assign rfl rfl (WL.t (WC.seq (WC.sr (WL.move rfl rfl (WL.qo rfl rfl rfl (fun h65 => ?_) (fun h65 => ?_))))))))))
     ·refine WL.t (WC.qb rfl (WC.sr (WL.move rfl rfl (WL.assign rfl rfl (WL.nil (WX.qa (WC.ret (WX.qb (WX.qe (WX.qb (WX.qb (WX.qe (WX.qb (WX.qg (.inl rfl) Tryz.results34 rfl ?_))))))))))))))
      have hz : X.2.2 ≠ 0 := h65
      rw [if_pos hz] at e1
      obtain ⟨f1, f2, f3⟩ := ap_stop (s := s) (l := l) (t := t) (i := i + 1) h0 (by omega) (by rw [e1]; exact hz)
      rw [f1, f2, f3, e1]
      exact ⟨_, rfl, rfl, h6.mono (fun x hx => by rcases hx with h7 | h7; exact .inl h7; right; omega), hL, hw.mono (fun x _ hx => .inl hx)⟩
     ·refine WL.t (WC.qa rfl (WC.skip (WX.qa (WC.region (WL.move rfl rfl (WL.move rfl rfl (WL.qe rfl rfl (by omega) rfl (WL.assign rfl rfl (WL.nil (WX.qc (WX.qa (WC.region (WL.qe rfl rfl (by omega) rfl (WL.move rfl rfl (?_)))))))))))))))
      refine WL.nil (?_)
      have hz : X.2.2 = 0 := h65
      rw [if_neg (fun x => x hz)] at e1
      have f6 : apR s l.f l.b l.nx t (i + 1) = (X.1, (apR s l.f l.b l.nx t i).2.1 + X.2.1, 0) := e1
      refine WX.qf (i + 1) ⟨rfl, rfl, rfl, ?_, rfl, rfl, trivial⟩ ⟨by omega, by rw [f6], by omega, hL, by rw [f6]; exact h6, hw⟩ (by show _ - _ < _ - _; omega)
      rw [f6, ← fN9 hz]
      rfl
    ·refine WL.t (WC.qa rfl (WC.skip (WX.qa (WC.sr (WL.move rfl rfl (?_))))))
     have hb8 := Blk.eqc (cs' := epc.f (pcA l.b l.nx t i)) hb_25 (by
      show _ = [vi l.b, vi (l.nx + i), vi (if i + 1 = needN t then 1 else 0), .string (t.extract (i * 56) (min ((i + 1) * 56) t.size))]
      by_cases hlast : i + 1 = needN t
      ·rw [if_pos hlast]
       exfalso; omega
      ·rw [if_neg hlast]
       first
        |rfl
        |(exfalso; omega))
     refine WL.qw (epc.f (pcA l.b l.nx t i)) Tryz.isAgg127 Tryz.sizeOf127 rfl (fun j v hj => by rw [Nat.zero_add]; exact hb8.cell hj) rfl rfl ?_
     have hpr : RtC (pcA l.b l.nx t i) := pcA_right lb (by omega)
     have hnum : (pcA l.b l.nx t i).num = l.nx + i := rfl
     obtain ⟨s1, es1⟩ : ∃ s1, s1 = (apR s l.f l.b l.nx t i).1 := ⟨_, rfl⟩
     rw [← es1] at d1 d2 d3 d4 h
     refine WL.call eg_69 rfl rfl (pwrite_calls h (fun x hx => by omega) hL (fun hx => by rcases hx.1 with h8 | h8; exact hLA h8; omega) (by rw [d2]; exact hl) (pcA l.b l.nx t i) hpr (by rw [hnum]; omega) (by omega)) ?_
     rintro v w6 ⟨rfl, h6, k6⟩
     rw [hnum, d1] at h6 ⊢
     obtain ⟨X, eX⟩ : ∃ X, X = lwR s1 (l.f + (l.nx + i)) (secB (cit (pcA l.b l.nx t i))) s.dn := ⟨_, rfl⟩
     rw [← eX] at h6 ⊢
     have e1 : apR s l.f l.b l.nx t (i + 1) = if X.2.2 ≠ 0 then (X.1, (apR s l.f l.b l.nx t i).2.1, X.2.2) else (X.1, (apR s l.f l.b l.nx t i).2.1 + X.2.1, 0) := by
      rw [apR, if_neg (fun x => x hi0), ← es1, ← eX]
     obtain ⟨N9, eN9, bN9, fN9⟩ : ∃ N9 : Nat, (if X.2.2 = 0 then (X.2.1 : Int) else 0) = (N9 : Int) ∧ N9 ≤ 16 ∧ (X.2.2 = 0 → N9 = X.2.1) := by
      have hX : X.2.1 ≤ s.dn := by rw [eX]; exact (lwR_dn _ _ _ _).2.2.2.2
      by_cases hz : X.2.2 = 0
      ·exact ⟨X.2.1, by rw [if_pos hz], by omega, fun _ => rfl⟩
      ·exact ⟨0, by rw [if_neg hz]; rfl, by omega, fun h => absurd h hz⟩
     rw [eN9]
     have z6 := k6.size
     replace hL := hL.chg k6 (fun hx => by rcases hx.1 with h8 | h8; exact hLA h8; omega)
     replace hw : Chg A w w6 := hw.trans k6 (fun x h1 h2 => by rcases h2.1 with h4 | h4; exact h4; exfalso; omega)
     replace h6 := h6.mono (A' := fun x => A x ∨ n0 ≤ x) (fun x hx => by rcases hx with h7 | h7; exact h7.1; right; omega)
     refine WL.move rfl rfl (WL.extract rfl rfl rfl (WL.extract rfl rfl rfl (WL.assign rfl rfl (WL.assign rfl rfl (WL.t (WC.seq (WC.sr (WL.move rfl rfl (WL.qo rfl rfl rfl (fun h65 => ?_) (fun h65 => ?_))))))))))
     ·refine WL.t (WC.qb rfl (WC.sr (WL.move rfl rfl (WL.assign rfl rfl (WL.nil (WX.qa (WC.ret (WX.qb (WX.qe (WX.qb (WX.qb (WX.qe (WX.qb (WX.qg (.inl rfl) Tryz.results34 rfl ?_))))))))))))))
      have hz : X.2.2 ≠ 0 := h65
      rw [if_pos hz] at e1
      obtain ⟨f1, f2, f3⟩ := ap_stop (s := s) (l := l) (t := t) (i := i + 1) h0 (by omega) (by rw [e1]; exact hz)
      rw [f1, f2, f3, e1]
      exact ⟨_, rfl, rfl, h6.mono (fun x hx => by rcases hx with h7 | h7; exact .inl h7; right; omega), hL, hw.mono (fun x _ hx => .inl hx)⟩
     ·refine WL.t (WC.qa rfl (WC.skip (WX.qa (WC.region (WL.move rfl rfl (WL.move rfl rfl (WL.qe rfl rfl (by omega) rfl (WL.assign rfl rfl (WL.nil (WX.qc (WX.qa (WC.region (WL.qe rfl rfl (by omega) rfl (WL.move rfl rfl (?_)))))))))))))))
      refine WL.nil (?_)
      have hz : X.2.2 = 0 := h65
      rw [if_neg (fun x => x hz)] at e1
      have f6 : apR s l.f l.b l.nx t (i + 1) = (X.1, (apR s l.f l.b l.nx t i).2.1 + X.2.1, 0) := e1
      refine WX.qf (i + 1) ⟨rfl, rfl, rfl, ?_, rfl, rfl, trivial⟩ ⟨by omega, by rw [f6], by omega, hL, by rw [f6]; exact h6, hw⟩ (by show _ - _ < _ - _; omega)
      rw [f6, ← fN9 hz]
      rfl
   ·refine WL.t (WC.seq (WC.qa rfl (WC.exit (WX.qd (WX.qd (WX.qh (WX.qa (WC.seq (WC.sr (WL.move rfl rfl (WL.qi rfl rfl rfl (fun h72 => ?_) (fun h72 => ?_))))))))))))
    ·refine WL.t (WC.qb rfl (WC.sr (WL.assign rfl rfl (WL.t (WC.ret (WX.qb (WX.qg (.inl rfl) Tryz.results34 rfl ?_)))))))
     have hin : i = needN t := by omega
     subst hin
     obtain ⟨f1, f2, f3⟩ := ap_end (s := s) (l := l) (t := t) h0 hi0
     have hmo := h.mono (A' := fun x => A x ∨ w.heap.size ≤ x) (fun x hx => by rcases hx.1 with h7 | h7; exact .inl h7; right; omega)
     by_cases hc : (apR s l.f l.b l.nx t (needN t)).2.1 = 0
     ·obtain ⟨f4, f5⟩ := f2 hc
      rw [f1, f4, f5]
      exact ⟨_, rfl, rfl, hmo, hL, hw.mono (fun x _ hx => .inl hx)⟩
     ·obtain ⟨f4, f5⟩ := f3 hc
      rw [f1, f4, f5]
      exfalso; omega
    ·refine WL.t (WC.qa rfl (WC.skip (WX.qa (WC.sr (WL.move rfl rfl (WL.nilCheck rfl rfl (WL.fieldAddr (fld_125_4) rfl rfl (WL.qb Tryz.isAgg3 hL rfl rfl rfl (WL.move rfl rfl (WL.qe rfl rfl (by omega) rfl (WL.nilCheck rfl rfl (?_))))))))))))
     refine WL.fieldAddr fld_125_4 rfl rfl (WL.store Tryz.sizeOf3 hL rfl rfl rfl rfl ?_)
     intro w9 z9 hn9 k9
     replace h := h.chg k9 (fun b _ h1 (h2 : b = L) => by subst h2; rcases h1.1 with h8 | h8; exact hLA h8; omega)
     have hw2 : Chg (fun x => A x ∨ x = L) w w9 := (hw.mono (fun x _ hx => .inl hx)).trans k9 (fun b h1 h2 => .inr h2)
     replace hL := hn9
     refine WL.t (WC.sr (WL.assign rfl rfl (WL.t (WC.ret (WX.qg (.inl rfl) Tryz.results34 rfl ?_)))))
     have hin : i = needN t := by omega
     subst hin
     obtain ⟨f1, f2, f3⟩ := ap_end (s := s) (l := l) (t := t) h0 hi0
     have hmo := h.mono (A' := fun x => A x ∨ w.heap.size ≤ x) (fun x hx => by rcases hx.1 with h7 | h7; exact .inl h7; right; omega)
     by_cases hc : (apR s l.f l.b l.nx t (needN t)).2.1 = 0
     ·obtain ⟨f4, f5⟩ := f2 hc
      rw [f1, f4, f5]
      exfalso; omega
     ·obtain ⟨f4, f5⟩ := f3 hc
      rw [f1, f4, f5]
      exact ⟨_, rfl, rfl, hmo, Blk.eqc (cs' := lgC R { l with nx := l.nx + needN t }) hL (by rw [← en]; rfl), hw2⟩
end Go.Proofs.YtjeldcjchipdgaaGreatDoor
namespace Go.Proofs.YtjeldcjchipdgaaGreatDoor
open Go.RowKit Go.HL
set_option maxRecDepth 100000
theorem dsector2_calls (p : PcV) (hp : WfC p) (w : World) {b n k : Int} {t : ByteArray} (h : p = ⟨b, n, k, t⟩) : Calls Tryz.prog 76 [vi b, vi n, vi k, .string t].toArray w (Ret fun v w' => v = .string (bs (secB (cit p))) ∧ Chg Nob w w') := by
 subst h
 exact dsector_calls _ hp w
set_option maxHeartbeats 8000000 in
theorem dappend_in {A : Nat → Prop} {w : World} {D L : Nat} {s : RA} {l : LgV} (h : RD A w D s) (hA : ∀ x, A x → x < w.heap.size) (hL : Blk w L 81 (lgC D l)) (hLA : ¬ A L) (hl : l.ok s.sn) (t : ByteArray) (ht : t.size ≤ 140737488351232) (hw9 : s.waits.length ≤ 80000) :
 Calls Tryz.prog 40 [ptr L, .string t].toArray w (Ret fun v w' => v = vi (apE s l t) ∧ RD (fun x => A x ∨ (w.heap.size ≤ x)) w' D (apS s l t) ∧ Blk w' L 81 (lgC D (apL s l t)) ∧ Chg (fun x => A x ∨ x = L) w w') := by
 have hw := Chg.refl A w
 have hdn := h.ok.dn
 have hsn := h.ok.sn
 have lf := hl.f
 have lc := hl.c
 have lb := hl.b
 have lnx := hl.nx
 have lin := hl.in_
 have hLl := hL.lt
 have hn1 := needN_pos t
 have hnt : (needN t : Int) * 56 ≤ t.size + 112 ∧ (t.size : Int) ≤ needN t * 56 ∧ (needN t ≠ 1 → ((needN t : Int) - 1) * 56 < t.size) := by unfold needN; omega
 obtain ⟨n, en⟩ : ∃ n, n = needN t := ⟨_, rfl⟩
 refine Calls.of_WC Tryz.func40 rfl Tryz.ntmps40 (by simp) ?_
 refine WC.sr (WL.assign rfl rfl (WL.t (WC.sr (WL.move rfl rfl (WL.call eg_43 rfl rfl (dneed_calls t _ ht) ?_)))))
 rintro v w1 ⟨rfl, k1⟩
 rw [← en]
 have zs_k1 := k1.size
 replace h := h.pure k1
 replace hL := hL.pure k1
 replace hw := hw.pure k1
 refine WL.assign rfl rfl (WL.t (WC.seq (WC.sr (WL.move rfl rfl (WL.move rfl rfl (WL.nilCheck rfl rfl (WL.fieldAddr (fld_81_2) rfl rfl (WL.qb Tryz.isAgg3 hL rfl rfl rfl (WL.qn rfl rfl rfl (fun h20 => ?_) (fun h20 => ?_))))))))))
 ·refine WL.t (WC.qb rfl (WC.sr (WL.assign rfl rfl (WL.t (WC.ret (WX.qb (WX.qg (.inl rfl) Tryz.results40 rfl ?_)))))))
  have hz : l.c < (n : Int) := h20
  obtain ⟨e1, e2, e3⟩ := ap_no (s := s) (l := l) (t := t) (by rw [apE0, if_pos (by omega)]; decide)
  have e4 : apE0 l t = 14 := by rw [apE0, if_pos (by omega)]
  rw [e1, e2, e3, e4]
  exact ⟨_, rfl, rfl, h.mono (fun x hx => .inl hx), hL, hw.mono (fun x _ hx => .inl hx)⟩
 ·refine WL.t (WC.qa rfl (WC.skip (WX.qa (WC.seq (WC.seq (WC.qc (Nob) [0, 1, 2, 3, 4, 5, 6, 7, 8, 9, 10] [] mixed rfl rfl (fun wd_1 kd_1 zd_1 => ?_)))))))
  have zs_kd_1 := kd_1.size
  replace h := h.pure kd_1
  replace hL := hL.pure kd_1
  replace hw := hw.pure kd_1
  apply DQ.step [(5, _)] rfl ⟨rfl, trivial⟩ rfl (fun _ _ => WL.move rfl rfl  WL.q)
  apply DQ.step [(0, _)] rfl ⟨rfl, trivial⟩ rfl (fun _ _ => WL.move rfl rfl  WL.q)
  apply DQ.step [(22, _)] rfl ⟨rfl, trivial⟩ rfl (fun _ _ => WL.nilCheck rfl rfl  WL.q)
  apply DQ.step [(23, _)] rfl ⟨rfl, trivial⟩ rfl (fun _ _ => WL.fieldAddr (fld_81_2) rfl rfl  WL.q)
  apply DQ.step [(24, _)] rfl ⟨rfl, trivial⟩ rfl
  ·intro wq_6 kq_6
   have zs_kq_6 := kq_6.size
   replace h := h.pure kq_6
   replace hL := hL.pure kq_6
   replace hw := hw.pure kq_6
   refine WL.qb Tryz.isAgg3 hL rfl rfl rfl (WL.q)
  apply DQ.step [(0, _)] rfl ⟨rfl, trivial⟩ rfl (fun _ _ => WL.move rfl rfl  WL.q)
  apply DQ.step [(26, _)] rfl ⟨rfl, trivial⟩ rfl (fun _ _ => WL.nilCheck rfl rfl  WL.q)
  apply DQ.step [(27, _)] rfl ⟨rfl, trivial⟩ rfl (fun _ _ => WL.fieldAddr (fld_81_4) rfl rfl  WL.q)
  apply DQ.step [(28, _)] rfl ⟨rfl, trivial⟩ rfl
  ·intro wq_10 kq_10
   have zs_kq_10 := kq_10.size
   replace h := h.pure kq_10
   replace hL := hL.pure kq_10
   replace hw := hw.pure kq_10
   refine WL.qb Tryz.isAgg3 hL rfl rfl rfl (WL.q)
  apply DQ.step [(25, _), (29, _)] rfl ⟨rfl, rfl, trivial⟩ rfl (fun _ _ => WL.qj rfl rfl (by omega) rfl  WL.q)
  apply DQ.split (E' := [(21, _), (30, _)])
  case ho => rfl
  case hs => exact ⟨rfl, rfl, trivial⟩
  case hk => rfl
  case h1 =>
   intro wq_12 kq_12
   refine WL.gtr rfl rfl rfl (WL.q)
  case ht =>
   intro h31
   replace h31 := of_decide_eq_true h31
   refine DQ.done (fun _ => ?_)
   refine DL.done (fun we_13 ke_13 => ?_)
   have zs_ke_13 := ke_13.size
   replace h := h.pure ke_13
   replace hL := hL.pure ke_13
   replace hw := hw.pure ke_13
   refine WX.qa (WC.qb rfl (WC.sr (WL.assign rfl rfl (WL.t (WC.ret (WX.qb (WX.qg (.inl rfl) Tryz.results40 rfl ?_)))))))
   have hz : l.c - l.nx < (n : Int) := h31
   have e4 : apE0 l t = 5 := by rw [apE0, if_neg (by omega), if_pos (by omega)]
   obtain ⟨e1, e2, e3⟩ := ap_no (s := s) (l := l) (t := t) (by rw [e4]; decide)
   rw [e1, e2, e3, e4]
   exact ⟨_, rfl, rfl, h.mono (fun x hx => .inl hx), hL, hw.mono (fun x _ hx => .inl hx)⟩
  case hf =>
   intro h31
   replace h31 := of_decide_eq_false h31
   refine DQ.done (fun _ => ?_)
   refine DL.done (fun we_13 ke_13 => ?_)
   have zs_ke_13 := ke_13.size
   replace h := h.pure ke_13
   replace hL := hL.pure ke_13
   replace hw := hw.pure ke_13
   refine WX.qa (WC.qa rfl (WC.skip (WX.qa (WC.sr (WL.assign rfl rfl (WL.nil (WX.qa (WC.seq (WC.sr (WL.assign rfl rfl (WL.t (WC.block (?_)))))))))))))
   have h0 : apE0 l t = 0 := by rw [apE0, if_neg (by omega), if_neg (by omega)]
   have hnc : n ≤ 500 := by omega
   obtain ⟨n0, en0⟩ : ∃ n0, n0 = w1.heap.size := ⟨_, rfl⟩
   have hzw : w.heap.size ≤ n0 := by have := k1.size; omega
   have hLA2 : ¬ (A L ∨ n0 ≤ L) := fun h9 => by rcases h9 with h8 | h8; exact hLA h8; omega
   refine WC.loop (σ := Nat) (fun i => [(0, ptr L), (1, .string t), (5, vi (n : Int)), (6, vi ((apR s l.f l.b l.nx t i).2.1 : Int)), (7, vi (i : Int))])
    (fun i w' => i ≤ n ∧ (apR s l.f l.b l.nx t i).2.2 = 0 ∧ n0 ≤ w'.heap.size ∧ Blk w' L 81 (lgC D l) ∧ RD (fun x => A x ∨ n0 ≤ x) w' D (apR s l.f l.b l.nx t i).1 ∧ Chg A w w') (fun i => n - i) 0 ⟨rfl, rfl, rfl, rfl, rfl, trivial⟩
    ⟨Nat.zero_le _, rfl, by omega, hL, h.mono (fun x hx => .inl hx), hw⟩ ?_
   clear h hL hw
   rintro i w3 ⟨hi, hi0, hn3, hL, h, hw⟩
   obtain ⟨d1, d2, d3, d4, d5⟩ := apR_dn s l.f l.b l.nx t i
   have hdi : s.dn * i ≤ 16 * 500 := Nat.mul_le_mul (by omega) (by omega)
   obtain ⟨s1, es1⟩ : ∃ s1, s1 = (apR s l.f l.b l.nx t i).1 := ⟨_, rfl⟩
   rw [← es1] at d1 d2 d3 d4 h
   refine WC.seq (WC.sr (WL.move rfl rfl (WL.move rfl rfl (WL.qh rfl rfl rfl (fun h34 => ?_) (fun h34 => ?_)))))
   ·refine WL.t (WC.qb rfl (WC.skip (WX.qa (WC.seq (WC.block (WC.seq (WC.region (WL.move rfl rfl (WL.qe rfl rfl (by omega) rfl (WL.qy rfl rfl (by omega) rfl (WL.assign rfl rfl (WL.assign rfl rfl (WL.t (?_))))))))))))))
    refine WC.seq (WC.sr (WL.move rfl rfl (WL.move rfl rfl (WL.qj rfl rfl (by omega) rfl (?_)))))
    refine WL.qi rfl rfl rfl (fun h43 => ?_) (fun h43 => ?_)
    ·refine WL.t (WC.qb rfl (WC.region (WL.move rfl rfl (WL.qr Tryz.underlying9 rfl rfl (WL.assign rfl rfl (WL.assign rfl rfl (WL.t (WC.seq (?_)))))))))
     have hpr : RtC (pcA l.b l.nx t i) := pcA_right lb (by omega)
     refine WC.drawP (Nob) [0, 1, 2, 3, 4, 5, 6, 7, 8, 9, 10, 11, 12, 13, 14, 15] [(16, [17])] mixed rfl rfl (fun wd_14 kd_14 zd_14 => ?_)
     have zs_kd_14 := kd_14.size
     replace hL := hL.pure kd_14
     replace h := h.pure kd_14
     replace hw := hw.pure kd_14
     apply DPQ.step (E' := [(0, _)])
     case ho => rfl
     case hs => exact ⟨rfl, trivial⟩
     case hk => rfl
     case h1 =>
      intro wq_15 kq_15
      refine WL.move rfl rfl (WL.q)
     apply DPQ.step (E' := [(46, _)])
     case ho => rfl
     case hs => exact ⟨rfl, trivial⟩
     case hk => rfl
     case h1 =>
      intro wq_16 kq_16
      refine WL.nilCheck rfl rfl (WL.q)
     apply DPQ.step (E' := [(47, _)])
     case ho => rfl
     case hs => exact ⟨rfl, trivial⟩
     case hk => rfl
     case h1 =>
      intro wq_17 kq_17
      refine WL.fieldAddr (fld_81_3) rfl rfl (WL.q)
     apply DPQ.step (E' := [(48, _)])
     case ho => rfl
     case hs => exact ⟨rfl, trivial⟩
     case hk => rfl
     case h1 =>
      intro wq_18 kq_18
      have zs_kq_18 := kq_18.size
      replace hL := hL.pure kq_18
      replace h := h.pure kq_18
      replace hw := hw.pure kq_18
      refine WL.qb Tryz.isAgg3 hL rfl rfl rfl (WL.q)
     apply DPQ.step (E' := [(0, _)])
     case ho => rfl
     case hs => exact ⟨rfl, trivial⟩
     case hk => rfl
     case h1 =>
      intro wq_19 kq_19
      refine WL.move rfl rfl (WL.q)
     apply DPQ.step (E' := [(50, _)])
     case ho => rfl
     case hs => exact ⟨rfl, trivial⟩
     case hk => rfl
     case h1 =>
      intro wq_20 kq_20
      refine WL.nilCheck rfl rfl (WL.q)
     apply DPQ.step (E' := [(51, _)])
     case ho => rfl
     case hs => exact ⟨rfl, trivial⟩
     case hk => rfl
     case h1 =>
      intro wq_21 kq_21
      refine WL.fieldAddr (fld_81_4) rfl rfl (WL.q)
     apply DPQ.step (E' := [(52, _)])
     case ho => rfl
     case hs => exact ⟨rfl, trivial⟩
     case hk => rfl
     case h1 =>
      intro wq_22 kq_22
      have zs_kq_22 := kq_22.size
      replace hL := hL.pure kq_22
      replace h := h.pure kq_22
      replace hw := hw.pure kq_22
      refine WL.qb Tryz.isAgg3 hL rfl rfl rfl (WL.q)
     apply DPQ.step (E' := [(7, _)])
     case ho => rfl
     case hs => exact ⟨rfl, trivial⟩
     case hk => rfl
     case h1 =>
      intro wq_23 kq_23
      refine WL.move rfl rfl (WL.q)
     apply DPQ.step (E' := [(53, _), (54, _)])
     case ho => rfl
     case hs => exact ⟨rfl, rfl, trivial⟩
     case hk => rfl
     case h1 =>
      intro wq_24 kq_24
      refine WL.qe rfl rfl (by omega) rfl (?_)
      exact WL.q
     apply DPQ.step (E' := [(8, _)])
     case ho => rfl
     case hs => exact ⟨rfl, trivial⟩
     case hk => rfl
     case h1 =>
      intro wq_25 kq_25
      refine WL.move rfl rfl (WL.q)
     apply DPQ.step (E' := [(1, _)])
     case ho => rfl
     case hs => exact ⟨rfl, trivial⟩
     case hk => rfl
     case h1 =>
      intro wq_26 kq_26
      refine WL.move rfl rfl (WL.q)
     apply DPQ.step (E' := [(7, _)])
     case ho => rfl
     case hs => exact ⟨rfl, trivial⟩
     case hk => rfl
     case h1 =>
      intro wq_27 kq_27
      refine WL.move rfl rfl (WL.q)
     apply DPQ.step (E' := [(58, _)])
     case ho => rfl
     case hs => exact ⟨rfl, trivial⟩
     case hk => rfl
     case h1 =>
      intro wq_28 kq_28
      refine WL.qy rfl rfl (by omega) rfl (?_)
      exact WL.q
     apply DPQ.step (E' := [(9, _)])
     case ho => rfl
     case hs => exact ⟨rfl, trivial⟩
     case hk => rfl
     case h1 =>
      intro wq_29 kq_29
      refine WL.move rfl rfl ?_
      rw [show (t.size : Int) = ((min ((i + 1) * 56) t.size : Nat) : Int) from by omega]
      exact WL.q
     apply DPQ.step (E' := [(57, _), (59, _), (60, _)])
     case ho => rfl
     case hs => exact ⟨rfl, rfl, rfl, trivial⟩
     case hk => rfl
     case h1 =>
      intro wq_30 kq_30
      have zs_kq_30 := kq_30.size
      replace hL := hL.pure kq_30
      replace h := h.pure kq_30
      replace hw := hw.pure kq_30
      have hi56 : i * 56 ≤ min ((i + 1) * 56) t.size := by have := hnt.2.2; omega
      refine WL.qv (l := i * 56) (h := min ((i + 1) * 56) t.size) Tryz.underlying9 rfl (.inl rfl) (.inl rfl) (by constructor <;> omega) rfl ?_
      exact WL.q
     refine DPQ.done (DPR.step [(49, _), (55, _), (56, _), (61, _)] rfl ⟨rfl, rfl, rfl, rfl, trivial⟩ rfl (fun wq_31 kq_31 => ?_))
     have zs_kq_31 := kq_31.size
     replace hL := hL.pure kq_31
     replace h := h.pure kq_31
     replace hw := hw.pure kq_31
     have hd_31 := Chg.refl (Nob) wq_31
     refine WL.call eg_76 rfl rfl (dsector2_calls (pcA l.b l.nx t i) hpr.wf _ (by show (⟨l.b, l.nx + i, if i + 1 = needN t then 1 else 0, t.extract (i * 56) (min ((i + 1) * 56) t.size)⟩ : PcV) = _; first | rw [if_pos (by omega)] | rw [if_neg (by omega)])) ?_
     rintro v w4 ⟨rfl, k4⟩
     have zs_k4 := k4.size
     replace hL := hL.pure k4
     replace h := h.pure k4
     replace hw := hw.pure k4
     replace hd_31 := hd_31.pure k4
     refine WL.nil (WX.one ⟨hd_31, ?_⟩)
     apply DPQ.step (E' := [(62, _)])
     case ho => rfl
     case hs => exact ⟨rfl, trivial⟩
     case hk => rfl
     case h1 =>
      intro wq_32 kq_32
      refine WL.assign rfl rfl (WL.q)
     refine DPQ.done (DPR.done (fun we_33 ke_33 => ?_))
     have zs_ke_33 := ke_33.size
     replace hL := hL.pure ke_33
     replace h := h.pure ke_33
     replace hw := hw.pure ke_33
     refine WX.qa (WC.sr (WL.assign rfl rfl (WL.t (WC.block (?_)))))
     obtain ⟨B, eB⟩ : ∃ B, B = secB (cit (pcA l.b l.nx t i)) := ⟨_, rfl⟩
     have hB1 : B.length = 128 := by rw [eB]; exact pc_128 hpr
     rw [← eB]
     obtain ⟨at_, eat⟩ : ∃ a : Int, a = l.f + l.nx + i := ⟨_, rfl⟩
     have eat2 : l.f + (l.nx + i) = at_ := by omega
     have e1 : apR s l.f l.b l.nx t (i + 1) = if (lwR s1 at_ B s.dn).2.2 ≠ 0 then ((lwR s1 at_ B s.dn).1, (apR s l.f l.b l.nx t i).2.1, (lwR s1 at_ B s.dn).2.2) else ((lwR s1 at_ B s.dn).1, (apR s l.f l.b l.nx t i).2.1 + (lwR s1 at_ B s.dn).2.1, 0) := by
      rw [apR, if_neg (fun x => x hi0), ← es1, eat2, ← eB]
     obtain ⟨q0, eq0⟩ : ∃ q0, q0 = (apR s l.f l.b l.nx t i).2.1 := ⟨_, rfl⟩
     rw [← eq0] at d5 e1 ⊢
     refine WC.loop (σ := Nat) (fun d => [(0, ptr L), (1, .string t), (5, vi (n : Int)), (6, vi ((q0 + (lwR s1 at_ B d).2.1 : Nat) : Int)), (7, vi (i : Int)), (10, .string (bs B)), (11, vi (d : Int))])
      (fun d w' => d ≤ s.dn ∧ (lwR s1 at_ B d).2.2 = 0 ∧ n0 ≤ w'.heap.size ∧ Blk w' L 81 (lgC D l) ∧ RD (fun x => A x ∨ n0 ≤ x) w' D (lwR s1 at_ B d).1 ∧ Chg A w w') (fun d => s.dn - d) 0 ⟨rfl, rfl, rfl, rfl, rfl, rfl, rfl, trivial⟩
      ⟨Nat.zero_le _, rfl, by omega, hL, h, hw⟩ ?_
     clear h hL hw
     rintro d w6 ⟨hd, hd0, hn6, hL, h, hw⟩
     obtain ⟨y1, y2, y3, y4, y5⟩ := lwR_dn s1 at_ B d
     obtain ⟨la, lc2, ls, ga, gc, wa, wc, hB, hI⟩ := h.ex
     refine WC.seq (WC.sr (WL.move rfl rfl (WL.move rfl rfl (WL.nilCheck rfl rfl (WL.fieldAddr (fld_81_0) rfl rfl (WL.qb Tryz.isAgg29 hL rfl rfl rfl (WL.nilCheck rfl rfl ?_)))))))
     refine WL.fieldAddr (fld_87_0) rfl rfl (WL.qb Tryz.isAgg83 hB rfl rfl rfl (WL.len Tryz.underlying83 rfl rfl ?_))
     rw [y1, d1]
     refine WL.qh rfl rfl rfl (fun h72 => ?_) (fun h72 => ?_)
     ·refine WL.t (WC.qb rfl (WC.skip (WX.qa (WC.seq (WC.block (WC.seq (WC.drawP ((fun x => (A x ∨ n0 ≤ x) ∧ x ≠ L)) [0, 1, 2, 3, 4, 5, 6, 7, 8, 9, 10, 11, 12, 13, 14, 15, 16] [(17, [18])] mixed rfl rfl (fun wd_34 kd_34 zd_34 => ?_))))))))
      have zs_kd_34 := kd_34.size
      replace hL := hL.pure kd_34
      replace h := h.pure kd_34
      replace hw := hw.pure kd_34
      apply DPQ.step (E' := [(0, _)])
      case ho => rfl
      case hs => exact ⟨rfl, trivial⟩
      case hk => rfl
      case h1 =>
       intro wq_35 kq_35
       refine WL.move rfl rfl (WL.q)
      apply DPQ.step (E' := [(75, _)])
      case ho => rfl
      case hs => exact ⟨rfl, trivial⟩
      case hk => rfl
      case h1 =>
       intro wq_36 kq_36
       refine WL.nilCheck rfl rfl (WL.q)
      apply DPQ.step (E' := [(76, _)])
      case ho => rfl
      case hs => exact ⟨rfl, trivial⟩
      case hk => rfl
      case h1 =>
       intro wq_37 kq_37
       refine WL.fieldAddr (fld_81_0) rfl rfl (WL.q)
      apply DPQ.step (E' := [(77, _)])
      case ho => rfl
      case hs => exact ⟨rfl, trivial⟩
      case hk => rfl
      case h1 =>
       intro wq_38 kq_38
       have zs_kq_38 := kq_38.size
       replace hL := hL.chg kq_38 (by intro h1; exfalso; have h4 := h1.2; (try dsimp only at *); omega)
       refine WL.qb Tryz.isAgg29 hL rfl rfl rfl (WL.q)
      apply DPQ.step (E' := [(11, _)])
      case ho => rfl
      case hs => exact ⟨rfl, trivial⟩
      case hk => rfl
      case h1 =>
       intro wq_39 kq_39
       refine WL.move rfl rfl (WL.q)
      apply DPQ.step (E' := [(0, _)])
      case ho => rfl
      case hs => exact ⟨rfl, trivial⟩
      case hk => rfl
      case h1 =>
       intro wq_40 kq_40
       refine WL.move rfl rfl (WL.q)
      apply DPQ.step (E' := [(80, _)])
      case ho => rfl
      case hs => exact ⟨rfl, trivial⟩
      case hk => rfl
      case h1 =>
       intro wq_41 kq_41
       refine WL.nilCheck rfl rfl (WL.q)
      apply DPQ.step (E' := [(81, _)])
      case ho => rfl
      case hs => exact ⟨rfl, trivial⟩
      case hk => rfl
      case h1 =>
       intro wq_42 kq_42
       refine WL.fieldAddr (fld_81_1) rfl rfl (WL.q)
      apply DPQ.step (E' := [(82, _)])
      case ho => rfl
      case hs => exact ⟨rfl, trivial⟩
      case hk => rfl
      case h1 =>
       intro wq_43 kq_43
       have zs_kq_43 := kq_43.size
       replace hL := hL.chg kq_43 (by intro h1; exfalso; have h4 := h1.2; (try dsimp only at *); omega)
       refine WL.qb Tryz.isAgg3 hL rfl rfl rfl (WL.q)
      apply DPQ.step (E' := [(0, _)])
      case ho => rfl
      case hs => exact ⟨rfl, trivial⟩
      case hk => rfl
      case h1 =>
       intro wq_44 kq_44
       refine WL.move rfl rfl (WL.q)
      apply DPQ.step (E' := [(84, _)])
      case ho => rfl
      case hs => exact ⟨rfl, trivial⟩
      case hk => rfl
      case h1 =>
       intro wq_45 kq_45
       refine WL.nilCheck rfl rfl (WL.q)
      apply DPQ.step (E' := [(85, _)])
      case ho => rfl
      case hs => exact ⟨rfl, trivial⟩
      case hk => rfl
      case h1 =>
       intro wq_46 kq_46
       refine WL.fieldAddr (fld_81_4) rfl rfl (WL.q)
      apply DPQ.step (E' := [(86, _)])
      case ho => rfl
      case hs => exact ⟨rfl, trivial⟩
      case hk => rfl
      case h1 =>
       intro wq_47 kq_47
       have zs_kq_47 := kq_47.size
       replace hL := hL.chg kq_47 (by intro h1; exfalso; have h4 := h1.2; (try dsimp only at *); omega)
       refine WL.qb Tryz.isAgg3 hL rfl rfl rfl (WL.q)
      apply DPQ.step (E' := [(83, _), (87, _)])
      case ho => rfl
      case hs => exact ⟨rfl, rfl, trivial⟩
      case hk => rfl
      case h1 =>
       intro wq_48 kq_48
       refine WL.qe rfl rfl (by omega) rfl (?_)
       exact WL.q
      apply DPQ.step (E' := [(7, _)])
      case ho => rfl
      case hs => exact ⟨rfl, trivial⟩
      case hk => rfl
      case h1 =>
       intro wq_49 kq_49
       refine WL.move rfl rfl (WL.q)
      apply DPQ.step (E' := [(88, _), (89, _)])
      case ho => rfl
      case hs => exact ⟨rfl, rfl, trivial⟩
      case hk => rfl
      case h1 =>
       intro wq_50 kq_50
       refine WL.qe rfl rfl (by omega) rfl (?_)
       exact WL.q
      apply DPQ.step (E' := [(10, _)])
      case ho => rfl
      case hs => exact ⟨rfl, trivial⟩
      case hk => rfl
      case h1 =>
       intro wq_51 kq_51
       refine WL.move rfl rfl (WL.q)
      refine DPQ.done (DPR.step [(78, _), (79, _), (90, _), (91, _)] rfl ⟨rfl, rfl, rfl, rfl, trivial⟩ rfl (fun wq_52 kq_52 => ?_))
      have zs_kq_52 := kq_52.size
      replace hL := hL.pure kq_52
      replace h := h.pure kq_52
      replace hw := hw.pure kq_52
      have hd_52 := Chg.refl ((fun x => (A x ∨ n0 ≤ x) ∧ x ≠ L)) wq_52
      rw [← eat]
      have hn9 : (lwR s1 at_ B d).1.waits.length ≤ 1000000 := by omega
      have hin : inS (lwR s1 at_ B d).1 (d : Int) at_ := by unfold inS; rw [y1, y2, d1, d2]; omega
      have hwi := writeE_in hin
      refine WL.call eg_23 rfl rfl (dWrite_calls h hn9 d at_ B) ?_
      rintro v w7 ⟨rfl, h7, k7⟩
      rw [hB1]
      have z7 := k7.size
      replace h7 : RD (fun x => A x ∨ n0 ≤ x) w7 D (writeS (lwR s1 at_ B d).1 d at_ B) := h7.mono (fun x hx => by rcases hx with h8 | h8; exact h8; right; omega)
      have hw7 : Chg A w w7 := hw.trans k7 (fun x h1 h2 => by rcases h2 with h4 | h4; exact h4; exfalso; omega)
      have k8 := k7.mono (M' := fun x => (A x ∨ n0 ≤ x) ∧ x ≠ L) (fun x _ m => ⟨m, fun e => hLA2 (e ▸ m)⟩)
      have zs_k8 := k8.size
      replace hL := hL.chg k8 (by intro h1; exfalso; have h4 := h1.2; (try dsimp only at *); omega)
      replace hd_52 := hd_52.chg k8 (by intro x h1 h2; exact h2)
      refine WL.nil (WX.one ⟨hd_52, ?_⟩)
      apply DPQ.step (E' := [(92, _)])
      case ho => rfl
      case hs => exact ⟨rfl, trivial⟩
      case hk => rfl
      case h1 =>
       intro wq_53 kq_53
       refine WL.assign rfl rfl (WL.q)
      refine DPQ.done (DPR.done (fun we_54 ke_54 => ?_))
      have zs_ke_54 := ke_54.size
      replace hL := hL.pure ke_54
      replace h7 := h7.pure ke_54
      replace hw7 := hw7.pure ke_54
      refine WX.qa (WC.seq (WC.sr (WL.move rfl rfl (WL.qi rfl rfl rfl (fun h94 => ?_) (fun h94 => ?_)))))
      ·refine WL.t (WC.qb rfl (WC.sr (WL.move rfl rfl (WL.assign rfl rfl (WL.nil (WX.qa (WC.ret (WX.qb (WX.qe (WX.qb (WX.qb (WX.qe (WX.qe (WX.qb (WX.qb (WX.qe (WX.qb (WX.qg (.inl rfl) Tryz.results40 rfl ?_))))))))))))))))))
       have hz : writeE (lwR s1 at_ B d).1 d at_ 128 = 16 := h94
       have f1 : lwR s1 at_ B (d + 1) = (writeS (lwR s1 at_ B d).1 d at_ B, 0, 16) := by
        rw [lwR, if_neg (fun h9 => h9 hd0), hB1, hz, if_neg (by decide), if_neg (by decide)]
       have f2 : lwR s1 at_ B s.dn = lwR s1 at_ B (d + 1) := by
        have := lwR_stuck (s0 := s1) (at_ := at_) (B := B) (k := d + 1) (by rw [f1]; show (16 : Int) ≠ 0; decide) (s.dn - (d + 1))
        rw [show d + 1 + (s.dn - (d + 1)) = s.dn from by omega] at this
        exact this
       rw [f2, f1] at e1
       dsimp only at e1
       rw [if_pos (by decide)] at e1
       obtain ⟨g1, g2, g3⟩ := ap_stop (s := s) (l := l) (t := t) (i := i + 1) h0 (by omega) (by rw [e1]; show (16 : Int) ≠ 0; decide)
       rw [g1, g2, g3, e1, hz]
       exact ⟨_, rfl, rfl, h7.mono (fun x hx => by rcases hx with h8 | h8; exact .inl h8; right; omega), hL, hw7.mono (fun x _ hx => .inl hx)⟩
      ·refine WL.t (WC.qa rfl (WC.skip (WX.qa (WC.sr (WL.move rfl rfl (WL.qi rfl rfl rfl (fun h97 => ?_) (fun h97 => ?_)))))))
       ·refine WL.t (WC.qb rfl (WC.region (WL.move rfl rfl (WL.qe rfl rfl (by omega) rfl (WL.assign rfl rfl (WL.nil (?_)))))))
        refine WX.qc (WX.qa (WC.region (WL.move rfl rfl (WL.qe rfl rfl (by omega) rfl (WL.assign rfl rfl (WL.nil (?_)))))))
        have hz : writeE (lwR s1 at_ B d).1 d at_ 128 = 0 := h97
        have f1 : lwR s1 at_ B (d + 1) = (writeS (lwR s1 at_ B d).1 d at_ B, (lwR s1 at_ B d).2.1 + 1, 0) := by
         rw [lwR, if_neg (fun h9 => h9 hd0), hB1, if_pos hz]
        refine WX.qf (d + 1) ⟨rfl, rfl, rfl, ?_, rfl, rfl, rfl, trivial⟩ ⟨by omega, by rw [f1], by omega, hL, by rw [f1]; exact h7, hw7⟩ (by show _ - _ < _ - _; omega)
        rw [f1]
        rfl
       ·refine WL.t (WC.qa rfl (WC.skip (WX.qc (WX.qa (WC.region (WL.move rfl rfl (WL.qe rfl rfl (by omega) rfl (WL.assign rfl rfl (WL.nil (?_))))))))))
        have hz2 : writeE (lwR s1 at_ B d).1 d at_ 128 ≠ 16 := h94
        have hz : writeE (lwR s1 at_ B d).1 d at_ 128 ≠ 0 := h97
        have hz3 : writeE (lwR s1 at_ B d).1 d at_ 128 = 3 := by omega
        have f1 : lwR s1 at_ B (d + 1) = (writeS (lwR s1 at_ B d).1 d at_ B, (lwR s1 at_ B d).2.1, 0) := by
         rw [lwR, if_neg (fun h9 => h9 hd0), hB1, if_neg hz, if_pos hz3]
        refine WX.qf (d + 1) ⟨rfl, rfl, rfl, ?_, rfl, rfl, rfl, trivial⟩ ⟨by omega, by rw [f1], by omega, hL, by rw [f1]; exact h7, hw7⟩ (by show _ - _ < _ - _; omega)
        rw [f1]
        rfl
     ·refine WL.t (WC.qa rfl (WC.exit (WX.qd (WX.qd (WX.qh (WX.qc (WX.qa (WC.region (WL.move rfl rfl (WL.qe rfl rfl (by omega) rfl (WL.assign rfl rfl (WL.nil (?_)))))))))))))
      rcases Nat.lt_or_ge d s.dn with hx | hx
      ·exfalso; omega
      obtain rfl : d = s.dn := Nat.le_antisymm hd hx
      rw [if_neg (fun x => x hd0)] at e1
      refine WX.qf (i + 1) ⟨rfl, rfl, rfl, ?_, rfl, trivial⟩ ⟨by omega, by rw [e1], by omega, hL, by rw [e1]; exact h, hw⟩ (by show _ - _ < _ - _; omega)
      rw [e1]
      rfl
    ·refine WL.t (WC.qa rfl (WC.skip (WX.qa (WC.seq (?_)))))
     have hpr : RtC (pcA l.b l.nx t i) := pcA_right lb (by omega)
     refine WC.drawP (Nob) [0, 1, 2, 3, 4, 5, 6, 7, 8, 9, 10, 11, 12, 13, 14, 15] [(16, [17])] mixed rfl rfl (fun wd_14 kd_14 zd_14 => ?_)
     have zs_kd_14 := kd_14.size
     replace hL := hL.pure kd_14
     replace h := h.pure kd_14
     replace hw := hw.pure kd_14
     apply DPQ.step (E' := [(0, _)])
     case ho => rfl
     case hs => exact ⟨rfl, trivial⟩
     case hk => rfl
     case h1 =>
      intro wq_15 kq_15
      refine WL.move rfl rfl (WL.q)
     apply DPQ.step (E' := [(46, _)])
     case ho => rfl
     case hs => exact ⟨rfl, trivial⟩
     case hk => rfl
     case h1 =>
      intro wq_16 kq_16
      refine WL.nilCheck rfl rfl (WL.q)
     apply DPQ.step (E' := [(47, _)])
     case ho => rfl
     case hs => exact ⟨rfl, trivial⟩
     case hk => rfl
     case h1 =>
      intro wq_17 kq_17
      refine WL.fieldAddr (fld_81_3) rfl rfl (WL.q)
     apply DPQ.step (E' := [(48, _)])
     case ho => rfl
     case hs => exact ⟨rfl, trivial⟩
     case hk => rfl
     case h1 =>
      intro wq_18 kq_18
      have zs_kq_18 := kq_18.size
      replace hL := hL.pure kq_18
      replace h := h.pure kq_18
      replace hw := hw.pure kq_18
      refine WL.qb Tryz.isAgg3 hL rfl rfl rfl (WL.q)
     apply DPQ.step (E' := [(0, _)])
     case ho => rfl
     case hs => exact ⟨rfl, trivial⟩
     case hk => rfl
     case h1 =>
      intro wq_19 kq_19
      refine WL.move rfl rfl (WL.q)
     apply DPQ.step (E' := [(50, _)])
     case ho => rfl
     case hs => exact ⟨rfl, trivial⟩
     case hk => rfl
     case h1 =>
      intro wq_20 kq_20
      refine WL.nilCheck rfl rfl (WL.q)
     apply DPQ.step (E' := [(51, _)])
     case ho => rfl
     case hs => exact ⟨rfl, trivial⟩
     case hk => rfl
     case h1 =>
      intro wq_21 kq_21
      refine WL.fieldAddr (fld_81_4) rfl rfl (WL.q)
     apply DPQ.step (E' := [(52, _)])
     case ho => rfl
     case hs => exact ⟨rfl, trivial⟩
     case hk => rfl
     case h1 =>
      intro wq_22 kq_22
      have zs_kq_22 := kq_22.size
      replace hL := hL.pure kq_22
      replace h := h.pure kq_22
      replace hw := hw.pure kq_22
      refine WL.qb Tryz.isAgg3 hL rfl rfl rfl (WL.q)
     apply DPQ.step (E' := [(7, _)])
     case ho => rfl
     case hs => exact ⟨rfl, trivial⟩
     case hk => rfl
     case h1 =>
      intro wq_23 kq_23
      refine WL.move rfl rfl (WL.q)
     apply DPQ.step (E' := [(53, _), (54, _)])
     case ho => rfl
     case hs => exact ⟨rfl, rfl, trivial⟩
     case hk => rfl
     case h1 =>
      intro wq_24 kq_24
      refine WL.qe rfl rfl (by omega) rfl (?_)
      exact WL.q
     apply DPQ.step (E' := [(8, _)])
     case ho => rfl
     case hs => exact ⟨rfl, trivial⟩
     case hk => rfl
     case h1 =>
      intro wq_25 kq_25
      refine WL.move rfl rfl (WL.q)
     apply DPQ.step (E' := [(1, _)])
     case ho => rfl
     case hs => exact ⟨rfl, trivial⟩
     case hk => rfl
     case h1 =>
      intro wq_26 kq_26
      refine WL.move rfl rfl (WL.q)
     apply DPQ.step (E' := [(7, _)])
     case ho => rfl
     case hs => exact ⟨rfl, trivial⟩
     case hk => rfl
     case h1 =>
      intro wq_27 kq_27
      refine WL.move rfl rfl (WL.q)
     apply DPQ.step (E' := [(58, _)])
     case ho => rfl
     case hs => exact ⟨rfl, trivial⟩
     case hk => rfl
     case h1 =>
      intro wq_28 kq_28
      refine WL.qy rfl rfl (by omega) rfl (?_)
      exact WL.q
     apply DPQ.step (E' := [(9, _)])
     case ho => rfl
     case hs => exact ⟨rfl, trivial⟩
     case hk => rfl
     case h1 =>
      intro wq_29 kq_29
      refine WL.move rfl rfl ?_
      rw [show ((i : Int) + 1) * 56 = ((min ((i + 1) * 56) t.size : Nat) : Int) from by omega]
      exact WL.q
     apply DPQ.step (E' := [(57, _), (59, _), (60, _)])
     case ho => rfl
     case hs => exact ⟨rfl, rfl, rfl, trivial⟩
     case hk => rfl
     case h1 =>
      intro wq_30 kq_30
      have zs_kq_30 := kq_30.size
      replace hL := hL.pure kq_30
      replace h := h.pure kq_30
      replace hw := hw.pure kq_30
      have hi56 : i * 56 ≤ min ((i + 1) * 56) t.size := by have := hnt.2.2; omega
      refine WL.qv (l := i * 56) (h := min ((i + 1) * 56) t.size) Tryz.underlying9 rfl (.inl rfl) (.inl rfl) (by constructor <;> omega) rfl ?_
      exact WL.q
     refine DPQ.done (DPR.step [(49, _), (55, _), (56, _), (61, _)] rfl ⟨rfl, rfl, rfl, rfl, trivial⟩ rfl (fun wq_31 kq_31 => ?_))
     have zs_kq_31 := kq_31.size
     replace hL := hL.pure kq_31
     replace h := h.pure kq_31
     replace hw := hw.pure kq_31
     have hd_31 := Chg.refl (Nob) wq_31
     refine WL.call eg_76 rfl rfl (dsector2_calls (pcA l.b l.nx t i) hpr.wf _ (by show (⟨l.b, l.nx + i, if i + 1 = needN t then 1 else 0, t.extract (i * 56) (min ((i + 1) * 56) t.size)⟩ : PcV) = _; first | rw [if_pos (by omega)] | rw [if_neg (by omega)])) ?_
     rintro v w4 ⟨rfl, k4⟩
     have zs_k4 := k4.size
     replace hL := hL.pure k4
     replace h := h.pure k4
     replace hw := hw.pure k4
     replace hd_31 := hd_31.pure k4
     refine WL.nil (WX.one ⟨hd_31, ?_⟩)
     apply DPQ.step (E' := [(62, _)])
     case ho => rfl
     case hs => exact ⟨rfl, trivial⟩
     case hk => rfl
     case h1 =>
      intro wq_32 kq_32
      refine WL.assign rfl rfl (WL.q)
     refine DPQ.done (DPR.done (fun we_33 ke_33 => ?_))
     have zs_ke_33 := ke_33.size
     replace hL := hL.pure ke_33
     replace h := h.pure ke_33
     replace hw := hw.pure ke_33
     refine WX.qa (WC.sr (WL.assign rfl rfl (WL.t (WC.block (?_)))))
     obtain ⟨B, eB⟩ : ∃ B, B = secB (cit (pcA l.b l.nx t i)) := ⟨_, rfl⟩
     have hB1 : B.length = 128 := by rw [eB]; exact pc_128 hpr
     rw [← eB]
     obtain ⟨at_, eat⟩ : ∃ a : Int, a = l.f + l.nx + i := ⟨_, rfl⟩
     have eat2 : l.f + (l.nx + i) = at_ := by omega
     have e1 : apR s l.f l.b l.nx t (i + 1) = if (lwR s1 at_ B s.dn).2.2 ≠ 0 then ((lwR s1 at_ B s.dn).1, (apR s l.f l.b l.nx t i).2.1, (lwR s1 at_ B s.dn).2.2) else ((lwR s1 at_ B s.dn).1, (apR s l.f l.b l.nx t i).2.1 + (lwR s1 at_ B s.dn).2.1, 0) := by
      rw [apR, if_neg (fun x => x hi0), ← es1, eat2, ← eB]
     obtain ⟨q0, eq0⟩ : ∃ q0, q0 = (apR s l.f l.b l.nx t i).2.1 := ⟨_, rfl⟩
     rw [← eq0] at d5 e1 ⊢
     refine WC.loop (σ := Nat) (fun d => [(0, ptr L), (1, .string t), (5, vi (n : Int)), (6, vi ((q0 + (lwR s1 at_ B d).2.1 : Nat) : Int)), (7, vi (i : Int)), (10, .string (bs B)), (11, vi (d : Int))])
      (fun d w' => d ≤ s.dn ∧ (lwR s1 at_ B d).2.2 = 0 ∧ n0 ≤ w'.heap.size ∧ Blk w' L 81 (lgC D l) ∧ RD (fun x => A x ∨ n0 ≤ x) w' D (lwR s1 at_ B d).1 ∧ Chg A w w') (fun d => s.dn - d) 0 ⟨rfl, rfl, rfl, rfl, rfl, rfl, rfl, trivial⟩
      ⟨Nat.zero_le _, rfl, by omega, hL, h, hw⟩ ?_
     clear h hL hw
     rintro d w6 ⟨hd, hd0, hn6, hL, h, hw⟩
     obtain ⟨y1, y2, y3, y4, y5⟩ := lwR_dn s1 at_ B d
     obtain ⟨la, lc2, ls, ga, gc, wa, wc, hB, hI⟩ := h.ex
     refine WC.seq (WC.sr (WL.move rfl rfl (WL.move rfl rfl (WL.nilCheck rfl rfl (WL.fieldAddr (fld_81_0) rfl rfl (WL.qb Tryz.isAgg29 hL rfl rfl rfl (WL.nilCheck rfl rfl ?_)))))))
     refine WL.fieldAddr (fld_87_0) rfl rfl (WL.qb Tryz.isAgg83 hB rfl rfl rfl (WL.len Tryz.underlying83 rfl rfl ?_))
     rw [y1, d1]
     refine WL.qh rfl rfl rfl (fun h72 => ?_) (fun h72 => ?_)
     ·refine WL.t (WC.qb rfl (WC.skip (WX.qa (WC.seq (WC.block (WC.seq (WC.drawP ((fun x => (A x ∨ n0 ≤ x) ∧ x ≠ L)) [0, 1, 2, 3, 4, 5, 6, 7, 8, 9, 10, 11, 12, 13, 14, 15, 16] [(17, [18])] mixed rfl rfl (fun wd_34 kd_34 zd_34 => ?_))))))))
      have zs_kd_34 := kd_34.size
      replace hL := hL.pure kd_34
      replace h := h.pure kd_34
      replace hw := hw.pure kd_34
      apply DPQ.step (E' := [(0, _)])
      case ho => rfl
      case hs => exact ⟨rfl, trivial⟩
      case hk => rfl
      case h1 =>
       intro wq_35 kq_35
       refine WL.move rfl rfl (WL.q)
      apply DPQ.step (E' := [(75, _)])
      case ho => rfl
      case hs => exact ⟨rfl, trivial⟩
      case hk => rfl
      case h1 =>
       intro wq_36 kq_36
       refine WL.nilCheck rfl rfl (WL.q)
      apply DPQ.step (E' := [(76, _)])
      case ho => rfl
      case hs => exact ⟨rfl, trivial⟩
      case hk => rfl
      case h1 =>
       intro wq_37 kq_37
       refine WL.fieldAddr (fld_81_0) rfl rfl (WL.q)
      apply DPQ.step (E' := [(77, _)])
      case ho => rfl
      case hs => exact ⟨rfl, trivial⟩
      case hk => rfl
      case h1 =>
       intro wq_38 kq_38
       have zs_kq_38 := kq_38.size
       replace hL := hL.chg kq_38 (by intro h1; exfalso; have h4 := h1.2; (try dsimp only at *); omega)
       refine WL.qb Tryz.isAgg29 hL rfl rfl rfl (WL.q)
      apply DPQ.step (E' := [(11, _)])
      case ho => rfl
      case hs => exact ⟨rfl, trivial⟩
      case hk => rfl
      case h1 =>
       intro wq_39 kq_39
       refine WL.move rfl rfl (WL.q)
      apply DPQ.step (E' := [(0, _)])
      case ho => rfl
      case hs => exact ⟨rfl, trivial⟩
      case hk => rfl
      case h1 =>
       intro wq_40 kq_40
       refine WL.move rfl rfl (WL.q)
      apply DPQ.step (E' := [(80, _)])
      case ho => rfl
      case hs => exact ⟨rfl, trivial⟩
      case hk => rfl
      case h1 =>
       intro wq_41 kq_41
       refine WL.nilCheck rfl rfl (WL.q)
      apply DPQ.step (E' := [(81, _)])
      case ho => rfl
      case hs => exact ⟨rfl, trivial⟩
      case hk => rfl
      case h1 =>
       intro wq_42 kq_42
       refine WL.fieldAddr (fld_81_1) rfl rfl (WL.q)
      apply DPQ.step (E' := [(82, _)])
      case ho => rfl
      case hs => exact ⟨rfl, trivial⟩
      case hk => rfl
      case h1 =>
       intro wq_43 kq_43
       have zs_kq_43 := kq_43.size
       replace hL := hL.chg kq_43 (by intro h1; exfalso; have h4 := h1.2; (try dsimp only at *); omega)
       refine WL.qb Tryz.isAgg3 hL rfl rfl rfl (WL.q)
      apply DPQ.step (E' := [(0, _)])
      case ho => rfl
      case hs => exact ⟨rfl, trivial⟩
      case hk => rfl
      case h1 =>
       intro wq_44 kq_44
       refine WL.move rfl rfl (WL.q)
      apply DPQ.step (E' := [(84, _)])
      case ho => rfl
      case hs => exact ⟨rfl, trivial⟩
      case hk => rfl
      case h1 =>
       intro wq_45 kq_45
       refine WL.nilCheck rfl rfl (WL.q)
      apply DPQ.step (E' := [(85, _)])
      case ho => rfl
      case hs => exact ⟨rfl, trivial⟩
      case hk => rfl
      case h1 =>
       intro wq_46 kq_46
       refine WL.fieldAddr (fld_81_4) rfl rfl (WL.q)
      apply DPQ.step (E' := [(86, _)])
      case ho => rfl
      case hs => exact ⟨rfl, trivial⟩
      case hk => rfl
      case h1 =>
       intro wq_47 kq_47
       have zs_kq_47 := kq_47.size
       replace hL := hL.chg kq_47 (by intro h1; exfalso; have h4 := h1.2; (try dsimp only at *); omega)
       refine WL.qb Tryz.isAgg3 hL rfl rfl rfl (WL.q)
      apply DPQ.step (E' := [(83, _), (87, _)])
      case ho => rfl
      case hs => exact ⟨rfl, rfl, trivial⟩
      case hk => rfl
      case h1 =>
       intro wq_48 kq_48
       refine WL.qe rfl rfl (by omega) rfl (?_)
       exact WL.q
      apply DPQ.step (E' := [(7, _)])
      case ho => rfl
      case hs => exact ⟨rfl, trivial⟩
      case hk => rfl
      case h1 =>
       intro wq_49 kq_49
       refine WL.move rfl rfl (WL.q)
      apply DPQ.step (E' := [(88, _), (89, _)])
      case ho => rfl
      case hs => exact ⟨rfl, rfl, trivial⟩
      case hk => rfl
      case h1 =>
       intro wq_50 kq_50
       refine WL.qe rfl rfl (by omega) rfl (?_)
       exact WL.q
      apply DPQ.step (E' := [(10, _)])
      case ho => rfl
      case hs => exact ⟨rfl, trivial⟩
      case hk => rfl
      case h1 =>
       intro wq_51 kq_51
       refine WL.move rfl rfl (WL.q)
      refine DPQ.done (DPR.step [(78, _), (79, _), (90, _), (91, _)] rfl ⟨rfl, rfl, rfl, rfl, trivial⟩ rfl (fun wq_52 kq_52 => ?_))
      have zs_kq_52 := kq_52.size
      replace hL := hL.pure kq_52
      replace h := h.pure kq_52
      replace hw := hw.pure kq_52
      have hd_52 := Chg.refl ((fun x => (A x ∨ n0 ≤ x) ∧ x ≠ L)) wq_52
      rw [← eat]
      have hn9 : (lwR s1 at_ B d).1.waits.length ≤ 1000000 := by omega
      have hin : inS (lwR s1 at_ B d).1 (d : Int) at_ := by unfold inS; rw [y1, y2, d1, d2]; omega
      have hwi := writeE_in hin
      refine WL.call eg_23 rfl rfl (dWrite_calls h hn9 d at_ B) ?_
      rintro v w7 ⟨rfl, h7, k7⟩
      rw [hB1]
      have z7 := k7.size
      replace h7 : RD (fun x => A x ∨ n0 ≤ x) w7 D (writeS (lwR s1 at_ B d).1 d at_ B) := h7.mono (fun x hx => by rcases hx with h8 | h8; exact h8; right; omega)
      have hw7 : Chg A w w7 := hw.trans k7 (fun x h1 h2 => by rcases h2 with h4 | h4; exact h4; exfalso; omega)
      have k8 := k7.mono (M' := fun x => (A x ∨ n0 ≤ x) ∧ x ≠ L) (fun x _ m => ⟨m, fun e => hLA2 (e ▸ m)⟩)
      have zs_k8 := k8.size
      replace hL := hL.chg k8 (by intro h1; exfalso; have h4 := h1.2; (try dsimp only at *); omega)
      replace hd_52 := hd_52.chg k8 (by intro x h1 h2; exact h2)
      refine WL.nil (WX.one ⟨hd_52, ?_⟩)
      apply DPQ.step (E' := [(92, _)])
      case ho => rfl
      case hs => exact ⟨rfl, trivial⟩
      case hk => rfl
      case h1 =>
       intro wq_53 kq_53
       refine WL.assign rfl rfl (WL.q)
      refine DPQ.done (DPR.done (fun we_54 ke_54 => ?_))
      have zs_ke_54 := ke_54.size
      replace hL := hL.pure ke_54
      replace h7 := h7.pure ke_54
      replace hw7 := hw7.pure ke_54
      refine WX.qa (WC.seq (WC.sr (WL.move rfl rfl (WL.qi rfl rfl rfl (fun h94 => ?_) (fun h94 => ?_)))))
      ·refine WL.t (WC.qb rfl (WC.sr (WL.move rfl rfl (WL.assign rfl rfl (WL.nil (WX.qa (WC.ret (WX.qb (WX.qe (WX.qb (WX.qb (WX.qe (WX.qe (WX.qb (WX.qb (WX.qe (WX.qb (WX.qg (.inl rfl) Tryz.results40 rfl ?_))))))))))))))))))
       have hz : writeE (lwR s1 at_ B d).1 d at_ 128 = 16 := h94
       have f1 : lwR s1 at_ B (d + 1) = (writeS (lwR s1 at_ B d).1 d at_ B, 0, 16) := by
        rw [lwR, if_neg (fun h9 => h9 hd0), hB1, hz, if_neg (by decide), if_neg (by decide)]
       have f2 : lwR s1 at_ B s.dn = lwR s1 at_ B (d + 1) := by
        have := lwR_stuck (s0 := s1) (at_ := at_) (B := B) (k := d + 1) (by rw [f1]; show (16 : Int) ≠ 0; decide) (s.dn - (d + 1))
        rw [show d + 1 + (s.dn - (d + 1)) = s.dn from by omega] at this
        exact this
       rw [f2, f1] at e1
       dsimp only at e1
       rw [if_pos (by decide)] at e1
       obtain ⟨g1, g2, g3⟩ := ap_stop (s := s) (l := l) (t := t) (i := i + 1) h0 (by omega) (by rw [e1]; show (16 : Int) ≠ 0; decide)
       rw [g1, g2, g3, e1, hz]
       exact ⟨_, rfl, rfl, h7.mono (fun x hx => by rcases hx with h8 | h8; exact .inl h8; right; omega), hL, hw7.mono (fun x _ hx => .inl hx)⟩
      ·refine WL.t (WC.qa rfl (WC.skip (WX.qa (WC.sr (WL.move rfl rfl (WL.qi rfl rfl rfl (fun h97 => ?_) (fun h97 => ?_)))))))
       ·refine WL.t (WC.qb rfl (WC.region (WL.move rfl rfl (WL.qe rfl rfl (by omega) rfl (WL.assign rfl rfl (WL.nil (?_)))))))
        refine WX.qc (WX.qa (WC.region (WL.move rfl rfl (WL.qe rfl rfl (by omega) rfl (WL.assign rfl rfl (WL.nil (?_)))))))
        have hz : writeE (lwR s1 at_ B d).1 d at_ 128 = 0 := h97
        have f1 : lwR s1 at_ B (d + 1) = (writeS (lwR s1 at_ B d).1 d at_ B, (lwR s1 at_ B d).2.1 + 1, 0) := by
         rw [lwR, if_neg (fun h9 => h9 hd0), hB1, if_pos hz]
        refine WX.qf (d + 1) ⟨rfl, rfl, rfl, ?_, rfl, rfl, rfl, trivial⟩ ⟨by omega, by rw [f1], by omega, hL, by rw [f1]; exact h7, hw7⟩ (by show _ - _ < _ - _; omega)
        rw [f1]
        rfl
       ·refine WL.t (WC.qa rfl (WC.skip (WX.qc (WX.qa (WC.region (WL.move rfl rfl (WL.qe rfl rfl (by omega) rfl (WL.assign rfl rfl (WL.nil (?_))))))))))
        have hz2 : writeE (lwR s1 at_ B d).1 d at_ 128 ≠ 16 := h94
        have hz : writeE (lwR s1 at_ B d).1 d at_ 128 ≠ 0 := h97
        have hz3 : writeE (lwR s1 at_ B d).1 d at_ 128 = 3 := by omega
        have f1 : lwR s1 at_ B (d + 1) = (writeS (lwR s1 at_ B d).1 d at_ B, (lwR s1 at_ B d).2.1, 0) := by
         rw [lwR, if_neg (fun h9 => h9 hd0), hB1, if_neg hz, if_pos hz3]
        refine WX.qf (d + 1) ⟨rfl, rfl, rfl, ?_, rfl, rfl, rfl, trivial⟩ ⟨by omega, by rw [f1], by omega, hL, by rw [f1]; exact h7, hw7⟩ (by show _ - _ < _ - _; omega)
        rw [f1]
        rfl
     ·refine WL.t (WC.qa rfl (WC.exit (WX.qd (WX.qd (WX.qh (WX.qc (WX.qa (WC.region (WL.move rfl rfl (WL.qe rfl rfl (by omega) rfl (WL.assign rfl rfl (WL.nil (?_)))))))))))))
      rcases Nat.lt_or_ge d s.dn with hx | hx
      ·exfalso; omega
      obtain rfl : d = s.dn := Nat.le_antisymm hd hx
      rw [if_neg (fun x => x hd0)] at e1
      refine WX.qf (i + 1) ⟨rfl, rfl, rfl, ?_, rfl, trivial⟩ ⟨by omega, by rw [e1], by omega, hL, by rw [e1]; exact h, hw⟩ (by show _ - _ < _ - _; omega)
      rw [e1]
      rfl
   ·refine WL.t (WC.qa rfl (WC.exit (WX.qd (WX.qd (WX.qh (WX.qa (WC.seq (WC.sr (WL.move rfl rfl (WL.qi rfl rfl rfl (fun h101 => ?_) (fun h101 => ?_)))))))))))
    ·refine WL.t (WC.qb rfl (WC.sr (WL.assign rfl rfl (WL.t (WC.ret (WX.qb (WX.qg (.inl rfl) Tryz.results40 rfl ?_)))))))
     have hin : i = needN t := by omega
     subst hin
     obtain ⟨f1, f2, f3⟩ := ap_end (s := s) (l := l) (t := t) h0 hi0
     rw [es1] at h
     have hmo := h.mono (A' := fun x => A x ∨ w.heap.size ≤ x) (fun x hx => by rcases hx with h7 | h7; exact .inl h7; right; omega)
     by_cases hc : (apR s l.f l.b l.nx t (needN t)).2.1 = 0
     ·obtain ⟨f4, f5⟩ := f2 hc
      rw [f1, f4, f5]
      exact ⟨_, rfl, rfl, hmo, hL, hw.mono (fun x _ hx => .inl hx)⟩
     ·obtain ⟨f4, f5⟩ := f3 hc
      rw [f1, f4, f5]
      exfalso; omega
    ·refine WL.t (WC.qa rfl (WC.skip (WX.qa (WC.sr (WL.move rfl rfl (WL.move rfl rfl (WL.nilCheck rfl rfl (WL.fieldAddr (fld_81_4) rfl rfl (WL.qb Tryz.isAgg3 hL rfl rfl rfl (WL.move rfl rfl (WL.qe rfl rfl (by omega) rfl (WL.nilCheck rfl rfl (?_)))))))))))))
     refine WL.fieldAddr fld_81_4 rfl rfl (WL.store Tryz.sizeOf3 hL rfl rfl rfl rfl ?_)
     intro w9 z9 hn9 k9
     replace h := h.chg k9 (fun b _ h1 (h2 : b = L) => by subst h2; exact hLA2 h1)
     have hw2 : Chg (fun x => A x ∨ x = L) w w9 := (hw.mono (fun x _ hx => .inl hx)).trans k9 (fun b h1 h2 => .inr h2)
     replace hL := hn9
     refine WL.t (WC.sr (WL.assign rfl rfl (WL.t (WC.ret (WX.qg (.inl rfl) Tryz.results40 rfl ?_)))))
     have hin : i = needN t := by omega
     subst hin
     obtain ⟨f1, f2, f3⟩ := ap_end (s := s) (l := l) (t := t) h0 hi0
     rw [es1] at h
     have hmo := h.mono (A' := fun x => A x ∨ w.heap.size ≤ x) (fun x hx => by rcases hx with h7 | h7; exact .inl h7; right; omega)
     by_cases hc : (apR s l.f l.b l.nx t (needN t)).2.1 = 0
     ·obtain ⟨f4, f5⟩ := f2 hc
      rw [f1, f4, f5]
      exfalso; omega
     ·obtain ⟨f4, f5⟩ := f3 hc
      rw [f1, f4, f5]
      exact ⟨_, rfl, rfl, hmo, Blk.eqc (cs' := lgC D { l with nx := l.nx + needN t }) hL (by rw [← en]; rfl), hw2⟩
end Go.Proofs.YtjeldcjchipdgaaGreatDoor
namespace Go.Proofs.YtjeldcjchipdgaaGreatDoor
open Go.RowKit Go.HL
set_option maxRecDepth 100000
theorem lwR_upG {s : RA} (h : Up s) {a : Int} (ha : 0 ≤ a ∧ a < s.sn) {B : List UInt8} (hB : B.length = 128) (k : Nat) (hk : k ≤ s.dn) : lwR s a B k = (addAll s a B k, cntD s k, 0) := by
 induction k with
 |zero => rfl
 |succ k ih =>
  have ih := ih (by omega)
  have hi : inS (addAll s a B k) (k : Nat) a := by
   unfold inS
   rw [(addAll_dn s a B k).1, (addAll_dn s a B k).2.1]
   omega
  rw [lwR, ih]
  simp only [ne_eq, not_true_eq_false, if_false]
  cases hg : goneS s (k : Nat) with
  |false =>
   obtain ⟨e1, e2⟩ := (addAll_up h a B k).write hi (by rw [addAll_gone]; exact hg) hB
   rw [if_pos e1, e2, addAll, cntD, if_neg (by rw [hg]; decide), if_neg (by rw [hg]; decide)]
  |true =>
   have e1 : writeE (addAll s a B k) (k : Nat) a B.length = 3 := by
    unfold writeE
    rw [if_neg (fun x => x.elim (fun y => y hi) (fun y => y hB)), if_pos (by rw [addAll_gone]; exact hg)]
   have e2 : writeS (addAll s a B k) (k : Nat) a B = addAll s a B k := by
    unfold writeS
    rw [e1, if_neg (by decide), if_neg (by decide)]
   rw [e1, if_neg (by decide), if_pos rfl, e2, addAll, cntD, if_pos hg, if_pos hg]
structure Hale (s : RA) : Prop where
 up : Up s
 gone : ∀ d, goneS s d = false
theorem addAll_all {s : RA} (h : Hale s) (a : Int) (B : List UInt8) (k : Nat) : Hale (addAll s a B k) ∧ (addAll s a B k).waits.length = s.waits.length + k := by
 refine ⟨⟨addAll_up h.up _ _ _, fun d => (addAll_gone _ _ _ _ _).trans (h.gone d)⟩, ?_⟩
 induction k with
 |zero => rfl
 |succ k ih =>
  rw [addAll, if_neg (by rw [h.gone]; decide)]
  show ((addAll s a B k).waits ++ [_]).length = _
  rw [List.length_append, ih]
  rfl
theorem apR_up {s : RA} (h : Hale s) (hd : 1 ≤ s.dn) {f b nx : Int} {t : ByteArray} (hb : 0 ≤ b ∧ b ≤ 1125899906842624) (hf : 0 ≤ f) (hx : 0 ≤ nx) (i : Nat) (hi : nx + i ≤ 1000 ∧ f + nx + i ≤ s.sn) :
 ∃ s1, apR s f b nx t i = (s1, s.dn * i, 0) ∧ Hale s1 ∧ s1.dn = s.dn ∧ s1.sn = s.sn ∧ s1.waits.length = s.waits.length + s.dn * i ∧ s1.last = s.last ∧
  (∀ d a : Nat, d < s.dn → heldS s1 ((d : Int), (a : Int)) = if f + nx ≤ a ∧ (a : Int) < f + nx + i then secB (cit (pcA b nx t ((a : Int) - f - nx).toNat)) else heldS s ((d : Int), (a : Int))) := by
 induction i with
 |zero =>
  refine ⟨s, rfl, h, rfl, rfl, rfl, rfl, fun d a _ => ?_⟩
  rw [if_neg (by omega)]
 |succ i ih =>
  obtain ⟨s1, e, h1, d1, n1, w1, l1, g1⟩ := ih (by omega)
  have hpr : RtC (pcA b nx t i) := pcA_right hb (by omega)
  obtain ⟨B, eB⟩ : ∃ B, B = secB (cit (pcA b nx t i)) := ⟨_, rfl⟩
  have hBl : B.length = 128 := by rw [eB]; exact pc_128 hpr
  have hl := lwR_upG h1.up (a := f + (nx + i)) (by omega) hBl s.dn (by omega)
  obtain ⟨a1, a2, a3, a4, a5, a6⟩ := addAll_dn s1 (f + (nx + i)) B s.dn
  obtain ⟨b1, b2⟩ := addAll_all h1 (f + (nx + i)) B s.dn
  refine ⟨addAll s1 (f + (nx + i)) B s.dn, ?_, b1, a1.trans d1, a2.trans n1, ?_, a6.trans l1, fun d a hda => ?_⟩
  ·rw [apR, e, ← eB]
   dsimp only
   rw [if_neg (fun x => x rfl), hl]
   dsimp only
   rw [if_neg (fun x => x rfl), cntD_all h1.gone, Nat.mul_succ]
  ·rw [b2, w1, Nat.mul_succ]; omega
  ·rw [addAll_held]
   by_cases hc : (a : Int) = f + (nx + i)
   ·rw [if_pos ⟨d, hda, by rw [hc], h1.gone _⟩, if_pos (by omega), eB]
    congr 3
    omega
   ·rw [if_neg (by
     rintro ⟨d', _, h2, _⟩
     exact hc (congrArg Prod.snd h2)), g1 d a hda]
    by_cases hc2 : f + nx ≤ a ∧ (a : Int) < f + nx + i
    ·rw [if_pos hc2, if_pos (by omega)]
    ·rw [if_neg hc2, if_neg (by omega)]
theorem err_up {s : RA} (h : Hale s) {d : Nat} {a : Int} (hd : d < s.dn) (ha : 0 ≤ a ∧ a < s.sn) : errS s d a = 0 := by
 rw [errS, if_neg (fun x => x ⟨by omega, by omega, ha.1, ha.2⟩), if_neg (by rw [h.gone]; decide), if_neg (by rw [h.up.off]; decide)]
theorem find_hit {s : RA} (h : Hale s) (hd : 1 ≤ s.dn) {f b : Int} {j : Nat} (hj : 0 ≤ f + j ∧ f + j < s.sn) {p : PcV} (hp : RtC p) (hb : p.base = b) (hn : p.num = j) (hh : heldS s (0, f + j) = secB (cit p)) : findE s f b j = 0 ∧ findP s f b j = some p := by
 have h0 : stF s f b j ((0 : Nat) : Int) = (0, some p) := by
  have e0 := err_up h (d := 0) (by omega) hj
  have hh2 : heldS s (((0 : Nat) : Int), f + j) = secB (cit p) := hh
  rw [stF, e0, if_neg (by decide), if_neg (fun x => x rfl), hh2, pc_enc hp]
  exact if_pos ⟨hb, hn⟩
 have := fdR_hit (s := s) (f := f) (b := b) (n := j) (k := 0) rfl h0 (fun x => by cases x.2) (by omega)
 exact ⟨by rw [findE, this], by rw [findP, this]⟩
theorem find_miss {s : RA} (h : Hale s) {f b : Int} {j : Nat} (hj : 0 ≤ f + j ∧ f + j < s.sn) (hh : ∀ d : Nat, d < s.dn → pcD (heldS s ((d : Int), f + j)) = none) : findE s f b j = 0 ∧ findP s f b j = none := by
 have : ∀ k, k ≤ s.dn → fdR s f b j k = (0, none) := by
  intro k
  induction k with
  |zero => intro _; rfl
  |succ k ih =>
   intro hk
   rw [fdR_go (ih (by omega)), stF, err_up h (by omega) hj, if_neg (by decide), if_neg (fun x => x rfl), hh k (by omega)]
 have e := this s.dn (Nat.le_refl _)
 exact ⟨by rw [findE, e], by rw [findP, e]⟩
theorem opA_congr {s s' : RA} {f b : Int} (k : Nat) (h : ∀ j, j < k → findE s' f b (j : Nat) = findE s f b (j : Nat) ∧ findP s' f b (j : Nat) = findP s f b (j : Nat)) : opA s' f b k = opA s f b k := by
 induction k with
 |zero => rfl
 |succ k ih =>
  have ih := ih (fun j hj => h j (by omega))
  obtain ⟨h1, h2⟩ := h k (by omega)
  rw [opA, opA, ih, stA, stA, h1, h2]
structure LgI (l : LgV) (have_ : List ByteArray) (s : RA) : Prop where
 ok : l.ok s.sn
 hale : Hale s
 dn : 1 ≤ s.dn
 hit : ∀ j : Nat, (j : Int) < l.nx → findE s l.f l.b j = 0 ∧ ∃ p, findP s l.f l.b j = some p ∧ (∀ d : Nat, d < s.dn → heldS s ((d : Int), l.f + j) = secB (cit p)) ∧ RtC p ∧ p.base = l.b ∧ p.num = j
 blank : ∀ (j d : Nat), l.nx ≤ j → (j : Int) < l.c → d < s.dn → heldS s ((d : Int), l.f + j) = zeros
 op : opA s l.f l.b l.nx.toNat = ⟨false, 0, [], have_, l.nx.toNat⟩
theorem LgI.new {s : RA} {l : LgV} (hok : l.ok s.sn) (h : Hale s) (hd : 1 ≤ s.dn) (h0 : l.nx = 0) (hz : ∀ (j d : Nat), (j : Int) < l.c → d < s.dn → heldS s ((d : Int), l.f + j) = zeros) : LgI l [] s :=
 ⟨hok, h, hd, fun j hj => by omega, fun j d _ hj hd => hz j d hj hd, by rw [h0]; rfl⟩
theorem take_ext {t : ByteArray} {a b : Nat} (h : a ≤ b) : t.data.toList.take a ++ (t.extract a (min b t.size)).data.toList = t.data.toList.take b := by
 have hl : t.data.toList.length = t.size := by simp
 have e1 : (t.extract a (min b t.size)).data.toList = (t.data.toList.drop a).take (min b t.size - a) := by simp
 rw [e1]
 apply List.ext_getElem?
 intro j
 rw [List.getElem?_append]
 by_cases hj : j < a
 ·by_cases hj2 : j < t.size
  ·rw [if_pos (by rw [List.length_take]; omega), List.getElem?_take, List.getElem?_take, if_pos hj, if_pos (by omega)]
  ·rw [if_neg (by rw [List.length_take]; omega), List.getElem?_take, List.getElem?_drop, List.getElem?_take, List.getElem?_eq_none (by omega : t.data.toList.length ≤ j)]
   rw [List.getElem?_eq_none (by rw [List.length_take]; omega)]
   split <;> simp
 ·by_cases hj2 : a ≤ t.size
  ·rw [if_neg (by rw [List.length_take]; omega), List.length_take, List.getElem?_take, List.getElem?_drop, List.getElem?_take, show a + (j - min a t.data.toList.length) = j from by omega]
   by_cases hj3 : j < b
   ·rw [if_pos hj3]
    by_cases hj4 : j < t.size
    ·rw [if_pos (by omega)]
    ·rw [List.getElem?_eq_none (by omega : t.data.toList.length ≤ j)]
     split <;> rfl
   ·rw [if_neg (by omega), if_neg hj3]
  ·rw [if_neg (by rw [List.length_take]; omega), List.getElem?_take, List.getElem?_drop, List.getElem?_take, List.getElem?_eq_none (by omega), List.getElem?_eq_none (by omega)]
   split <;> split <;> rfl
theorem LgI.append {l : LgV} {hv : List ByteArray} {s : RA} (h : LgI l hv s) (t : ByteArray) (hfit : (needN t : Int) ≤ l.c - l.nx) :
 apE s l t = 0 ∧ apL s l t = { l with nx := l.nx + needN t } ∧ LgI { l with nx := l.nx + needN t } (hv ++ [t]) (apS s l t) ∧ (apS s l t).dn = s.dn ∧ (apS s l t).sn = s.sn ∧ (apS s l t).waits.length = s.waits.length + s.dn * needN t ∧ (apS s l t).last = s.last ∧
  (∀ d a : Nat, d < s.dn → heldS (apS s l t) ((d : Int), (a : Int)) = if l.f + l.nx ≤ a ∧ (a : Int) < l.f + l.nx + needN t then secB (cit (pcA l.b l.nx t ((a : Int) - l.f - l.nx).toNat)) else heldS s ((d : Int), (a : Int))) := by
 have lf := h.ok.f
 have lc := h.ok.c
 have lb := h.ok.b
 have lx := h.ok.nx
 have li := h.ok.in_
 have hd := h.dn
 have hn1 := needN_pos t
 obtain ⟨n, en⟩ : ∃ n, n = needN t := ⟨_, rfl⟩
 have h0 : apE0 l t = 0 := by rw [apE0, if_neg (by omega), if_neg (by omega)]
 obtain ⟨s1, e, h1, d1, n1, w1, l1, g1⟩ := apR_up h.hale hd lb lf lx.1 (t := t) (needN t) (by omega)
 obtain ⟨f1, f2, f3⟩ := ap_end (s := s) (l := l) (t := t) h0 (by rw [e])
 obtain ⟨f4, f5⟩ := f3 (by
  rw [e]
  show s.dn * needN t ≠ 0
  exact Nat.ne_of_gt (Nat.mul_pos (by omega) (by omega)))
 rw [e] at f1
 have f1 : apS s l t = s1 := f1
 rw [← en] at hfit hn1 e w1 g1 f5 ⊢
 rw [f1]
 have hpc : ∀ i : Nat, i < n → RtC (pcA l.b l.nx t i) := fun i hi => pcA_right lb (by omega)
 have gnew : ∀ (i d : Nat), i < n → d < s.dn → heldS s1 ((d : Int), l.f + (l.nx + i)) = secB (cit (pcA l.b l.nx t i)) := fun i d hi hdd => by
  have := g1 d (l.f + l.nx + i).toNat hdd
  rw [show (((l.f + l.nx + i).toNat : Nat) : Int) = l.f + (l.nx + i) from by omega, if_pos (by omega), show (l.f + (l.nx + i) - l.f - l.nx).toNat = i from by omega] at this
  exact this
 have gold : ∀ (j d : Nat), ((j : Int) < l.nx ∨ l.nx + n ≤ j) → d < s.dn → heldS s1 ((d : Int), l.f + j) = heldS s ((d : Int), l.f + j) := fun j d hj hdd => by
  have := g1 d (l.f + j).toNat hdd
  rw [show (((l.f + j).toNat : Nat) : Int) = l.f + j from by omega, if_neg (by omega)] at this
  exact this
 have fnew : ∀ i : Nat, i < n → findE s1 l.f l.b ((l.nx.toNat + i : Nat) : Int) = 0 ∧ findP s1 l.f l.b ((l.nx.toNat + i : Nat) : Int) = some (pcA l.b l.nx t i) := fun i hi =>
  find_hit h1 (by omega) (by omega) (hpc i hi) rfl (by show l.nx + (i : Int) = _; omega) (by
   have := gnew i 0 hi (by omega)
   rw [show l.f + (l.nx + (i : Int)) = l.f + ((l.nx.toNat + i : Nat) : Int) from by omega] at this
   exact this)
 have fold : ∀ j : Nat, (j : Int) < l.nx → findE s1 l.f l.b j = findE s l.f l.b j ∧ findP s1 l.f l.b j = findP s l.f l.b j := fun j hj => by
  obtain ⟨q1, p, q2, q3, q4, q5, q6⟩ := h.hit j hj
  obtain ⟨r1, r2⟩ := find_hit h1 (by omega) (f := l.f) (b := l.b) (j := j) (by omega) q4 q5 q6 (by
   have := gold j 0 (.inl hj) (by omega)
   rw [q3 0 (by omega)] at this
   exact this)
  exact ⟨r1.trans q1.symm, r2.trans q2.symm⟩
 have hstep : ∀ i, i ≤ n → opA s1 l.f l.b (l.nx.toNat + i) = if i = n then ⟨false, 0, [], hv ++ [t], l.nx.toNat + n⟩ else ⟨false, 0, t.data.toList.take (i * 56), hv, l.nx.toNat⟩ := by
  intro i
  induction i with
  |zero =>
   intro _
   rw [if_neg (by omega), Nat.add_zero, opA_congr (s := s) l.nx.toNat (fun j hj => fold j (by omega)), h.op]
   simp
  |succ i ih =>
   intro hi
   have ih := ih (by omega)
   rw [if_neg (by omega)] at ih
   obtain ⟨q1, q2⟩ := fnew i (by omega)
   rw [← Nat.add_assoc, opA, ih]
   dsimp only
   rw [if_neg (by decide), stA, q1, if_neg (fun x => x rfl), q2]
   dsimp only
   have ht : t.data.toList.take (i * 56) ++ (pcA l.b l.nx t i).text.data.toList = t.data.toList.take ((i + 1) * 56) := take_ext (by omega)
   by_cases hlast : i + 1 = n
   ·have hl1 : (pcA l.b l.nx t i).last = 1 := if_pos (by rw [← en]; exact hlast)
    rw [if_pos hl1, if_pos hlast, ht]
    have hall : t.data.toList.take ((i + 1) * 56) = t.data.toList := List.take_of_length_le (by
     have : t.data.toList.length = t.size := by simp
     have : t.size ≤ n * 56 := by rw [en]; unfold needN; omega
     rw [hlast]
     omega)
    rw [hall, show l.nx.toNat + i + 1 = l.nx.toNat + n from by omega]
   ·have hl0 : (pcA l.b l.nx t i).last = 0 := if_neg (by rw [← en]; exact hlast)
    rw [if_neg (by rw [hl0]; decide), if_neg hlast, ht]
 refine ⟨f4, f5, ⟨⟨lf, lc, lb, by show 0 ≤ l.nx + (n : Int) ∧ l.nx + (n : Int) ≤ l.c; omega, by show l.f + l.c ≤ _; rw [n1]; exact li⟩, h1, by omega, fun j hj => ?_, fun j d hj1 hj2 hdd => ?_, ?_⟩, d1, n1, w1, l1, g1⟩
 ·have hj : (j : Int) < l.nx + n := hj
  show findE s1 l.f l.b j = 0 ∧ ∃ p, findP s1 l.f l.b j = some p ∧ (∀ d : Nat, d < s1.dn → heldS s1 ((d : Int), l.f + j) = secB (cit p)) ∧ RtC p ∧ p.base = l.b ∧ p.num = j
  by_cases hjx : (j : Int) < l.nx
  ·obtain ⟨r1, r2⟩ := fold j hjx
   obtain ⟨q1, p, q2, q3, q4, q5, q6⟩ := h.hit j hjx
   exact ⟨r1.trans q1, p, r2.trans q2, fun d hdd => by rw [gold j d (.inl hjx) (by omega)]; exact q3 d (by omega), q4, q5, q6⟩
  ·obtain ⟨i, hi⟩ : ∃ i : Nat, j = l.nx.toNat + i := ⟨j - l.nx.toNat, by omega⟩
   subst hi
   obtain ⟨q1, q2⟩ := fnew i (by omega)
   refine ⟨q1, _, q2, fun d hdd => ?_, hpc i (by omega), rfl, by show l.nx + (i : Int) = _; omega⟩
   have := gnew i d (by omega) (by omega)
   rw [show l.f + (l.nx + (i : Int)) = l.f + ((l.nx.toNat + i : Nat) : Int) from by omega] at this
   exact this
 ·have hj1 : l.nx + (n : Int) ≤ j := hj1
  show heldS s1 ((d : Int), l.f + j) = zeros
  rw [gold j d (.inr hj1) (by omega)]
  exact h.blank j d (by omega) hj2 (by omega)
 ·have := hstep n (Nat.le_refl _)
  rw [if_pos rfl] at this
  show opA s1 l.f l.b (l.nx + (n : Int)).toNat = ⟨false, 0, [], hv ++ [t], (l.nx + (n : Int)).toNat⟩
  rw [show (l.nx + (n : Int)).toNat = l.nx.toNat + n from by omega]
  exact this
theorem LgI.opens {l : LgV} {hv : List ByteArray} {s : RA} (h : LgI l hv s) : openE s l.f l.c l.b = 0 ∧ openL s l.f l.c l.b = hv ∧ (openN s l.f l.c l.b : Int) = l.nx := by
 have lf := h.ok.f
 have lc := h.ok.c
 have lb := h.ok.b
 have lx := h.ok.nx
 have li := h.ok.in_
 have hO : opOk s l.f l.c l.b := ⟨lf, lc.1, lc.2, by omega, lb.1, lb.2⟩
 by_cases hfull : l.nx = l.c
 ·obtain ⟨e1, e2, e3⟩ := open_end hO (k := l.nx.toNat) (by omega) (.inr (by rw [hfull]))
  rw [h.op] at e1 e2 e3
  exact ⟨e1, e3 e1, by rw [e2]; dsimp only; omega⟩
 ·obtain ⟨q1, q2⟩ := find_miss h.hale (f := l.f) (b := l.b) (j := l.nx.toNat) (by omega) (fun d hd => by rw [h.blank l.nx.toNat d (by omega) (by omega) hd]; exact pc_zeros)
  obtain ⟨-, b2, -, -⟩ := opA_at (s := s) (f := l.f) (b := l.b) (k := l.nx.toNat) (by rw [h.op]) (by rw [h.op]) q1 q2
  obtain ⟨c1, c2, c3, c4⟩ := b2 rfl rfl
  obtain ⟨e1, e2, e3⟩ := open_end hO (k := l.nx.toNat + 1) (by omega) (.inl c1)
  rw [c2] at e1
  have e3 := e3 e1
  rw [c3, h.op] at e3
  rw [c4, h.op] at e2
  exact ⟨e1, e3, by rw [e2]; dsimp only; omega⟩
end Go.Proofs.YtjeldcjchipdgaaGreatDoor
namespace Go.Proofs.YtjeldcjchipdgaaGreatDoor
open Go.RowKit Go.HL
set_option maxRecDepth 100000
theorem iappend_calls {A : Nat → Prop} {w : World} {R L : Nat} {s : RA} {l : LgV} (h : RK A w R s) (hL : Blk w L 125 (lgC R l)) (hLA : ¬ A L) (hl : l.ok s.sn) (t : ByteArray) (ht : t.size ≤ 140737488351232) (hw9 : s.waits.length ≤ 80000) :
 Calls Tryz.prog 34 [ptr L, .string t].toArray w (Ret fun v w' => v = vi (apE s l t) ∧ RK (fun x => A x ∨ (w.heap.size ≤ x)) w' R (apS s l t) ∧ Blk w' L 125 (lgC R (apL s l t)) ∧ Chg (fun x => A x ∨ x = L) w w') := by
 refine (iappend_in h.old (fun x hx => hx.2) hL (fun x => hLA x.1) hl t ht hw9).mono ?_
 rintro e w' ⟨v, rfl, rfl, hR, hB, k⟩
 exact ⟨_, rfl, rfl, hR.mono (fun x hx => hx.elim (fun h => .inl h.1) .inr), hB, k.mono (fun x _ hx => hx.elim (fun h => .inl h.1) .inr)⟩
theorem same13_calls {S1 S2 : Nat → Prop} {w : World} {a1 a2 : Option Addr} {c1 c2 : Nat} {l1 l2 : List ByteArray} (h1 : RSl S1 w es a1 c1 l1) (h2 : RSl S2 w es a2 c2 l2) (z1 : l1.length ≤ 1000000) :
 Calls Tryz.prog 38 [.slice a1 l1.length c1, .slice a2 l2.length c2].toArray w (Ret fun v w' => v = .bool (decide (l1 = l2)) ∧ Chg Nob w w') := by
 have hw := Chg.refl Nob w
 refine Calls.of_WC Tryz.func38 rfl Tryz.ntmps38 (by simp) ?_
 refine WC.sr (WL.assign rfl rfl (WL.t (WC.seq (WC.sr (WL.move rfl rfl (WL.len Tryz.underlying70 rfl rfl (WL.move rfl rfl (WL.len Tryz.underlying70 rfl rfl (WL.qo rfl rfl rfl (fun h10 => ?_) (fun h10 => ?_))))))))))
 ·refine WL.t (WC.qb rfl (WC.sr (WL.assign rfl rfl (WL.t (WC.ret (WX.qb (WX.qg (.inl rfl) Tryz.results38 rfl ?_)))))))
  refine ⟨_, rfl, ?_, hw⟩
  congr 1
  symm
  refine decide_eq_false (fun h => ?_)
  subst h
  exfalso
  have h10 : (l1.length : Int) ≠ l1.length := by assumption
  exact h10 rfl
 ·refine WL.t (WC.qa rfl (WC.skip (WX.qa (WC.seq (WC.sr (WL.assign rfl rfl (WL.t (WC.block (?_)))))))))
  refine WC.loop (σ := Nat) (fun k => [(0, .slice a1 l1.length c1), (1, .slice a2 l2.length c2), (5, vi (k : Int))])
   (fun k w' => k ≤ l1.length ∧ l1.take k = l2.take k ∧ RSl S1 w' es a1 c1 l1 ∧ RSl S2 w' es a2 c2 l2 ∧ Chg Nob w w') (fun k => l1.length - k) 0 ⟨rfl, rfl, rfl, trivial⟩ ⟨Nat.zero_le _, rfl, h1, h2, hw⟩ ?_
  clear h1 h2 hw
  rintro k w3 ⟨hk, hE, h1, h2, hw⟩
  refine WC.seq (WC.sr (WL.move rfl rfl (WL.move rfl rfl (WL.len Tryz.underlying70 rfl rfl (WL.qh rfl rfl rfl (fun h14 => ?_) (fun h14 => ?_))))))
  ·refine WL.t (WC.qb rfl (WC.skip (WX.qa (WC.seq (WC.block (WC.seq (?_)))))))
   obtain ⟨x, hx⟩ : ∃ x, l1[k]? = some x := ⟨_, List.getElem?_eq_getElem (by omega)⟩
   obtain ⟨y, hy⟩ : ∃ y, l2[k]? = some y := ⟨_, List.getElem?_eq_getElem (by omega)⟩
   obtain ⟨b1, o1, rfl⟩ := h1.place hx
   obtain ⟨b2, o2, rfl⟩ := h2.place hy
   by_cases hxy : x = y
   ·refine WC.qc (Nob) [0, 1, 2, 3, 4, 5, 6, 7, 8] [] mixed rfl rfl (fun wd_1 kd_1 zd_1 => ?_)
    have zs_kd_1 := kd_1.size
    replace h1 := h1.pure kd_1
    replace h2 := h2.pure kd_1
    replace hw := hw.pure kd_1
    apply DQ.step [(0, _)] rfl ⟨rfl, trivial⟩ rfl (fun _ _ => WL.move rfl rfl  WL.q)
    apply DQ.step [(5, _)] rfl ⟨rfl, trivial⟩ rfl (fun _ _ => WL.move rfl rfl  WL.q)
    apply DQ.step [(17, _), (18, _)] rfl ⟨rfl, rfl, trivial⟩ rfl
    ·intro wq_4 kq_4
     have zs_kq_4 := kq_4.size
     replace h1 := h1.pure kq_4
     replace h2 := h2.pure kq_4
     replace hw := hw.pure kq_4
     refine WL.qf h1 Tryz.underlying70 Tryz.sizeOf9 rfl rfl ⟨hx, rfl⟩ rfl (WL.q)
    apply DQ.step [(19, _)] rfl ⟨rfl, trivial⟩ rfl
    ·intro wq_5 kq_5
     have zs_kq_5 := kq_5.size
     replace h1 := h1.pure kq_5
     replace h2 := h2.pure kq_5
     replace hw := hw.pure kq_5
     refine WL.load Tryz.isAgg9 rfl ((h1.cellsAt hx) 0 _ rfl) rfl (WL.q)
    apply DQ.step [(1, _)] rfl ⟨rfl, trivial⟩ rfl (fun _ _ => WL.move rfl rfl  WL.q)
    apply DQ.step [(5, _)] rfl ⟨rfl, trivial⟩ rfl (fun _ _ => WL.move rfl rfl  WL.q)
    apply DQ.step [(21, _), (22, _)] rfl ⟨rfl, rfl, trivial⟩ rfl
    ·intro wq_8 kq_8
     have zs_kq_8 := kq_8.size
     replace h1 := h1.pure kq_8
     replace h2 := h2.pure kq_8
     replace hw := hw.pure kq_8
     refine WL.qf h2 Tryz.underlying70 Tryz.sizeOf9 rfl rfl ⟨hy, rfl⟩ rfl (WL.q)
    apply DQ.step [(23, _)] rfl ⟨rfl, trivial⟩ rfl
    ·intro wq_9 kq_9
     have zs_kq_9 := kq_9.size
     replace h1 := h1.pure kq_9
     replace h2 := h2.pure kq_9
     replace hw := hw.pure kq_9
     refine WL.load Tryz.isAgg9 rfl ((h2.cellsAt hy) 0 _ rfl) rfl (WL.q)
    apply DQ.step [(20, _), (24, _)] rfl ⟨rfl, rfl, trivial⟩ rfl
    ·intro wq_10 kq_10
     refine WL.sneqF rfl rfl rfl (hxy) (WL.q)
    refine DQ.done (fun _ => ?_)
    refine DL.done (fun we_11 ke_11 => ?_)
    have zs_ke_11 := ke_11.size
    replace h1 := h1.pure ke_11
    replace h2 := h2.pure ke_11
    replace hw := hw.pure ke_11
    refine WX.qa (WC.qa rfl (WC.skip (WX.qc (WX.qa (WC.region (WL.move rfl rfl (WL.qe rfl rfl (by omega) rfl (?_))))))))
    refine WL.assign rfl rfl (WL.nil (?_))
    refine WX.qf (k + 1) ⟨rfl, rfl, rfl, trivial⟩ ⟨by omega, ?_, h1, h2, hw⟩ (by show _ - _ < _ - _; omega)
    rw [List.take_add_one, List.take_add_one, hE, hx, hy, hxy]
   ·refine WC.qc (Nob) [0, 1, 2, 3, 4, 5, 6, 7, 8] [] mixed rfl rfl (fun wd_1 kd_1 zd_1 => ?_)
    have zs_kd_1 := kd_1.size
    replace h1 := h1.pure kd_1
    replace h2 := h2.pure kd_1
    replace hw := hw.pure kd_1
    apply DQ.step [(0, _)] rfl ⟨rfl, trivial⟩ rfl (fun _ _ => WL.move rfl rfl  WL.q)
    apply DQ.step [(5, _)] rfl ⟨rfl, trivial⟩ rfl (fun _ _ => WL.move rfl rfl  WL.q)
    apply DQ.step [(17, _), (18, _)] rfl ⟨rfl, rfl, trivial⟩ rfl
    ·intro wq_4 kq_4
     have zs_kq_4 := kq_4.size
     replace h1 := h1.pure kq_4
     replace h2 := h2.pure kq_4
     replace hw := hw.pure kq_4
     refine WL.qf h1 Tryz.underlying70 Tryz.sizeOf9 rfl rfl ⟨hx, rfl⟩ rfl (WL.q)
    apply DQ.step [(19, _)] rfl ⟨rfl, trivial⟩ rfl
    ·intro wq_5 kq_5
     have zs_kq_5 := kq_5.size
     replace h1 := h1.pure kq_5
     replace h2 := h2.pure kq_5
     replace hw := hw.pure kq_5
     refine WL.load Tryz.isAgg9 rfl ((h1.cellsAt hx) 0 _ rfl) rfl (WL.q)
    apply DQ.step [(1, _)] rfl ⟨rfl, trivial⟩ rfl (fun _ _ => WL.move rfl rfl  WL.q)
    apply DQ.step [(5, _)] rfl ⟨rfl, trivial⟩ rfl (fun _ _ => WL.move rfl rfl  WL.q)
    apply DQ.step [(21, _), (22, _)] rfl ⟨rfl, rfl, trivial⟩ rfl
    ·intro wq_8 kq_8
     have zs_kq_8 := kq_8.size
     replace h1 := h1.pure kq_8
     replace h2 := h2.pure kq_8
     replace hw := hw.pure kq_8
     refine WL.qf h2 Tryz.underlying70 Tryz.sizeOf9 rfl rfl ⟨hy, rfl⟩ rfl (WL.q)
    apply DQ.step [(23, _)] rfl ⟨rfl, trivial⟩ rfl
    ·intro wq_9 kq_9
     have zs_kq_9 := kq_9.size
     replace h1 := h1.pure kq_9
     replace h2 := h2.pure kq_9
     replace hw := hw.pure kq_9
     refine WL.load Tryz.isAgg9 rfl ((h2.cellsAt hy) 0 _ rfl) rfl (WL.q)
    apply DQ.step [(20, _), (24, _)] rfl ⟨rfl, rfl, trivial⟩ rfl
    ·intro wq_10 kq_10
     refine WL.sneqT rfl rfl rfl (hxy) (WL.q)
    refine DQ.done (fun _ => ?_)
    refine DL.done (fun we_11 ke_11 => ?_)
    have zs_ke_11 := ke_11.size
    replace h1 := h1.pure ke_11
    replace h2 := h2.pure ke_11
    replace hw := hw.pure ke_11
    refine WX.qa (WC.qb rfl (WC.sr (WL.assign rfl rfl (WL.t (WC.ret (WX.qe (WX.qb (WX.qb (WX.qe (WX.qb (WX.qg (.inl rfl) Tryz.results38 rfl ?_)))))))))))
    refine ⟨_, rfl, ?_, hw⟩
    congr 1
    symm
    refine decide_eq_false (fun h => ?_)
    subst h
    rw [hx] at hy
    injection hy with hy
    exact hxy hy
  ·refine WL.t (WC.qa rfl (WC.exit (WX.qd (WX.qd (WX.qh (WX.qa (WC.sr (WL.assign rfl rfl (WL.t (WC.ret (WX.qg (.inl rfl) Tryz.results38 rfl ?_)))))))))))
   refine ⟨_, rfl, ?_, hw⟩
   congr 1
   symm
   refine decide_eq_true ?_
   rw [List.take_of_length_le (by omega), List.take_of_length_le (by omega)] at hE
   exact hE
theorem short_calls (s : ByteArray) (w : World) : Calls Tryz.prog 39 [.string s].toArray w (Ret fun v w' => v = .string (s.extract 0 (min s.size 300)) ∧ Chg Nob w w') := by
 have hw := Chg.refl Nob w
 refine Calls.of_WC Tryz.func39 rfl Tryz.ntmps39 (by simp) ?_
 refine WC.sr (WL.assign rfl rfl (WL.t (WC.sr (WL.move rfl rfl (WL.move rfl rfl (WL.qr Tryz.underlying9 rfl rfl (WL.mini rfl rfl rfl ?_)))))))
 rw [show (if (300 : Int) < (s.size : Int) then (300 : Int) else (s.size : Int)) = ((min s.size 300 : Nat) : Int) from by split <;> omega]
 refine WL.qv (h := min s.size 300) (k := .i64) Tryz.underlying9 rfl (.inr ⟨rfl, rfl⟩) (.inl rfl) (by constructor <;> omega) rfl ?_
 refine WL.assign rfl rfl (WL.t (WC.ret (WX.qg (.inl rfl) Tryz.results39 rfl ?_)))
 exact ⟨_, rfl, rfl, hw⟩
theorem LgI.held {l : LgV} {hv : List ByteArray} {s s' : RA} (h : LgI l hv s) (h' : Hale s') (ed : s'.dn = s.dn) (en : s'.sn = s.sn) (eh : ∀ d a : Nat, d < s.dn → heldS s' ((d : Int), (a : Int)) = heldS s ((d : Int), (a : Int))) : LgI l hv s' := by
 have lf := h.ok.f
 have lx := h.ok.nx
 have li := h.ok.in_
 have eh2 : ∀ d j : Nat, d < s.dn → heldS s' ((d : Int), l.f + j) = heldS s ((d : Int), l.f + j) := fun d j hd => by
  have := eh d (l.f + j).toNat hd
  rw [show (((l.f + j).toNat : Nat) : Int) = l.f + j from by omega] at this
  exact this
 have hd := h.dn
 have hh : ∀ j : Nat, (j : Int) < l.nx → findE s' l.f l.b j = findE s l.f l.b j ∧ findP s' l.f l.b j = findP s l.f l.b j := fun j hj => by
  obtain ⟨q1, p, q2, q3, q4, q5, q6⟩ := h.hit j hj
  obtain ⟨r1, r2⟩ := find_hit h' (by omega) (f := l.f) (b := l.b) (j := j) (by omega) q4 q5 q6 (by
   have := eh2 0 j (by omega)
   rw [q3 0 (by omega)] at this
   exact this)
  exact ⟨r1.trans q1.symm, r2.trans q2.symm⟩
 refine ⟨by rw [en]; exact h.ok, h', by omega, fun j hj => ?_, fun j d h1 h2 h3 => by rw [eh2 d j (by omega)]; exact h.blank j d h1 h2 (by omega), ?_⟩
 ·obtain ⟨r1, r2⟩ := hh j hj
  obtain ⟨q1, p, q2, q3, q4⟩ := h.hit j hj
  exact ⟨r1.trans q1, p, r2.trans q2, fun d hdd => by rw [eh2 d j (by omega)]; exact q3 d (by omega), q4⟩
 ·rw [opA_congr (s := s) l.nx.toNat (fun j hj => hh j (by omega)), h.op]
set_option maxHeartbeats 4000000 in
theorem known13_calls (w : World) : Calls Tryz.prog 31 [].toArray w (Ret fun v w' => v = .bool true ∧ Chg Nob w w') := by
 have hw := Chg.refl Nob w
 obtain ⟨s0, sd, sn, u0, sg, sh, sl, sw, hNew⟩ := new_all 5 20 (by decide) (by decide)
 have hI0 : LgI ⟨8, 10, 3, 0⟩ [] s0 := LgI.new ⟨by show (0 : Int) ≤ 8; omega, by show (1 : Int) ≤ 10 ∧ (10 : Int) ≤ 500; omega, by show (0 : Int) ≤ 3 ∧ (3 : Int) ≤ _; omega, by show (0 : Int) ≤ 0 ∧ (0 : Int) ≤ 10; omega, by show (8 : Int) + 10 ≤ _; omega⟩ ⟨u0, sg⟩ (by omega) rfl (fun j d _ _ => sh _)
 obtain ⟨o1, o2, o3⟩ := hI0.opens
 have sw0 : s0.waits.length = 0 := by rw [sw]; rfl
 obtain ⟨T, eT⟩ : ∃ T : ByteArray, T = ⟨#[97, 98, 99]⟩ := ⟨_, rfl⟩
 have hT3 : T.size = 3 := by rw [eT]; rfl
 have hTn : needN T = 1 := by unfold needN; rw [hT3]; decide
 obtain ⟨p1, p2, hI1, q1, q2, q3, q4, q5⟩ := hI0.append T (by rw [hTn]; show (1 : Int) ≤ 10 - 0; omega)
 have e1 : openE s0 8 10 3 = 0 := o1
 have e2 : openL s0 8 10 3 = [] := o2
 have e3 : (openN s0 8 10 3 : Int) = 0 := o3
 obtain ⟨s1, es1⟩ : ∃ s1, s1 = apS s0 ⟨8, 10, 3, 0⟩ T := ⟨_, rfl⟩
 rw [← es1] at hI1 q1 q2 q3 q4 q5
 have hl1 : ({ f := 8, c := 10, b := 3, nx := (0 : Int) + needN T } : LgV) = ⟨8, 10, 3, 1⟩ := by rw [hTn]; rfl
 have hI2 : LgI ⟨8, 10, 3, 1⟩ [T] s1 := by
  have h9 := hI1
  show LgI ⟨8, 10, 3, 1⟩ ([] ++ [T]) s1
  rw [← hl1]
  exact h9
 have p2' : apL s0 ⟨8, 10, 3, 0⟩ T = ⟨8, 10, 3, 1⟩ := p2.trans hl1
 have hI3 : LgI ⟨8, 10, 3, 1⟩ [T] (crashS (allS s1) []) := by
  refine hI2.held ⟨crash_up _ _, fun d => hI2.hale.gone d⟩ rfl rfl (fun d a _ => ?_)
  rw [crash_held, crash_nil, allS_last]
 obtain ⟨r1, r2, r3⟩ := hI3.opens
 have r1 : openE (crashS (allS s1) []) 8 10 3 = 0 := r1
 have r2 : openL (crashS (allS s1) []) 8 10 3 = [T] := r2
 refine Calls.of_WC Tryz.func31 rfl Tryz.ntmps31 (by simp) ?_
 refine WC.sr (WL.assign rfl rfl (WL.t (WC.sr (WL.call eg_6 rfl rfl (hNew _) ?_))))
 rintro v w1 ⟨⟨R, rfl, hR⟩, k1⟩
 have zs_k1 := k1.size
 replace hw := hw.pure k1
 refine WL.move rfl rfl (WL.extract rfl rfl rfl (WL.extract rfl rfl rfl (WL.assign rfl rfl (WL.assign rfl rfl (WL.t (WC.seq (WC.region (WL.move rfl rfl (WL.call eg_36 rfl rfl (iopen_calls hR 8 10 3 ⟨by decide, by decide⟩ ⟨by decide, by decide⟩) ?_)))))))))
 rintro v w2 ⟨⟨pl, ao, cp, rfl, hq, hno, hyes⟩, k2⟩
 obtain ⟨L, rfl, hL0, hLq, hL, hlk⟩ := hyes e1
 rw [e1, e2] at *
 rw [e3] at hL hlk
 replace hR := hR.old
 have zs_k2 := k2.size
 replace hw := hw.pure k2
 replace hR := hR.pure k2
 refine WL.move rfl rfl (WL.extract rfl rfl rfl (WL.extract rfl rfl rfl (WL.extract rfl rfl rfl (WL.assign rfl rfl (WL.assign rfl rfl (WL.assign rfl rfl (WL.nil (WX.qa (WC.seq (WC.sr (WL.move rfl rfl (WL.qs rfl rfl rfl (rfl) ?_))))))))))))
 refine WL.move rfl rfl (WL.qa rfl rfl rfl (WL.move rfl rfl (WL.qa rfl rfl rfl (WL.qs rfl rfl rfl (rfl) ?_))))
 refine WL.qc rfl rfl rfl (WL.move rfl rfl (WL.qa rfl rfl rfl (WL.move rfl rfl (WL.qa rfl rfl rfl (WL.qq Tryz.underlying66 rfl rfl rfl ?_)))))
 refine WL.qc rfl rfl rfl (WL.move rfl rfl (WL.qa rfl rfl rfl (WL.move rfl rfl (WL.qa rfl rfl rfl (?_)))))
 have hLA : ¬ (w.heap.size ≤ L ∧ L < w1.heap.size) := fun h => by omega
 refine WL.call eg_34 rfl rfl (iappend_calls hR hL (fun h => by omega) hI0.ok (⟨#[97, 98, 99]⟩ : ByteArray) (by decide) (by omega)) ?_
 rintro v w3 ⟨rfl, hR3, hL3, k3⟩
 rw [← eT] at hR3 hL3 ⊢
 rw [p1]
 rw [← es1] at hR3
 rw [p2'] at hL3
 replace hw := hw.trans k3 (fun x h1 h2 => by rcases h2 with h3 | h3 <;> omega)
 have z3 := k3.size
 refine WL.qa rfl rfl rfl (WL.qs rfl rfl rfl (rfl) ?_)
 refine WL.qc rfl rfl rfl (WL.move rfl rfl (WL.qa rfl rfl rfl (WL.move rfl rfl (WL.qa rfl rfl rfl (WL.call eg_11 rfl rfl (FlushU hR3 hI2.hale.up) ?_)))))
 rintro v w4 ⟨rfl, hR4, k4⟩
 replace hL3 := hL3.chg k4 (fun h => by rcases h with h | h; omega; have := hL.lt; omega)
 replace hw := hw.trans k4 (fun x h1 h2 => by rcases h2 with h3 | h3; omega; omega)
 refine WL.qa rfl rfl rfl (WL.qs rfl rfl rfl (rfl) ?_)
 refine WL.qc rfl rfl rfl (WL.move rfl rfl (WL.qa rfl rfl rfl (WL.move rfl rfl (WL.qa rfl rfl rfl (WL.call eg_33 rfl rfl (lroom_calls hL3 hI2.ok) ?_)))))
 rintro v w5 ⟨rfl, k5⟩
 have zs_k5 := k5.size
 replace hR4 := hR4.pure k5
 replace hL3 := hL3.pure k5
 replace hw := hw.pure k5
 refine WL.qa rfl rfl rfl (WL.qs rfl rfl rfl ((by decide)) ?_)
 refine WL.qc rfl rfl rfl (WL.t (WC.qa rfl (WC.skip (WX.qa (WC.sr (WL.move rfl rfl (WL.call eg_13 rfl rfl (Crash0_calls hR4) ?_)))))))
 rintro v w6 ⟨rfl, hR6, k6⟩
 replace hw := hw.trans k6 (fun x h1 h2 => by rcases h2 with h3 | h3; omega; omega)
 refine WL.t (WC.sr (WL.move rfl rfl (WL.call eg_36 rfl rfl (iopen_calls hR6 8 10 3 ⟨by decide, by decide⟩ ⟨by decide, by decide⟩) ?_)))
 rintro v w7 ⟨⟨pl2, ao2, cp2, rfl, hq2, hno2, hyes2⟩, k7⟩
 rw [r1, r2] at *
 have zs_k7 := k7.size
 replace hw := hw.pure k7
 refine WL.move rfl rfl (WL.extract rfl rfl rfl (WL.extract rfl rfl rfl (WL.extract rfl rfl rfl (WL.assign rfl rfl (WL.assign rfl rfl (WL.assign rfl rfl (WL.nil (WX.qa (WC.sr (WL.move rfl rfl (WL.eqlT rfl rfl rfl (rfl) ?_)))))))))))
 refine WL.move rfl rfl (WL.qa rfl rfl rfl (WL.move rfl rfl (WL.qa rfl rfl rfl (?_))))
 refine WL.build (e := es) [T] Tryz.underlying70 Tryz.sizeOf9 Tryz.zeroValue9 rfl rfl rfl (by simp [Value.cells] <;> rfl) (by decide) rfl ?_
 intro a_hn w_hn hn l_hn z_hn k_hn
 have zs_k_hn := k_hn.size
 replace hw := hw.pure k_hn
 replace hq2 := hq2.pure k_hn
 refine WL.qa rfl rfl rfl (WL.call eg_38 rfl rfl (same13_calls hq2.rsl hn.rsl (by simp)) ?_)
 rintro v w8 ⟨rfl, k8⟩
 rw [decide_eq_true rfl]
 have zs_k8 := k8.size
 replace hw := hw.pure k8
 replace hq2 := hq2.pure k8
 replace hn := hn.pure k8
 refine WL.qd rfl rfl rfl (WL.assign rfl rfl (WL.t (WC.ret (WX.qg (.inl rfl) Tryz.results31 rfl ?_))))
 exact ⟨_, rfl, rfl, hw⟩
end Go.Proofs.YtjeldcjchipdgaaGreatDoor
namespace Go.Proofs.YtjeldcjchipdgaaGreatDoor
open Go.RowKit Go.HL
set_option maxRecDepth 100000
theorem dappend_calls {A : Nat → Prop} {w : World} {D L : Nat} {s : RA} {l : LgV} (h : RD A w D s) (hL : Blk w L 81 (lgC D l)) (hLA : ¬ A L) (hl : l.ok s.sn) (t : ByteArray) (ht : t.size ≤ 140737488351232) (hw9 : s.waits.length ≤ 80000) :
 Calls Tryz.prog 40 [ptr L, .string t].toArray w (Ret fun v w' => v = vi (apE s l t) ∧ RD (fun x => A x ∨ (w.heap.size ≤ x)) w' D (apS s l t) ∧ Blk w' L 81 (lgC D (apL s l t)) ∧ Chg (fun x => A x ∨ x = L) w w') := by
 refine (dappend_in h.old (fun x hx => hx.2) hL (fun x => hLA x.1) hl t ht hw9).mono ?_
 rintro e w' ⟨v, rfl, rfl, hR, hB, k⟩
 exact ⟨_, rfl, rfl, hR.mono (fun x hx => hx.elim (fun h => .inl h.1) .inr), hB, k.mono (fun x _ hx => hx.elim (fun h => .inl h.1) .inr)⟩
def rsE (l : LgV) (b : Int) : Int := if b ≤ l.b ∨ 1125899906842624 < b then 1 else 0
def rsL (l : LgV) (b : Int) : LgV := if b ≤ l.b ∨ 1125899906842624 < b then l else { l with b := b, nx := 0 }
theorem rsL_ok {l : LgV} {sn : Nat} (h : l.ok sn) (b : Int) : (rsL l b).ok sn := by
 unfold rsL
 split
 ·exact h
 ·rename_i h1
  have h2 := h.b
  have h3 := h.c
  exact ⟨h.f, h.c, ⟨by show 0 ≤ b; omega, by show b ≤ _; omega⟩, ⟨by show (0 : Int) ≤ 0; omega, by show 0 ≤ l.c; omega⟩, h.in_⟩
theorem ireset_calls {w : World} {R L : Nat} {l : LgV} (hL : Blk w L 125 (lgC R l)) (b : Int) :
 Calls Tryz.prog 35 [ptr L, vi b].toArray w (Ret fun v w' => v = vi (rsE l b) ∧ Blk w' L 125 (lgC R (rsL l b)) ∧ Chg (fun x => x = L) w w') := by
 have hw := Chg.refl (fun x => x = L) w
 refine Calls.of_WC Tryz.func35 rfl Tryz.ntmps35 (by simp) ?_
 refine WC.sr (WL.assign rfl rfl (WL.t (WC.seq (WC.sr (WL.move rfl rfl (WL.qq Tryz.underlying66 rfl rfl rfl ?_))))))
 refine WL.move rfl rfl (WL.qa rfl rfl rfl (WL.move rfl rfl (WL.qa rfl rfl rfl (WL.move rfl rfl (WL.qa rfl rfl rfl (WL.nilCheck rfl rfl (WL.qa rfl rfl rfl (WL.fieldAddr (fld_125_3) rfl rfl (WL.qa rfl rfl rfl (WL.qb Tryz.isAgg3 hL rfl rfl rfl (WL.qa rfl rfl rfl (WL.leq? rfl rfl rfl (fun h13 => ?_) (fun h13 => ?_)))))))))))))
 ·refine WL.qc rfl rfl rfl (WL.move rfl rfl (WL.pass rfl rfl rfl rfl (WL.pass rfl rfl rfl rfl (WL.qd rfl rfl rfl (WL.t (WC.qb rfl (WC.sr (WL.assign rfl rfl (WL.t (WC.ret (WX.qb (WX.qg (.inl rfl) Tryz.results35 rfl ?_))))))))))))
  have hz : b ≤ l.b := h13
  rw [rsE, rsL, if_pos (.inl hz), if_pos (.inl hz)]
  exact ⟨_, rfl, rfl, hL, hw⟩
 ·refine WL.qc rfl rfl rfl (WL.move rfl rfl (WL.qa rfl rfl rfl (WL.move rfl rfl (WL.qa rfl rfl rfl (WL.qn rfl rfl rfl (fun h17 => ?_) (fun h17 => ?_))))))
  ·refine WL.qc rfl rfl rfl (WL.t (WC.qb rfl (WC.sr (WL.assign rfl rfl (WL.nil (WX.qa (WC.ret (WX.qb (WX.qg (.inl rfl) Tryz.results35 rfl ?_)))))))))
   have hz : 1125899906842624 < b := h17
   rw [rsE, rsL, if_pos (.inr hz), if_pos (.inr hz)]
   exact ⟨_, rfl, rfl, hL, hw⟩
  ·refine WL.qc rfl rfl rfl (WL.t (WC.qa rfl (WC.skip (WX.qa (WC.sr (WL.move rfl rfl (WL.move rfl rfl (WL.move rfl rfl (WL.nilCheck rfl rfl (WL.fieldAddr (fld_125_3) rfl rfl (WL.store Tryz.sizeOf3 hL rfl rfl rfl rfl ?_)))))))))))
   intro w_1 hs_1 hn_1 k_1
   have zs_k_1 := k_1.size
   replace hw := hw.chg k_1 (by intro x h1 h2; exact h2)
   replace hL := hn_1
   refine WL.nilCheck rfl rfl (WL.fieldAddr (fld_125_4) rfl rfl (WL.store Tryz.sizeOf3 hL rfl rfl rfl rfl ?_))
   intro w_2 hs_2 hn_2 k_2
   have zs_k_2 := k_2.size
   replace hw := hw.chg k_2 (by intro x h1 h2; exact h2)
   replace hL := hn_2
   refine WL.t (WC.sr (WL.assign rfl rfl (WL.t (WC.ret (WX.qg (.inl rfl) Tryz.results35 rfl ?_)))))
   rw [rsE, rsL, if_neg (by omega), if_neg (by omega)]
   exact ⟨_, rfl, rfl, Blk.eqc hL rfl, hw⟩
theorem dreset_calls {w : World} {D L : Nat} {l : LgV} (hL : Blk w L 81 (lgC D l)) (b : Int) :
 Calls Tryz.prog 41 [ptr L, vi b].toArray w (Ret fun v w' => v = vi (rsE l b) ∧ Blk w' L 81 (lgC D (rsL l b)) ∧ Chg (fun x => x = L) w w') := by
 have hw := Chg.refl (fun x => x = L) w
 refine Calls.of_WC Tryz.func41 rfl Tryz.ntmps41 (by simp) ?_
 refine WC.sr (WL.assign rfl rfl (WL.t (WC.seq (WC.sr (WL.move rfl rfl (WL.move rfl rfl (WL.nilCheck rfl rfl (WL.fieldAddr (fld_81_3) rfl rfl (WL.qb Tryz.isAgg3 hL rfl rfl rfl (WL.leq? rfl rfl rfl (fun h10 => ?_) (fun h10 => ?_)))))))))))
 ·refine WL.move rfl rfl (WL.pass rfl rfl rfl rfl (WL.pass rfl rfl rfl rfl (WL.qd rfl rfl rfl (WL.t (WC.qb rfl (WC.seq (WC.region (WL.assign rfl rfl (WL.t (WC.ret (WX.qb (WX.qg (.inl rfl) Tryz.results41 rfl ?_))))))))))))
  have hz : b ≤ l.b := h10
  rw [rsE, rsL, if_pos (.inl hz), if_pos (.inl hz)]
  exact ⟨_, rfl, rfl, hL, hw⟩
 ·refine WL.move rfl rfl (WL.qa rfl rfl rfl (WL.move rfl rfl (WL.qa rfl rfl rfl (WL.qn rfl rfl rfl (fun h13 => ?_) (fun h13 => ?_)))))
  ·refine WL.qc rfl rfl rfl (WL.t (WC.qb rfl (WC.sr (WL.assign rfl rfl (WL.nil (WX.qa (WC.ret (WX.qb (WX.qg (.inl rfl) Tryz.results41 rfl ?_)))))))))
   have hz : 1125899906842624 < b := h13
   rw [rsE, rsL, if_pos (.inr hz), if_pos (.inr hz)]
   exact ⟨_, rfl, rfl, hL, hw⟩
  ·refine WL.qc rfl rfl rfl (WL.t (WC.qa rfl (WC.skip (WX.qa (WC.sr (WL.move rfl rfl (WL.move rfl rfl (WL.move rfl rfl (WL.nilCheck rfl rfl (WL.fieldAddr (fld_81_3) rfl rfl (WL.store Tryz.sizeOf3 hL rfl rfl rfl rfl ?_)))))))))))
   intro w_1 hs_1 hn_1 k_1
   have zs_k_1 := k_1.size
   replace hw := hw.chg k_1 (by intro x h1 h2; exact h2)
   replace hL := hn_1
   refine WL.nilCheck rfl rfl (WL.fieldAddr (fld_81_4) rfl rfl (WL.store Tryz.sizeOf3 hL rfl rfl rfl rfl ?_))
   intro w_2 hs_2 hn_2 k_2
   have zs_k_2 := k_2.size
   replace hw := hw.chg k_2 (by intro x h1 h2; exact h2)
   replace hL := hn_2
   refine WL.t (WC.sr (WL.assign rfl rfl (WL.t (WC.ret (WX.qg (.inl rfl) Tryz.results41 rfl ?_)))))
   rw [rsE, rsL, if_neg (by omega), if_neg (by omega)]
   exact ⟨_, rfl, rfl, Blk.eqc hL rfl, hw⟩
theorem nobody_calls (w : World) : Calls Tryz.prog 32 [].toArray w (Ret fun v w' => v = .pointer none ∧ Chg Nob w w') := by
 have hw := Chg.refl Nob w
 refine Calls.of_WC Tryz.func32 rfl Tryz.ntmps32 (by simp) ?_
 refine WC.sr (WL.assign rfl rfl (WL.t (WC.sr (WL.assign rfl rfl (WL.t (WC.ret (WX.qg (.inl rfl) Tryz.results32 rfl ?_)))))))
 exact ⟨_, rfl, rfl, hw⟩
theorem nilRoom_calls (w : World) : Calls Tryz.prog 33 [.pointer none].toArray w (Ret fun v w' => v = vi 0 ∧ Chg Nob w w') := by
 have hw := Chg.refl Nob w
 refine Calls.of_WC Tryz.func33 rfl Tryz.ntmps33 (by simp) ?_
 refine WC.sr (WL.assign rfl rfl (WL.t (WC.seq (WC.sr (WL.move rfl rfl (WL.qq Tryz.underlying66 rfl rfl rfl ?_))))))
 refine WL.t (WC.qb rfl (WC.sr (WL.assign rfl rfl (WL.t (WC.ret (WX.qb (WX.qg (.inl rfl) Tryz.results33 rfl ?_)))))))
 exact ⟨_, rfl, rfl, hw⟩
theorem nilReset_calls (w : World) (b : Int) : Calls Tryz.prog 35 [.pointer none, vi b].toArray w (Ret fun v w' => v = vi 1 ∧ Chg Nob w w') := by
 have hw := Chg.refl Nob w
 refine Calls.of_WC Tryz.func35 rfl Tryz.ntmps35 (by simp) ?_
 refine WC.sr (WL.assign rfl rfl (WL.t (WC.seq (WC.sr (WL.move rfl rfl (WL.qq Tryz.underlying66 rfl rfl rfl ?_))))))
 refine WL.move rfl rfl (WL.pass rfl rfl rfl rfl (WL.pass rfl rfl rfl rfl (WL.pass rfl rfl rfl rfl (WL.pass rfl rfl rfl rfl (WL.pass rfl rfl rfl rfl (WL.pass rfl rfl rfl rfl (WL.qd rfl rfl rfl (WL.move rfl rfl (WL.pass rfl rfl rfl rfl (WL.pass rfl rfl rfl rfl (WL.qd rfl rfl rfl (WL.t (WC.qb rfl (WC.seq (WC.region (WL.assign rfl rfl (WL.t (WC.ret (WX.qb (WX.qg (.inl rfl) Tryz.results35 rfl ?_))))))))))))))))))))
 exact ⟨_, rfl, rfl, hw⟩
theorem nilAppend_calls (w : World) : Calls Tryz.prog 34 [.pointer none, .string ⟨#[]⟩].toArray w (Ret fun v w' => v = vi 1 ∧ Chg Nob w w') := by
 have hw := Chg.refl Nob w
 refine Calls.of_WC Tryz.func34 rfl Tryz.ntmps34 (by simp) ?_
 refine WC.sr (WL.assign rfl rfl (WL.t (WC.sr (WL.move rfl rfl (WL.call eg_42 rfl rfl (need_calls ⟨#[]⟩ _ (by decide)) ?_)))))
 rintro v w1 ⟨rfl, k1⟩
 have zs_k1 := k1.size
 replace hw := hw.pure k1
 refine WL.assign rfl rfl (WL.t (WC.seq (WC.block (WC.sr (WL.move rfl rfl (WL.qq Tryz.underlying66 rfl rfl rfl ?_))))))
 refine WL.assign rfl rfl (WL.t (WC.qb rfl (WC.sr (WL.assign rfl rfl (WL.nil (WX.qa (WC.ret (WX.qe (WX.qb (WX.qg (.inl rfl) Tryz.results34 rfl ?_))))))))))
 exact ⟨_, rfl, rfl, hw⟩
end Go.Proofs.YtjeldcjchipdgaaGreatDoor
namespace Go.Proofs.YtjeldcjchipdgaaGreatDoor
open Go.RowKit Go.HL
set_option maxRecDepth 100000
structure OpV where
 kind : Int
 drive : Int
 at_ : Int
 fill : Int
 n : Int
 pao : Option Addr
 pcap : Nat
 picks : List Int
section
variable {S M : Nat → Prop} {w w' : World} {ao : Option Addr} {c : Nat} {l : List OpV}
end
end Go.Proofs.YtjeldcjchipdgaaGreatDoor
namespace Go.Proofs.YtjeldcjchipdgaaGreatDoor
open Go.RowKit Go.HL
set_option maxRecDepth 100000
theorem rotS_dn (s : RA) (p : Pl) (n : Int) : (rotS s p n).dn = s.dn := by unfold rotS; split <;> rfl
theorem rotS_sn (s : RA) (p : Pl) (n : Int) : (rotS s p n).sn = s.sn := by unfold rotS; split <;> rfl
theorem mput_len {K V : Type} [DecidableEq K] {l : List (K × V)} {k : K} {v : V} (h : (mget l k).isSome = true) : (mput l k v).length = l.length := by
 induction l with
 |nil => cases h
 |cons p r ih =>
  obtain ⟨k', u⟩ := p
  simp only [mget] at h
  simp only [mput]
  by_cases e : k = k'
  ·simp [e]
  ·rw [if_neg e] at h
   simp [e, ih h]
theorem rotS_len (s : RA) (p : Pl) (n : Int) : (rotS s p n).waits.length = s.waits.length := by
 unfold rotS
 split
 ·rename_i u h
  show (putW s.waits p _).length = _
  unfold putW
  rw [List.length_reverse, mput_len (by unfold newV at h; rw [h]; rfl), List.length_reverse]
 ·rfl
end Go.Proofs.YtjeldcjchipdgaaGreatDoor
namespace Go.Proofs.YtjeldcjchipdgaaGreatDoor
open Go.RowKit Go.HL
set_option maxRecDepth 100000
structure H2 (L : Nat → Prop) (w : World) (R D : Nat) (A B : Nat → Prop) (s t : RA) : Prop where
 r : RK A w R s
 d : RD B w D t
 a : ∀ x, A x → L x ∧ x < w.heap.size
 b : ∀ x, B x → L x ∧ x < w.heap.size
 ne : ∀ x, A x → B x → False
section
variable {L M : Nat → Prop} {w w' : World} {R D : Nat} {A B : Nat → Prop} {s s' t t' : RA}
theorem H2.pure (h : H2 L w R D A B s t) (k : Chg Nob w w') : H2 L w' R D A B s t := by
 have z := k.size
 exact ⟨h.r.pure k, h.d.pure k, fun x hx => ⟨(h.a x hx).1, by have := (h.a x hx).2; omega⟩, fun x hx => ⟨(h.b x hx).1, by have := (h.b x hx).2; omega⟩, h.ne⟩
theorem H2.chg (h : H2 L w R D A B s t) (k : Chg M w w') (hd : ∀ x, A x ∨ B x → M x → False) : H2 L w' R D A B s t := by
 have z := k.size
 exact ⟨h.r.chg k (fun b _ h1 h2 => hd b (.inl h1) h2), h.d.chg k (fun b _ h1 h2 => hd b (.inr h1) h2), fun x hx => ⟨(h.a x hx).1, by have := (h.a x hx).2; omega⟩, fun x hx => ⟨(h.b x hx).1, by have := (h.b x hx).2; omega⟩, h.ne⟩
theorem H2.mono {L' : Nat → Prop} (h : H2 L w R D A B s t) (k : ∀ x, L x → x < w.heap.size → L' x) : H2 L' w R D A B s t :=
 ⟨h.r, h.d, fun x hx => ⟨k x (h.a x hx).1 (h.a x hx).2, (h.a x hx).2⟩, fun x hx => ⟨k x (h.b x hx).1 (h.b x hx).2, (h.b x hx).2⟩, h.ne⟩
theorem H2.left (h : H2 L w R D A B s t) (hL : ∀ x, w.heap.size ≤ x → L x) (hR : RK (fun x => A x ∨ w.heap.size ≤ x) w' R s') (k : Chg A w w') : H2 L w' R D (fun x => (A x ∨ w.heap.size ≤ x) ∧ x < w'.heap.size) B s' t := by
 have z := k.size
 refine ⟨hR.old, h.d.chg k (fun b _ h1 h2 => h.ne b h2 h1), fun x hx => ⟨hx.1.elim (fun h1 => (h.a x h1).1) (hL x), hx.2⟩, fun x hx => ⟨(h.b x hx).1, by have := (h.b x hx).2; omega⟩, fun x h1 h2 => ?_⟩
 rcases h1.1 with h3 | h3
 ·exact h.ne x h3 h2
 ·have := (h.b x h2).2
  omega
theorem H2.left0 (h : H2 L w R D A B s t) (hL : ∀ x, w.heap.size ≤ x → L x) (hR : RK A w' R s') (k : Chg A w w') : H2 L w' R D (fun x => (A x ∨ w.heap.size ≤ x) ∧ x < w'.heap.size) B s' t := h.left hL (hR.mono (fun x hx => .inl hx)) k
theorem H2.right (h : H2 L w R D A B s t) (hL : ∀ x, w.heap.size ≤ x → L x) (hR : RD (fun x => B x ∨ w.heap.size ≤ x) w' D t') (k : Chg B w w') : H2 L w' R D A (fun x => (B x ∨ w.heap.size ≤ x) ∧ x < w'.heap.size) s t' := by
 have z := k.size
 refine ⟨h.r.chg k (fun b _ h1 h2 => h.ne b h1 h2), hR.old, fun x hx => ⟨(h.a x hx).1, by have := (h.a x hx).2; omega⟩, fun x hx => ⟨hx.1.elim (fun h1 => (h.b x h1).1) (hL x), hx.2⟩, fun x h1 h2 => ?_⟩
 rcases h2.1 with h3 | h3
 ·exact h.ne x h1 h3
 ·have := (h.a x h1).2
  omega
theorem H2.right0 (h : H2 L w R D A B s t) (hL : ∀ x, w.heap.size ≤ x → L x) (hR : RD B w' D t') (k : Chg B w w') : H2 L w' R D A (fun x => (B x ∨ w.heap.size ≤ x) ∧ x < w'.heap.size) s t' := h.right hL (hR.mono (fun x hx => .inl hx)) k
end
theorem writeS_len (s : RA) (d a : Int) (b : List UInt8) : (writeS s d a b).waits.length ≤ s.waits.length + 1 ∧ (writeS s d a b).dn = s.dn ∧ (writeS s d a b).sn = s.sn := by
 unfold writeS
 split
 ·exact ⟨by show (s.waits ++ [_]).length ≤ _; simp, spendS_dn s, spendS_sn s⟩
 ·split
  ·exact ⟨by rw [spendS_waits]; omega, spendS_dn s, spendS_sn s⟩
  ·exact ⟨by omega, rfl, rfl⟩
theorem flushS_len (s : RA) : (flushS s).waits.length ≤ s.waits.length + 1 ∧ (flushS s).dn = s.dn ∧ (flushS s).sn = s.sn := by
 unfold flushS
 split
 ·exact ⟨by rw [spendS_waits]; omega, spendS_dn s, spendS_sn s⟩
 ·exact ⟨Nat.zero_le _, spendS_dn s, spendS_sn s⟩
theorem rotI_len (s : RA) (d a n : Int) : (if rotE s d a n = 0 then rotS s (d, a) n else s).waits.length ≤ s.waits.length + 1 ∧ (if rotE s d a n = 0 then rotS s (d, a) n else s).dn = s.dn ∧ (if rotE s d a n = 0 then rotS s (d, a) n else s).sn = s.sn := by
 split
 ·exact ⟨by rw [rotS_len]; omega, rotS_dn _ _ _, rotS_sn _ _ _⟩
 ·exact ⟨by omega, rfl, rfl⟩
theorem loseI_len (s : RA) (d : Int) : (if isS s d then loseS s d true else s).waits.length ≤ s.waits.length + 1 ∧ (if isS s d then loseS s d true else s).dn = s.dn ∧ (if isS s d then loseS s d true else s).sn = s.sn := by
 split
 ·exact ⟨by have := stay_len d s.waits; show (stay d s.waits).length ≤ _; omega, rfl, rfl⟩
 ·exact ⟨by omega, rfl, rfl⟩
theorem replaceI_len (s : RA) (d : Int) : (if isS s d then replaceS s d else s).waits.length ≤ s.waits.length + 1 ∧ (if isS s d then replaceS s d else s).dn = s.dn ∧ (if isS s d then replaceS s d else s).sn = s.sn := by
 split
 ·exact ⟨by have := stay_len d s.waits; show (stay d s.waits).length ≤ _; omega, rfl, rfl⟩
 ·exact ⟨by omega, rfl, rfl⟩
end Go.Proofs.YtjeldcjchipdgaaGreatDoor
namespace Go.Proofs.YtjeldcjchipdgaaGreatDoor
open Go.RowKit Go.HL
set_option maxRecDepth 100000
structure OpL where
 kind : Int
 drive : Int
 at_ : Int
 n : Int
 pao : Option Addr
 pcap : Nat
 picks : List Int
section
variable {S M : Nat → Prop} {w w' : World} {ao : Option Addr} {c : Nat} {l : List OpL}
end
end Go.Proofs.YtjeldcjchipdgaaGreatDoor
namespace Go.HL
open Go.RowKit
section
variable {P : Program} {N : Nat} {E : Env} {w : World} {fn : Func} {R : Ending → World → Prop}
end
section
variable {P : Program} {ops : Array Oper} {Q : Exit → Act → World → Prop} {N : Nat} {E : Env} {w : World} {rest : List Oper}
 {d : Nat} {ty : TypeId} {pos : String} {af : Array Edge} {α : Type} {e : Enc α} {S : Nat → Prop} {t tx T : TypeId} {s x : Operand} {g i c bytes : Nat} {xs ys : List α} {z v : Value}
end
end Go.HL
namespace Go.HL
open Go.RowKit
def CutG {σ : Type} (Q : Exit → Act → World → Prop) (N : Nat) (Ef : σ → Env) (I : σ → World → Prop) : Exit → Act → World → Prop := fun x a w => (x = .normal ∧ ∃ s, Holds N (Ef s) a ∧ I s w) ∨ Q x a w
section
variable {P : Program} {Q : Exit → Act → World → Prop} {N : Nat} {E : Env} {w : World} {σ : Type} {Ef : σ → Env} {I : σ → World → Prop} {c : Code}
theorem WC.cutG (Ef : σ → Env) (I : σ → World → Prop) (htail : ∀ s w', I s w' → WX Q .normal N (Ef s) w') (hbody : WC P c (CutG Q N Ef I) N E w) : WC P c Q N E w := fun a ha => by
 refine Code.wp_mono ?_ (hbody a ha)
 rintro x a' w' (⟨rfl, s, hs, hI⟩ | h)
 ·exact htail s w' hI a' hs
 ·exact h
theorem WX.cutN (s : σ) (hs : Sub (Ef s) E) (hI : I s w) : WX (CutG Q N Ef I) .normal N E w := fun _ ha => .inl ⟨rfl, s, ha.sub hs, hI⟩
end
end Go.HL
namespace Go.Proofs.YtjeldcjchipdgaaGreatDoor
open Go.RowKit Go.HL
set_option maxRecDepth 100000
structure HH (S : Nat → Prop) (w : World) (R D : Nat) (s : RA) : Prop where
 ex : ∃ A B, H2 S w R D A B s s
section
variable {S M : Nat → Prop} {w w' : World} {R D : Nat} {s : RA}
theorem HH.pure (h : HH S w R D s) (k : Chg Nob w w') : HH S w' R D s := by
 obtain ⟨A, B, h⟩ := h.ex
 exact ⟨A, B, h.pure k⟩
theorem HH.chg (h : HH S w R D s) (k : Chg M w w') (hd : ∀ b, b < w.heap.size → S b → M b → False) : HH S w' R D s := by
 obtain ⟨A, B, h⟩ := h.ex
 exact ⟨A, B, h.chg k (fun x hx hm => by
  rcases hx with hx | hx
  ·exact hd x (h.a x hx).2 (h.a x hx).1 hm
  ·exact hd x (h.b x hx).2 (h.b x hx).1 hm)⟩
theorem HH.mono {S' : Nat → Prop} (h : HH S w R D s) (k : ∀ b, S b → S' b) : HH S' w R D s := by
 obtain ⟨A, B, h⟩ := h.ex
 exact ⟨A, B, h.mono (fun x hx _ => k x hx)⟩
theorem HH.old (h : HH S w R D s) : HH (fun b => S b ∧ b < w.heap.size) w R D s := by
 obtain ⟨A, B, h⟩ := h.ex
 exact ⟨A, B, h.mono (fun x hx hl => ⟨hx, hl⟩)⟩
theorem HH.r (h : HH S w R D s) : RK S w R s := by
 obtain ⟨A, B, h⟩ := h.ex
 exact h.r.mono (fun x hx => (h.a x hx).1)
theorem HH.d (h : HH S w R D s) : RD S w D s := by
 obtain ⟨A, B, h⟩ := h.ex
 exact h.d.mono (fun x hx => (h.b x hx).1)
end
end Go.Proofs.YtjeldcjchipdgaaGreatDoor
