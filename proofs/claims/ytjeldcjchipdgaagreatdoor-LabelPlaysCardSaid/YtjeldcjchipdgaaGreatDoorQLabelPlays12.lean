import Derived.Test.YtjeldcjchipdgaaGreatDoorQLabelPlays11
namespace Go.Proofs.YtjeldcjchipdgaaGreatDoor
open Go.RowKit Go.HL
set_option maxRecDepth 100000
set_option maxHeartbeats 8000000 in
theorem labelPlays_calls {w : World} {a2 : Option Addr} {c2 : Nat} {l2 : List OpL} (x0 x1 : Int) (hO : OSL (· < w.heap.size) w a2 c2 l2) (hl2 : ∀ o ∈ l2, o.picks.length * 8 ≤ 140737488351232) :
 Calls Tryz.prog 3 [vi x0, vi x1, .slice a2 l2.length c2].toArray w (Ret fun v w' => v = .bool true ∧ Chg Nob w w') := by
 have hw := Chg.refl Nob w
 obtain ⟨d0, hd0⟩ : ∃ c, c = (B64 x0 % 8).toNat := ⟨_, rfl⟩
 have hd5 : d0 < 8 := by rw [hd0, UInt64.toNat_mod]; exact Nat.mod_lt _ (by decide)
 obtain ⟨t0, ht0⟩ : ∃ c, c = (B64 x1 % 12).toNat := ⟨_, rfl⟩
 have ht5 : t0 < 12 := by rw [ht0, UInt64.toNat_mod]; exact Nat.mod_lt _ (by decide)
 obtain ⟨dn, hdn⟩ : ∃ c : Nat, c = d0 + 1 := ⟨_, rfl⟩
 obtain ⟨sn, hsn⟩ : ∃ c : Nat, c = t0 + 1 := ⟨_, rfl⟩
 refine Calls.of_WC Tryz.func3 rfl Tryz.ntmps3 (by simp) ?_
 refine WC.sr (WL.assign rfl rfl (WL.t (WC.seq (WC.sr (WL.call eg_5 rfl rfl (known8_calls _) ?_)))))
 rintro v w1 ⟨rfl, k1⟩
 have zs_k1 := k1.size
 replace hO := hO.pure k1
 replace hw := hw.pure k1
 refine WL.not rfl rfl (WL.t (WC.qa rfl (WC.skip (WX.qa (WC.sr (WL.move rfl rfl (WL.qs Tryz.underlying3 Tryz.underlying24 rfl rfl (WL.num rfl rfl (n_rem64 _ _ _ 8 (by decide)) rfl (?_)))))))))
 refine WL.c_u64_i64s (n := d0) Tryz.underlying24 Tryz.underlying3 rfl ⟨hd0.symm, by omega⟩ rfl ?_
 refine WL.qe rfl rfl (by constructor <;> omega) rfl ?_
 rw [show (1 : Int) + d0 = (dn : Int) from by omega]
 refine WL.move rfl rfl (WL.qs Tryz.underlying3 Tryz.underlying24 rfl rfl (WL.num rfl rfl (n_rem64 _ _ _ 12 (by decide)) rfl (?_)))
 refine WL.c_u64_i64s (n := t0) Tryz.underlying24 Tryz.underlying3 rfl ⟨ht0.symm, by omega⟩ rfl ?_
 refine WL.qe rfl rfl (by constructor <;> omega) rfl ?_
 rw [show (1 : Int) + t0 = (sn : Int) from by omega]
 refine WL.assign rfl rfl (WL.assign rfl rfl (WL.t (WC.sr (WL.move rfl rfl (WL.move rfl rfl (WL.call eg_6 rfl rfl (New_calls _ (dn := dn) (sn := sn) (by omega) (by omega)) ?_))))))
 rintro v w2 ⟨⟨R, rfl, hR⟩, k2⟩
 have zs_k2 := k2.size
 replace hO := hO.pure k2
 replace hw := hw.pure k2
 refine WL.move rfl rfl (WL.extract rfl rfl rfl (WL.extract rfl rfl rfl (WL.assign rfl rfl (WL.assign rfl rfl (WL.t (WC.seq (WC.region (WL.move rfl rfl (WL.move rfl rfl (WL.call eg_7 rfl rfl (dNew_calls _ (dn := dn) (sn := sn) (by omega) (by omega)) ?_))))))))))
 rintro v w3 ⟨⟨D, rfl, hD⟩, k3⟩
 have zs_k3 := k3.size
 replace hO := hO.pure k3
 replace hw := hw.pure k3
 have hH : HH (fun x => w.heap.size ≤ x) w3 R D (newS dn sn) := ⟨_, _, ⟨hR.old.pure k3, hD.old, fun x hx => ⟨by have := hx.1; omega, by have := hx.2; have := k3.size; omega⟩, fun x hx => ⟨by have := hx.1; omega, hx.2⟩, fun x h1 h2 => by have := h1.2; have := h2.1; omega⟩⟩
 refine WL.move rfl rfl (WL.extract rfl rfl rfl (WL.extract rfl rfl rfl (WL.assign rfl rfl (WL.assign rfl rfl (WL.t (WC.seq (WC.sr (WL.move rfl rfl (WL.qz rfl rfl rfl (rfl) ?_)))))))))
 refine WL.move rfl rfl (WL.qa rfl rfl rfl (WL.move rfl rfl (WL.qa rfl rfl rfl (WL.qz rfl rfl rfl (rfl) ?_))))
 refine WL.qb rfl rfl rfl (WL.t (WC.qa rfl (WC.skip (WX.qa (WC.seq (WC.seq (WC.region (WL.assign rfl rfl (WL.t (WC.block (?_)))))))))))
 have hH0 : ∃ s : RA, HH (fun x => w.heap.size ≤ x) w3 R D s ∧ s.waits.length ≤ 16 * 0 ∧ s.dn = dn ∧ s.sn = sn := ⟨newS dn sn, hH, Nat.zero_le _, rfl, rfl⟩
 refine WC.loop (σ := Nat) (fun i => [(2, .slice a2 l2.length c2), (7, ptr R), (9, ptr D), (11, vi (i : Int))])
  (fun i w' => (i ≤ 30 ∧ i ≤ l2.length) ∧ OSL (· < w.heap.size) w' a2 c2 l2 ∧ Chg Nob w w' ∧ ∃ s : RA, HH (fun x => w.heap.size ≤ x) w' R D s ∧ s.waits.length ≤ 16 * i ∧ s.dn = dn ∧ s.sn = sn) (fun i => 30 - i) 0 ⟨rfl, rfl, rfl, rfl, trivial⟩ ⟨⟨Nat.zero_le _, Nat.zero_le _⟩, hO, hw, hH0⟩ ?_
 clear hO hw hH hH0 hR hD
 rintro i w4 ⟨⟨hi1, hi2⟩, hO, hw, s, hH, hsl, hsd, hss⟩
 have zw := hw.size
 replace hH := hH.old
 refine WC.seq (WC.sr (WL.move rfl rfl (WL.move rfl rfl (WL.len Tryz.underlying22 rfl rfl (WL.qi rfl rfl rfl (fun h60 => ?_) (fun h60 => ?_))))))
 ·refine WL.move rfl rfl (WL.qa rfl rfl rfl (WL.move rfl rfl (WL.qa rfl rfl rfl (WL.qi rfl rfl rfl (fun h63 => ?_) (fun h63 => ?_)))))
  ·refine WL.qc rfl rfl rfl (WL.t (WC.qb rfl (WC.skip (WX.qa (WC.seq (WC.block (WC.sr (WL.move rfl rfl (WL.move rfl rfl (?_))))))))))
   obtain ⟨o, ho⟩ : ∃ o, l2[i]? = some o := ⟨_, List.getElem?_eq_getElem (by omega)⟩
   have hom := List.mem_of_getElem? ho
   have hpl := hl2 o hom
   obtain ⟨n, hn⟩ : ∃ n, n = (B64 o.n % 100000).toNat := ⟨_, rfl⟩
   have hn5 : n < 100000 := by rw [hn, UInt64.toNat_mod]; exact Nat.mod_lt _ (by decide)
   have hOo := hO.outer
   refine WL.qg Tryz.underlying22 Tryz.sizeOf34 hOo rfl rfl ⟨ho, rfl⟩ rfl ?_
   intro b_1 o_1 hc_1
   refine WL.qo _ Tryz.isAgg34 Tryz.sizeOf34 rfl hc_1 rfl rfl (WL.alloc Tryz.zeroValue34 rfl ?_)
   intro g_2 w_2 hge_2 hlt_2 hb_2 k_2
   have zs_k_2 := k_2.size
   replace hO := hO.pure k_2
   replace hw := hw.pure k_2
   replace hH := hH.pure k_2
   refine WL.qf Tryz.sizeOf34 hb_2 rfl rfl (by rfl) (by exact Enc.one _ _) (by exact Nat.le_of_ble_eq_true rfl) rfl ?_
   intro w_3 hs_3 hn_3 k_3
   replace hO := hO.chg k_3 (by intro b h1 h2 h3; have h4 : _ = _ := h3; (try dsimp only at h2); exfalso; omega)
   replace hw := hw.chg k_3 (by intro x h1 h2; have h3 : _ = _ := h2; exfalso; omega)
   replace hH := hH.chg k_3 (by intro b h1 h2 h3; have h4 : _ = _ := h3; (try dsimp only at h2); exfalso; omega)
   replace hb_2 := hn_3
   refine WL.t (WC.sr (WL.fieldAddr (fld_34_3) rfl rfl (WL.qd Tryz.isAgg3 hb_2 rfl rfl rfl (WL.qs Tryz.underlying3 Tryz.underlying24 rfl rfl (WL.num rfl rfl (n_rem64 _ _ _ 100000 (by decide)) rfl (?_))))))
   refine WL.c_u64_i64s (n := n) Tryz.underlying24 Tryz.underlying3 rfl ⟨hn.symm, by omega⟩ rfl ?_
   refine WL.assign rfl rfl (WL.t (WC.seq (WC.sr (WL.fieldAddr (fld_34_0) rfl rfl (WL.qd Tryz.isAgg3 hb_2 rfl rfl rfl (WL.t (?_)))))))
   have hX := Blk.eqc (cs' := eol.f o) hb_2 rfl
   replace hH := hH.mono (S' := fun x => w.heap.size ≤ x ∧ x ≠ g_2) (fun x hx => ⟨hx.1, by omega⟩)
   have hp := hO.inner o hom
   have hlen : s.waits.length ≤ 480 := by omega
   refine WC.cutG (σ := Unit) (fun _ => [(2, .slice a2 l2.length c2), (7, ptr R), (9, ptr D), (11, vi (i : Int)), (12, ptr g_2)])
    (fun _ w' => (∃ t : RA, HH (fun x => w.heap.size ≤ x ∧ x ≠ g_2) w' R D t ∧ t.waits.length ≤ 16 * (i + 1) ∧ t.dn = dn ∧ t.sn = sn) ∧ Blk w' g_2 34 (eol.f o) ∧ OSL (· < w.heap.size) w' a2 c2 l2 ∧ Chg Nob w w') ?_ ?_
   rotate_left
   obtain ⟨A, B, h⟩ := hH.ex
   have hWf : WfU (ubV n n) := ubV_wf0 (by omega)
   have hlw := lwS_len s (ubV n n)
   have hAB : ∀ x, A x ∨ B x → x < w_3.heap.size := fun x hx => hx.elim (fun h1 => (h.a x h1).2) (fun h1 => (h.b x h1).2)
   ·clear hH hb_2
    refine WC.block (WC.sr (WL.qj rfl rfl rfl (fun h79 => ?_) (fun h79 => ?_)))
    ·refine WL.assign rfl rfl (WL.t (WC.qb rfl (WC.sr (WL.move rfl rfl (WL.move rfl rfl (WL.move rfl rfl (WL.call eg_9 rfl rfl (lptr_calls n (by omega) _) ?_)))))))
     rintro v w7 ⟨rfl, k7⟩
     have zs_k7 := k7.size
     replace h := h.pure k7
     replace hX := hX.pure k7
     replace hO := hO.pure k7
     replace hw := hw.pure k7
     refine WL.bld rfl (bld_41_0_1 _ _ _ _ _) rfl (WL.call eg_8 rfl rfl (lWrite_calls h.r (ubV n n) hWf (by omega)) ?_)
     rintro v w8 ⟨rfl, hR8, k8⟩
     have h3 := h.left (fun x hx => ⟨by have := hw.size; omega, by omega⟩) hR8 k8
     replace hX := hX.chg k8 (fun m => (h.a _ m).1.2 rfl)
     replace hO := hO.chg k8 (fun x _ h1 m => by have := (h.a x m).1.1; omega)
     replace hw := hw.trans k8 (fun x h1 m => by have := (h.a x m).1.1; omega)
     have z_k8 := k8.size
     refine WL.move rfl rfl (WL.extract rfl rfl rfl (WL.extract rfl rfl rfl (WL.assign rfl rfl (WL.assign rfl rfl (WL.t (WC.seq (WC.region (WL.move rfl rfl (WL.move rfl rfl (WL.move rfl rfl (WL.call eg_9 rfl rfl (lptr_calls n (by omega) _) ?_)))))))))))
     rintro v w7 ⟨rfl, k7⟩
     have zs_k7 := k7.size
     replace h3 := h3.pure k7
     replace hX := hX.pure k7
     replace hO := hO.pure k7
     replace hw := hw.pure k7
     refine WL.bld rfl (bld_43_0_1 _ _ _ _ _) rfl (WL.call eg_10 rfl rfl (docWrite8_calls h3.d (ubV n n) hWf (by omega)) ?_)
     rintro v w9 ⟨rfl, hD9, k9⟩
     have hf := h3.right (fun x hx => ⟨by have := hw.size; omega, by omega⟩) hD9 k9
     replace hX := hX.chg k9 (fun m => (h3.b _ m).1.2 rfl)
     replace hO := hO.chg k9 (fun x _ h1 m => by have := (h3.b x m).1.1; omega)
     replace hw := hw.trans k9 (fun x h1 m => by have := (h3.b x m).1.1; omega)
     have hl3 := (show (lwS s (ubV n n)).waits.length ≤ s.waits.length + 16 ∧ (lwS s (ubV n n)).dn = s.dn ∧ (lwS s (ubV n n)).sn = s.sn from ⟨by omega, hlw.2⟩)
     refine WL.move rfl rfl (WL.extract rfl rfl rfl (WL.extract rfl rfl rfl (WL.assign rfl rfl (WL.assign rfl rfl (WL.t (WC.seq (WC.region (WL.move rfl rfl (WL.move rfl rfl (WL.qz rfl rfl rfl (rfl) ?_))))))))))
     refine WL.move rfl rfl (WL.qa rfl rfl rfl (WL.move rfl rfl (WL.qa rfl rfl rfl (WL.move rfl rfl (WL.qa rfl rfl rfl (WL.qz rfl rfl rfl (rfl) ?_))))))
     refine WL.qb rfl rfl rfl (WL.t (WC.qa rfl (WC.skip (WX.qd (?_)))))
     first
      |exact WX.ql () ⟨rfl, rfl, rfl, rfl, rfl, trivial⟩ ⟨⟨_, ⟨_, _, hf⟩, by omega, hl3.2.1.trans hsd, hl3.2.2.trans hss⟩, hX, hO, hw⟩
      |exact WX.ql () ⟨rfl, rfl, rfl, rfl, rfl, trivial⟩ ⟨⟨_, ⟨_, _, h⟩, by omega, hsd, hss⟩, hX, hO, hw⟩
    ·refine WL.assign rfl rfl (WL.t (WC.qa rfl (WC.sr (WL.qj rfl rfl rfl (fun h107 => ?_) (fun h107 => ?_)))))
     ·refine WL.assign rfl rfl (WL.t (WC.qb rfl (WC.sr (WL.move rfl rfl (WL.call eg_11 rfl rfl (Flush_calls h.r) ?_)))))
      rintro v w8 ⟨rfl, hR8, k8⟩
      have h3 := h.left0 (fun x hx => ⟨by have := hw.size; omega, by omega⟩) hR8 k8
      replace hX := hX.chg k8 (fun m => (h.a _ m).1.2 rfl)
      replace hO := hO.chg k8 (fun x _ h1 m => by have := (h.a x m).1.1; omega)
      replace hw := hw.trans k8 (fun x h1 m => by have := (h.a x m).1.1; omega)
      have z_k8 := k8.size
      refine WL.move rfl rfl (WL.call eg_12 rfl rfl (dFlush_calls h3.d (by omega)) ?_)
      rintro v w9 ⟨rfl, hD9, k9⟩
      have hf := h3.right0 (fun x hx => ⟨by have := hw.size; omega, by omega⟩) hD9 k9
      replace hX := hX.chg k9 (fun m => (h3.b _ m).1.2 rfl)
      replace hO := hO.chg k9 (fun x _ h1 m => by have := (h3.b x m).1.1; omega)
      replace hw := hw.trans k9 (fun x h1 m => by have := (h3.b x m).1.1; omega)
      have hl3 := (show (flushS s).waits.length ≤ s.waits.length + 16 ∧ (flushS s).dn = s.dn ∧ (flushS s).sn = s.sn from ⟨by have := (flushS_len s).1; omega, (flushS_len s).2⟩)
      refine WL.qz rfl rfl rfl (rfl) (WL.t (WC.qa rfl (WC.skip (WX.qd (?_)))))
      first
       |exact WX.ql () ⟨rfl, rfl, rfl, rfl, rfl, trivial⟩ ⟨⟨_, ⟨_, _, hf⟩, by omega, hl3.2.1.trans hsd, hl3.2.2.trans hss⟩, hX, hO, hw⟩
       |exact WX.ql () ⟨rfl, rfl, rfl, rfl, rfl, trivial⟩ ⟨⟨_, ⟨_, _, h⟩, by omega, hsd, hss⟩, hX, hO, hw⟩
     ·refine WL.assign rfl rfl (WL.t (WC.qa rfl (WC.sr (WL.qj rfl rfl rfl (fun h114 => ?_) (fun h114 => ?_)))))
      ·refine WL.assign rfl rfl (WL.t (WC.qb rfl (WC.sr (WL.move rfl rfl (?_)))))
       refine WL.build (e := ei) [] Tryz.underlying32 Tryz.sizeOf3 Tryz.zeroValue3 rfl rfl rfl (by simp [Value.cells]; done) (by decide) rfl ?_
       intro a_b116 w_b116 b116 l_b116 z_b116 k_b116
       replace h := h.pure k_b116
       replace hX := hX.pure k_b116
       replace hO := hO.pure k_b116
       replace hp := hp.pure k_b116
       replace hw := hw.pure k_b116
       refine WL.fieldAddr (fld_34_4) rfl rfl (WL.qd Tryz.isAgg32 hX rfl rfl rfl (?_))
       refine WL.append (e := ei) (S := fun x => w_3.heap.size ≤ x) info_3 rfl Tryz.underlying32 rfl rfl (b116.mono (fun x hx => hx)) (hp.src Tryz.underlying32) (by constructor <;> (simp only [List.length_nil]; omega)) (fun x hx => by omega) rfl ?_
       intro a9 c9 w9 hO9 g9 n9
       have k9 := g9.chg
       rw [List.nil_append] at hO9 ⊢
       have h9 := h.chg k9 (fun x hx m => by have := hAB x hx; have := m.2; omega)
       replace hp := hp.chg k9 (fun x _ h1 m => by have := m.2; omega)
       replace hX := hX.chg k9 (fun m => by have := m.2; omega)
       replace hO := hO.chg k9 (fun x _ h1 m => by have := m.2; omega)
       replace hw := hw.trans k9 (fun x h1 m => by have := m.2; omega)
       have z9 := k9.size
       refine WL.call eg_13 rfl rfl (Crash_calls h9.r hO9.rsl (fun x h1 h2 => by have := hAB x (.inl h2); have h3 : w_3.heap.size ≤ x := h1; omega)) ?_
       rintro v w8 ⟨rfl, hR8, k8⟩
       have h3 := h9.left0 (fun x hx => ⟨by have := hw.size; omega, by omega⟩) hR8 k8
       replace hX := hX.chg k8 (fun m => (h9.a _ m).1.2 rfl)
       replace hO := hO.chg k8 (fun x _ h1 m => by have := (h9.a x m).1.1; omega)
       replace hp := hp.chg k8 (fun x _ h1 m => by have := (h9.a x m).1.1; omega)
       replace hw := hw.trans k8 (fun x h1 m => by have := (h9.a x m).1.1; omega)
       have z_k8 := k8.size
       refine WL.t (WC.region (WL.move rfl rfl (WL.fieldAddr (fld_34_4) rfl rfl (WL.qd Tryz.isAgg32 hX rfl rfl rfl (?_)))))
       refine WL.call eg_14 rfl rfl (dCrash_calls h3.d (by omega) hp (fun x h1 h2 => by have := (h3.b x h2).1.1; omega)) ?_
       rintro v w9 ⟨rfl, hD9, k9⟩
       have hf := h3.right0 (fun x hx => ⟨by have := hw.size; omega, by omega⟩) hD9 k9
       replace hX := hX.chg k9 (fun m => (h3.b _ m).1.2 rfl)
       replace hO := hO.chg k9 (fun x _ h1 m => by have := (h3.b x m).1.1; omega)
       replace hw := hw.trans k9 (fun x h1 m => by have := (h3.b x m).1.1; omega)
       have hl3 := (show (crashS s o.picks).waits.length ≤ s.waits.length + 16 ∧ (crashS s o.picks).dn = s.dn ∧ (crashS s o.picks).sn = s.sn from ⟨Nat.zero_le _, rfl, rfl⟩)
       refine WL.nil (WX.qd (?_))
       first
        |exact WX.ql () ⟨rfl, rfl, rfl, rfl, rfl, trivial⟩ ⟨⟨_, ⟨_, _, hf⟩, by omega, hl3.2.1.trans hsd, hl3.2.2.trans hss⟩, hX, hO, hw⟩
        |exact WX.ql () ⟨rfl, rfl, rfl, rfl, rfl, trivial⟩ ⟨⟨_, ⟨_, _, h⟩, by omega, hsd, hss⟩, hX, hO, hw⟩
      ·refine WL.assign rfl rfl (WL.t (WC.qa rfl (WC.sr (WL.qj rfl rfl rfl (fun h126 => ?_) (fun h126 => ?_)))))
       ·refine WL.assign rfl rfl (WL.t (WC.qb rfl (WC.seq (WC.qc ((fun x => w.heap.size ≤ x ∧ x ≠ g_2)) [0, 1, 2, 4, 5, 6] [3, 7, 8] mixed rfl rfl (fun wd_4 kd_4 zd_4 => ?_)))))
        replace h := h.pure kd_4
        replace hX := hX.pure kd_4
        replace hO := hO.pure kd_4
        replace hw := hw.pure kd_4
        apply DQ.step [(7, _)] rfl ⟨rfl, trivial⟩ rfl (fun _ _ => WL.move rfl rfl  WL.q)
        apply DQ.step [(12, _)] rfl ⟨rfl, trivial⟩ rfl (fun _ _ => WL.fieldAddr (fld_34_1) rfl rfl  WL.q)
        apply DQ.step [(128, _)] rfl ⟨rfl, trivial⟩ rfl
        ·intro wq_8 kq_8
         replace hX := hX.chg kq_8 (by intro h1; exfalso; have h4 := h1.2; (try dsimp only at *); omega)
         refine WL.qd Tryz.isAgg3 hX rfl rfl rfl (WL.q)
        apply DQ.step [(9, _)] rfl ⟨rfl, trivial⟩ rfl (fun _ _ => WL.move rfl rfl  WL.q)
        apply DQ.step [(12, _)] rfl ⟨rfl, trivial⟩ rfl (fun _ _ => WL.fieldAddr (fld_34_1) rfl rfl  WL.q)
        apply DQ.step [(132, _)] rfl ⟨rfl, trivial⟩ rfl
        ·intro wq_11 kq_11
         replace hX := hX.chg kq_11 (by intro h1; exfalso; have h4 := h1.2; (try dsimp only at *); omega)
         refine WL.qd Tryz.isAgg3 hX rfl rfl rfl (WL.q)
        refine DQ.done (fun hd_5 => ?_)
        refine DL.step [(127, _), (129, _)] rfl ⟨rfl, rfl, trivial⟩ rfl (fun wq_12 kq_12 => ?_)
        have zs_kq_12 := kq_12.size
        replace h := h.pure kq_12
        replace hX := hX.pure kq_12
        replace hO := hO.pure kq_12
        replace hw := hw.pure kq_12
        replace hd_5 := hd_5.pure kq_12
        refine WL.call eg_15 rfl rfl (Lose_calls h.r o.drive) ?_
        rintro v w8 ⟨rfl, hR8, k8⟩
        have h3 := h.left0 (fun x hx => ⟨by have := hw.size; omega, by omega⟩) hR8 k8
        have hk8 := k8.mono (M' := fun x => w.heap.size ≤ x ∧ x ≠ g_2) (fun x _ m => (h.a x m).1)
        have z8 := k8.size
        replace hX := hX.chg hk8 (by intro h1; exfalso; have h4 := h1.2; (try dsimp only at *); omega)
        replace hO := hO.chg hk8 (by intros; exfalso; (try dsimp only at *); omega)
        replace hw := hw.chg hk8 (by intros; exfalso; (try dsimp only at *); omega)
        replace hd_5 := hd_5.chg hk8 (by intro x h1 h2; exact h2)
        refine WL.nil (WX.one ⟨hd_5, ?_⟩)
        refine DL.step [(131, _), (133, _)] rfl ⟨rfl, rfl, trivial⟩ rfl (fun wq_13 kq_13 => ?_)
        have zs_kq_13 := kq_13.size
        replace hX := hX.pure kq_13
        replace hO := hO.pure kq_13
        replace hw := hw.pure kq_13
        replace hd_5 := hd_5.pure kq_13
        replace h3 := h3.pure kq_13
        refine WL.call eg_16 rfl rfl (dLose_calls h3.d (by omega) o.drive) ?_
        rintro v w9 ⟨rfl, hD9, k9⟩
        have hf := h3.right (fun x hx => ⟨by have := hw.size; omega, by omega⟩) hD9 k9
        have hk9 := k9.mono (M' := fun x => w.heap.size ≤ x ∧ x ≠ g_2) (fun x _ m => (h3.b x m).1)
        have hl3 := (show (if isS s o.drive then loseS s o.drive true else s).waits.length ≤ s.waits.length + 16 ∧ (if isS s o.drive then loseS s o.drive true else s).dn = s.dn ∧ (if isS s o.drive then loseS s o.drive true else s).sn = s.sn from ⟨by have := (loseI_len s o.drive).1; omega, (loseI_len s o.drive).2⟩)
        replace hX := hX.chg hk9 (by intro h1; exfalso; have h4 := h1.2; (try dsimp only at *); omega)
        replace hO := hO.chg hk9 (by intros; exfalso; (try dsimp only at *); omega)
        replace hw := hw.chg hk9 (by intros; exfalso; (try dsimp only at *); omega)
        replace hd_5 := hd_5.chg hk9 (by intro x h1 h2; exact h2)
        refine WL.nil (WX.one ⟨hd_5, ?_⟩)
        refine DL.step [(130, _), (134, _)] rfl ⟨rfl, rfl, trivial⟩ rfl (fun wq_14 kq_14 => ?_)
        replace hX := hX.pure kq_14
        replace hO := hO.pure kq_14
        replace hw := hw.pure kq_14
        replace hd_5 := hd_5.pure kq_14
        replace hf := hf.pure kq_14
        refine WL.qz rfl rfl rfl (rfl) (WL.nil ?_)
        refine WX.one ⟨hd_5, ?_⟩
        refine DL.done (fun we_15 ke_15 => ?_)
        replace hX := hX.pure ke_15
        replace hO := hO.pure ke_15
        replace hw := hw.pure ke_15
        replace hf := hf.pure ke_15
        refine WX.qa (WC.qa rfl (WC.skip (WX.qd (?_))))
        first
         |exact WX.ql () ⟨rfl, rfl, rfl, rfl, rfl, trivial⟩ ⟨⟨_, ⟨_, _, hf⟩, by omega, hl3.2.1.trans hsd, hl3.2.2.trans hss⟩, hX, hO, hw⟩
         |exact WX.ql () ⟨rfl, rfl, rfl, rfl, rfl, trivial⟩ ⟨⟨_, ⟨_, _, h⟩, by omega, hsd, hss⟩, hX, hO, hw⟩
       ·refine WL.assign rfl rfl (WL.t (WC.qa rfl (WC.sr (WL.qj rfl rfl rfl (fun h137 => ?_) (fun h137 => ?_)))))
        ·refine WL.assign rfl rfl (WL.t (WC.qb rfl (WC.seq (WC.qc ((fun x => w.heap.size ≤ x ∧ x ≠ g_2)) [0, 1, 2, 4, 5, 6] [3, 7, 8] mixed rfl rfl (fun wd_4 kd_4 zd_4 => ?_)))))
         replace h := h.pure kd_4
         replace hX := hX.pure kd_4
         replace hO := hO.pure kd_4
         replace hw := hw.pure kd_4
         apply DQ.step [(7, _)] rfl ⟨rfl, trivial⟩ rfl (fun _ _ => WL.move rfl rfl  WL.q)
         apply DQ.step [(12, _)] rfl ⟨rfl, trivial⟩ rfl (fun _ _ => WL.fieldAddr (fld_34_1) rfl rfl  WL.q)
         apply DQ.step [(139, _)] rfl ⟨rfl, trivial⟩ rfl
         ·intro wq_8 kq_8
          replace hX := hX.chg kq_8 (by intro h1; exfalso; have h4 := h1.2; (try dsimp only at *); omega)
          refine WL.qd Tryz.isAgg3 hX rfl rfl rfl (WL.q)
         apply DQ.step [(9, _)] rfl ⟨rfl, trivial⟩ rfl (fun _ _ => WL.move rfl rfl  WL.q)
         apply DQ.step [(12, _)] rfl ⟨rfl, trivial⟩ rfl (fun _ _ => WL.fieldAddr (fld_34_1) rfl rfl  WL.q)
         apply DQ.step [(143, _)] rfl ⟨rfl, trivial⟩ rfl
         ·intro wq_11 kq_11
          replace hX := hX.chg kq_11 (by intro h1; exfalso; have h4 := h1.2; (try dsimp only at *); omega)
          refine WL.qd Tryz.isAgg3 hX rfl rfl rfl (WL.q)
         refine DQ.done (fun hd_5 => ?_)
         refine DL.step [(138, _), (140, _)] rfl ⟨rfl, rfl, trivial⟩ rfl (fun wq_12 kq_12 => ?_)
         have zs_kq_12 := kq_12.size
         replace h := h.pure kq_12
         replace hX := hX.pure kq_12
         replace hO := hO.pure kq_12
         replace hw := hw.pure kq_12
         replace hd_5 := hd_5.pure kq_12
         refine WL.call eg_17 rfl rfl (Replace_calls h.r o.drive) ?_
         rintro v w8 ⟨rfl, hR8, k8⟩
         have h3 := h.left0 (fun x hx => ⟨by have := hw.size; omega, by omega⟩) hR8 k8
         have hk8 := k8.mono (M' := fun x => w.heap.size ≤ x ∧ x ≠ g_2) (fun x _ m => (h.a x m).1)
         have z8 := k8.size
         replace hX := hX.chg hk8 (by intro h1; exfalso; have h4 := h1.2; (try dsimp only at *); omega)
         replace hO := hO.chg hk8 (by intros; exfalso; (try dsimp only at *); omega)
         replace hw := hw.chg hk8 (by intros; exfalso; (try dsimp only at *); omega)
         replace hd_5 := hd_5.chg hk8 (by intro x h1 h2; exact h2)
         refine WL.nil (WX.one ⟨hd_5, ?_⟩)
         refine DL.step [(142, _), (144, _)] rfl ⟨rfl, rfl, trivial⟩ rfl (fun wq_13 kq_13 => ?_)
         have zs_kq_13 := kq_13.size
         replace hX := hX.pure kq_13
         replace hO := hO.pure kq_13
         replace hw := hw.pure kq_13
         replace hd_5 := hd_5.pure kq_13
         replace h3 := h3.pure kq_13
         refine WL.call eg_18 rfl rfl (dReplace_calls h3.d (by omega) o.drive) ?_
         rintro v w9 ⟨rfl, hD9, k9⟩
         have hf := h3.right (fun x hx => ⟨by have := hw.size; omega, by omega⟩) hD9 k9
         have hk9 := k9.mono (M' := fun x => w.heap.size ≤ x ∧ x ≠ g_2) (fun x _ m => (h3.b x m).1)
         have hl3 := (show (if isS s o.drive then replaceS s o.drive else s).waits.length ≤ s.waits.length + 16 ∧ (if isS s o.drive then replaceS s o.drive else s).dn = s.dn ∧ (if isS s o.drive then replaceS s o.drive else s).sn = s.sn from ⟨by have := (replaceI_len s o.drive).1; omega, (replaceI_len s o.drive).2⟩)
         replace hX := hX.chg hk9 (by intro h1; exfalso; have h4 := h1.2; (try dsimp only at *); omega)
         replace hO := hO.chg hk9 (by intros; exfalso; (try dsimp only at *); omega)
         replace hw := hw.chg hk9 (by intros; exfalso; (try dsimp only at *); omega)
         replace hd_5 := hd_5.chg hk9 (by intro x h1 h2; exact h2)
         refine WL.nil (WX.one ⟨hd_5, ?_⟩)
         refine DL.step [(141, _), (145, _)] rfl ⟨rfl, rfl, trivial⟩ rfl (fun wq_14 kq_14 => ?_)
         replace hX := hX.pure kq_14
         replace hO := hO.pure kq_14
         replace hw := hw.pure kq_14
         replace hd_5 := hd_5.pure kq_14
         replace hf := hf.pure kq_14
         refine WL.qz rfl rfl rfl (rfl) (WL.nil ?_)
         refine WX.one ⟨hd_5, ?_⟩
         refine DL.done (fun we_15 ke_15 => ?_)
         replace hX := hX.pure ke_15
         replace hO := hO.pure ke_15
         replace hw := hw.pure ke_15
         replace hf := hf.pure ke_15
         refine WX.qa (WC.qa rfl (WC.skip (WX.qd (?_))))
         first
          |exact WX.ql () ⟨rfl, rfl, rfl, rfl, rfl, trivial⟩ ⟨⟨_, ⟨_, _, hf⟩, by omega, hl3.2.1.trans hsd, hl3.2.2.trans hss⟩, hX, hO, hw⟩
          |exact WX.ql () ⟨rfl, rfl, rfl, rfl, rfl, trivial⟩ ⟨⟨_, ⟨_, _, h⟩, by omega, hsd, hss⟩, hX, hO, hw⟩
        ·refine WL.assign rfl rfl (WL.t (WC.qa rfl (WC.sr (WL.qj rfl rfl rfl (fun h148 => ?_) (fun h148 => ?_)))))
         ·refine WL.assign rfl rfl (WL.t (WC.qb rfl (WC.seq (WC.qc ((fun x => w.heap.size ≤ x ∧ x ≠ g_2)) [0, 1, 2, 3, 4, 5, 7, 8, 9, 10, 11, 12] [6, 13, 14] mixed rfl rfl (fun wd_4 kd_4 zd_4 => ?_)))))
          replace h := h.pure kd_4
          replace hX := hX.pure kd_4
          replace hO := hO.pure kd_4
          replace hw := hw.pure kd_4
          apply DQ.step [(7, _)] rfl ⟨rfl, trivial⟩ rfl (fun _ _ => WL.move rfl rfl  WL.q)
          apply DQ.step [(12, _)] rfl ⟨rfl, trivial⟩ rfl (fun _ _ => WL.fieldAddr (fld_34_1) rfl rfl  WL.q)
          apply DQ.step [(150, _)] rfl ⟨rfl, trivial⟩ rfl
          ·intro wq_8 kq_8
           replace hX := hX.chg kq_8 (by intro h1; exfalso; have h4 := h1.2; (try dsimp only at *); omega)
           refine WL.qd Tryz.isAgg3 hX rfl rfl rfl (WL.q)
          apply DQ.step [(12, _)] rfl ⟨rfl, trivial⟩ rfl (fun _ _ => WL.fieldAddr (fld_34_2) rfl rfl  WL.q)
          apply DQ.step [(152, _)] rfl ⟨rfl, trivial⟩ rfl
          ·intro wq_10 kq_10
           replace hX := hX.chg kq_10 (by intro h1; exfalso; have h4 := h1.2; (try dsimp only at *); omega)
           refine WL.qd Tryz.isAgg3 hX rfl rfl rfl (WL.q)
          apply DQ.step [(13, _)] rfl ⟨rfl, trivial⟩ rfl (fun _ _ => WL.move rfl rfl  WL.q)
          apply DQ.step [(9, _)] rfl ⟨rfl, trivial⟩ rfl (fun _ _ => WL.move rfl rfl  WL.q)
          apply DQ.step [(12, _)] rfl ⟨rfl, trivial⟩ rfl (fun _ _ => WL.fieldAddr (fld_34_1) rfl rfl  WL.q)
          apply DQ.step [(157, _)] rfl ⟨rfl, trivial⟩ rfl
          ·intro wq_14 kq_14
           replace hX := hX.chg kq_14 (by intro h1; exfalso; have h4 := h1.2; (try dsimp only at *); omega)
           refine WL.qd Tryz.isAgg3 hX rfl rfl rfl (WL.q)
          apply DQ.step [(12, _)] rfl ⟨rfl, trivial⟩ rfl (fun _ _ => WL.fieldAddr (fld_34_2) rfl rfl  WL.q)
          apply DQ.step [(159, _)] rfl ⟨rfl, trivial⟩ rfl
          ·intro wq_16 kq_16
           replace hX := hX.chg kq_16 (by intro h1; exfalso; have h4 := h1.2; (try dsimp only at *); omega)
           refine WL.qd Tryz.isAgg3 hX rfl rfl rfl (WL.q)
          apply DQ.step [(13, _)] rfl ⟨rfl, trivial⟩ rfl (fun _ _ => WL.move rfl rfl  WL.q)
          refine DQ.done (fun hd_5 => ?_)
          refine DL.step [(149, _), (151, _), (153, _), (154, _)] rfl ⟨rfl, rfl, rfl, rfl, trivial⟩ rfl (fun wq_18 kq_18 => ?_)
          have zs_kq_18 := kq_18.size
          replace h := h.pure kq_18
          replace hX := hX.pure kq_18
          replace hO := hO.pure kq_18
          replace hw := hw.pure kq_18
          replace hd_5 := hd_5.pure kq_18
          refine WL.call eg_19 rfl rfl (Rot_calls h.r o.drive o.at_ n (by omega)) ?_
          rintro v w8 ⟨rfl, hR8, k8⟩
          have h3 := h.left (fun x hx => ⟨by have := hw.size; omega, by omega⟩) hR8 k8
          have hk8 := k8.mono (M' := fun x => w.heap.size ≤ x ∧ x ≠ g_2) (fun x _ m => (h.a x m).1)
          have z8 := k8.size
          replace hX := hX.chg hk8 (by intro h1; exfalso; have h4 := h1.2; (try dsimp only at *); omega)
          replace hO := hO.chg hk8 (by intros; exfalso; (try dsimp only at *); omega)
          replace hw := hw.chg hk8 (by intros; exfalso; (try dsimp only at *); omega)
          replace hd_5 := hd_5.chg hk8 (by intro x h1 h2; exact h2)
          refine WL.nil (WX.one ⟨hd_5, ?_⟩)
          refine DL.step [(156, _), (158, _), (160, _), (161, _)] rfl ⟨rfl, rfl, rfl, rfl, trivial⟩ rfl (fun wq_19 kq_19 => ?_)
          have zs_kq_19 := kq_19.size
          replace hX := hX.pure kq_19
          replace hO := hO.pure kq_19
          replace hw := hw.pure kq_19
          replace hd_5 := hd_5.pure kq_19
          replace h3 := h3.pure kq_19
          refine WL.call eg_20 rfl rfl (dRot_calls h3.d (by omega) o.drive o.at_ n (by omega)) ?_
          rintro v w9 ⟨rfl, hD9, k9⟩
          have hf := h3.right0 (fun x hx => ⟨by have := hw.size; omega, by omega⟩) hD9 k9
          have hk9 := k9.mono (M' := fun x => w.heap.size ≤ x ∧ x ≠ g_2) (fun x _ m => (h3.b x m).1)
          have hl3 := (show (if rotE s o.drive o.at_ n = 0 then rotS s (o.drive, o.at_) n else s).waits.length ≤ s.waits.length + 16 ∧ (if rotE s o.drive o.at_ n = 0 then rotS s (o.drive, o.at_) n else s).dn = s.dn ∧ (if rotE s o.drive o.at_ n = 0 then rotS s (o.drive, o.at_) n else s).sn = s.sn from ⟨by have := (rotI_len s o.drive o.at_ n).1; omega, (rotI_len s o.drive o.at_ n).2⟩)
          replace hX := hX.chg hk9 (by intro h1; exfalso; have h4 := h1.2; (try dsimp only at *); omega)
          replace hO := hO.chg hk9 (by intros; exfalso; (try dsimp only at *); omega)
          replace hw := hw.chg hk9 (by intros; exfalso; (try dsimp only at *); omega)
          replace hd_5 := hd_5.chg hk9 (by intro x h1 h2; exact h2)
          refine WL.nil (WX.one ⟨hd_5, ?_⟩)
          refine DL.step [(155, _), (162, _)] rfl ⟨rfl, rfl, trivial⟩ rfl (fun wq_20 kq_20 => ?_)
          replace hX := hX.pure kq_20
          replace hO := hO.pure kq_20
          replace hw := hw.pure kq_20
          replace hd_5 := hd_5.pure kq_20
          replace hf := hf.pure kq_20
          refine WL.qz rfl rfl rfl (rfl) (WL.nil ?_)
          refine WX.one ⟨hd_5, ?_⟩
          refine DL.done (fun we_21 ke_21 => ?_)
          replace hX := hX.pure ke_21
          replace hO := hO.pure ke_21
          replace hw := hw.pure ke_21
          replace hf := hf.pure ke_21
          refine WX.qa (WC.qa rfl (WC.skip (WX.qd (?_))))
          first
           |exact WX.ql () ⟨rfl, rfl, rfl, rfl, rfl, trivial⟩ ⟨⟨_, ⟨_, _, hf⟩, by omega, hl3.2.1.trans hsd, hl3.2.2.trans hss⟩, hX, hO, hw⟩
           |exact WX.ql () ⟨rfl, rfl, rfl, rfl, rfl, trivial⟩ ⟨⟨_, ⟨_, _, h⟩, by omega, hsd, hss⟩, hX, hO, hw⟩
         ·refine WL.assign rfl rfl (WL.t (WC.qa rfl (WC.sr (WL.qj rfl rfl rfl (fun h165 => ?_) (fun h165 => ?_)))))
          ·refine WL.assign rfl rfl (WL.t (WC.qb rfl (WC.sr (WL.move rfl rfl (WL.move rfl rfl (WL.call eg_9 rfl rfl (lptr_calls n (by omega) _) ?_))))))
           rintro v w7 ⟨rfl, k7⟩
           have zs_k7 := k7.size
           replace h := h.pure k7
           replace hX := hX.pure k7
           replace hO := hO.pure k7
           replace hw := hw.pure k7
           refine WL.bld rfl (bld_43_0_1 _ _ _ _ _) rfl (WL.call eg_21 rfl rfl (docEncU_calls (ubV n n) _ hWf) ?_)
           rintro v w7 ⟨rfl, k7⟩
           have zs_k7 := k7.size
           replace h := h.pure k7
           replace hX := hX.pure k7
           replace hO := hO.pure k7
           replace hw := hw.pure k7
           refine WL.move rfl rfl (WL.extract rfl rfl rfl (WL.extract rfl rfl rfl (WL.assign rfl rfl (WL.assign rfl rfl (WL.t (WC.seq (?_)))))))
           by_cases hEz : encE (ubV n n) = 0
           ·obtain ⟨BB, eBB⟩ : ∃ BB, BB = encB (ubV n n) := ⟨_, rfl⟩
            rw [← eBB]
            refine WC.qc ((fun x => w.heap.size ≤ x ∧ x ≠ g_2)) [0, 1, 2, 3, 4, 5, 6, 7, 8, 11, 12, 13, 14, 15, 16] [9, 10, 17, 18, 19] mixed rfl rfl (fun wd_4 kd_4 zd_4 => ?_)
            replace h := h.pure kd_4
            replace hX := hX.pure kd_4
            replace hO := hO.pure kd_4
            replace hw := hw.pure kd_4
            apply DQ.step [(19, _)] rfl ⟨rfl, trivial⟩ rfl (fun _ _ => WL.move rfl rfl  WL.q)
            apply DQ.step [(174, _)] rfl ⟨rfl, trivial⟩ rfl
            ·intro wq_7 kq_7
             refine WL.eqlT rfl rfl rfl (hEz) (WL.q)
            apply DQ.step [(175, _)] rfl ⟨rfl, trivial⟩ rfl (fun _ _ => WL.move rfl rfl  WL.q)
            apply DQ.step [(7, _), (176, _)] rfl ⟨rfl, rfl, trivial⟩ rfl (fun _ _ => WL.qa rfl rfl rfl (WL.move rfl rfl  WL.q))
            apply DQ.step [(12, _), (176, _)] rfl ⟨rfl, rfl, trivial⟩ rfl (fun _ _ => WL.qa rfl rfl rfl (WL.fieldAddr (fld_34_1) rfl rfl  WL.q))
            apply DQ.step [(178, _), (176, _)] rfl ⟨rfl, rfl, trivial⟩ rfl
            ·intro wq_11 kq_11
             replace hX := hX.chg kq_11 (by intro h1; exfalso; have h4 := h1.2; (try dsimp only at *); omega)
             refine WL.qa rfl rfl rfl (WL.qd Tryz.isAgg3 hX rfl rfl rfl (WL.q))
            apply DQ.step [(12, _), (176, _)] rfl ⟨rfl, rfl, trivial⟩ rfl (fun _ _ => WL.qa rfl rfl rfl (WL.fieldAddr (fld_34_2) rfl rfl  WL.q))
            apply DQ.step [(180, _), (176, _)] rfl ⟨rfl, rfl, trivial⟩ rfl
            ·intro wq_13 kq_13
             replace hX := hX.chg kq_13 (by intro h1; exfalso; have h4 := h1.2; (try dsimp only at *); omega)
             refine WL.qa rfl rfl rfl (WL.qd Tryz.isAgg3 hX rfl rfl rfl (WL.q))
            apply DQ.step [(18, _), (176, _)] rfl ⟨rfl, rfl, trivial⟩ rfl (fun _ _ => WL.qa rfl rfl rfl (WL.move rfl rfl  WL.q))
            apply DQ.step [(9, _), (176, _)] rfl ⟨rfl, rfl, trivial⟩ rfl (fun _ _ => WL.qa rfl rfl rfl (WL.move rfl rfl  WL.q))
            apply DQ.step [(12, _), (176, _)] rfl ⟨rfl, rfl, trivial⟩ rfl (fun _ _ => WL.qa rfl rfl rfl (WL.fieldAddr (fld_34_1) rfl rfl  WL.q))
            apply DQ.step [(186, _), (176, _)] rfl ⟨rfl, rfl, trivial⟩ rfl
            ·intro wq_17 kq_17
             replace hX := hX.chg kq_17 (by intro h1; exfalso; have h4 := h1.2; (try dsimp only at *); omega)
             refine WL.qa rfl rfl rfl (WL.qd Tryz.isAgg3 hX rfl rfl rfl (WL.q))
            apply DQ.step [(12, _), (176, _)] rfl ⟨rfl, rfl, trivial⟩ rfl (fun _ _ => WL.qa rfl rfl rfl (WL.fieldAddr (fld_34_2) rfl rfl  WL.q))
            apply DQ.step [(188, _), (176, _)] rfl ⟨rfl, rfl, trivial⟩ rfl
            ·intro wq_19 kq_19
             replace hX := hX.chg kq_19 (by intro h1; exfalso; have h4 := h1.2; (try dsimp only at *); omega)
             refine WL.qa rfl rfl rfl (WL.qd Tryz.isAgg3 hX rfl rfl rfl (WL.q))
            apply DQ.step [(18, _), (176, _)] rfl ⟨rfl, rfl, trivial⟩ rfl (fun _ _ => WL.qa rfl rfl rfl (WL.move rfl rfl  WL.q))
            refine DQ.done (fun hd_5 => ?_)
            refine DL.step [(182, _), (176, _)] rfl ⟨rfl, rfl, trivial⟩ rfl (fun wq_21 kq_21 => ?_)
            have zs_kq_21 := kq_21.size
            replace h := h.pure kq_21
            replace hX := hX.pure kq_21
            replace hO := hO.pure kq_21
            replace hw := hw.pure kq_21
            replace hd_5 := hd_5.pure kq_21
            refine WL.qa rfl rfl rfl (?_)
            have hBl : BB.length = 128 := by rw [eBB]; exact (encE_t hEz).2.2.2
            have hBs : (⟨BB.toArray⟩ : ByteArray).size = 128 := by show BB.toArray.size = 128; rw [List.size_toArray, hBl]
            refine WL.toBytes Tryz.underlying9 Tryz.underlying51 Tryz.underlying5 rfl (by rw [hBs]; decide) rfl ?_
            intro a_hq c_hq w_hq hq k_hq z_hq
            have zs_k_hq := k_hq.size
            replace h := h.pure k_hq
            replace hX := hX.pure k_hq
            replace hO := hO.pure k_hq
            replace hw := hw.pure k_hq
            replace hd_5 := hd_5.pure k_hq
            rw [show (⟨BB.toArray⟩ : ByteArray).data.toList = BB from rfl] at hq ⊢
            refine WL.nil (WX.one ⟨hd_5, ?_⟩)
            refine DL.step [(177, _), (179, _), (181, _), (183, _), (176, _)] rfl ⟨rfl, rfl, rfl, rfl, rfl, trivial⟩ rfl (fun wq_22 kq_22 => ?_)
            have zs_kq_22 := kq_22.size
            replace h := h.pure kq_22
            replace hX := hX.pure kq_22
            replace hO := hO.pure kq_22
            replace hw := hw.pure kq_22
            replace hd_5 := hd_5.pure kq_22
            replace hq := hq.pure kq_22
            refine WL.qa rfl rfl rfl (?_)
            refine WL.call eg_22 rfl rfl (Write_calls h.r o.drive o.at_ hq.rsl (fun x h1 h2 => by have := hAB R (.inl h.r.aR); omega) (by omega)) ?_
            rintro v w8 ⟨rfl, hR8, k8⟩
            have h3 := h.left (fun x hx => ⟨by have := hw.size; omega, by omega⟩) hR8 k8
            have hk8 := k8.mono (M' := fun x => w.heap.size ≤ x ∧ x ≠ g_2) (fun x _ m => (h.a x m).1)
            have z8 := k8.size
            replace hX := hX.chg hk8 (by intro h1; exfalso; have h4 := h1.2; (try dsimp only at *); omega)
            replace hO := hO.chg hk8 (by intros; exfalso; (try dsimp only at *); omega)
            replace hw := hw.chg hk8 (by intros; exfalso; (try dsimp only at *); omega)
            replace hd_5 := hd_5.chg hk8 (by intro x h1 h2; exact h2)
            refine WL.nil (WX.one ⟨hd_5, ?_⟩)
            refine DL.step [(185, _), (187, _), (189, _), (190, _), (176, _)] rfl ⟨rfl, rfl, rfl, rfl, rfl, trivial⟩ rfl (fun wq_23 kq_23 => ?_)
            have zs_kq_23 := kq_23.size
            replace hX := hX.pure kq_23
            replace hO := hO.pure kq_23
            replace hw := hw.pure kq_23
            replace hd_5 := hd_5.pure kq_23
            replace h3 := h3.pure kq_23
            refine WL.qa rfl rfl rfl (WL.call eg_23 rfl rfl (dWrite_calls h3.d (by omega) o.drive o.at_ BB) ?_)
            rintro v w9 ⟨rfl, hD9, k9⟩
            have hf := h3.right (fun x hx => ⟨by have := hw.size; omega, by omega⟩) hD9 k9
            have hk9 := k9.mono (M' := fun x => w.heap.size ≤ x ∧ x ≠ g_2) (fun x _ m => (h3.b x m).1)
            have hl3 := (show (writeS s o.drive o.at_ BB).waits.length ≤ s.waits.length + 16 ∧ (writeS s o.drive o.at_ BB).dn = s.dn ∧ (writeS s o.drive o.at_ BB).sn = s.sn from ⟨by have := (writeS_len s o.drive o.at_ BB).1; omega, (writeS_len s o.drive o.at_ BB).2⟩)
            replace hX := hX.chg hk9 (by intro h1; exfalso; have h4 := h1.2; (try dsimp only at *); omega)
            replace hO := hO.chg hk9 (by intros; exfalso; (try dsimp only at *); omega)
            replace hw := hw.chg hk9 (by intros; exfalso; (try dsimp only at *); omega)
            replace hd_5 := hd_5.chg hk9 (by intro x h1 h2; exact h2)
            refine WL.nil (WX.one ⟨hd_5, ?_⟩)
            refine DL.step [(184, _), (191, _), (176, _)] rfl ⟨rfl, rfl, rfl, trivial⟩ rfl (fun wq_24 kq_24 => ?_)
            replace hX := hX.pure kq_24
            replace hO := hO.pure kq_24
            replace hw := hw.pure kq_24
            replace hd_5 := hd_5.pure kq_24
            replace hf := hf.pure kq_24
            refine WL.qa rfl rfl rfl (WL.qz rfl rfl rfl (rfl) ?_)
            refine WL.nil (WX.one ⟨hd_5, ?_⟩)
            refine DL.step [(176, _), (192, _)] rfl ⟨rfl, rfl, trivial⟩ rfl (fun wq_25 kq_25 => ?_)
            replace hX := hX.pure kq_25
            replace hO := hO.pure kq_25
            replace hw := hw.pure kq_25
            replace hd_5 := hd_5.pure kq_25
            replace hf := hf.pure kq_25
            refine WL.qc rfl rfl rfl (WL.nil ?_)
            refine WX.one ⟨hd_5, ?_⟩
            refine DL.done (fun we_26 ke_26 => ?_)
            replace hX := hX.pure ke_26
            replace hO := hO.pure ke_26
            replace hw := hw.pure ke_26
            replace hf := hf.pure ke_26
            refine WX.qa (WC.qa rfl (WC.skip (WX.qd (?_))))
            first
             |exact WX.ql () ⟨rfl, rfl, rfl, rfl, rfl, trivial⟩ ⟨⟨_, ⟨_, _, hf⟩, by omega, hl3.2.1.trans hsd, hl3.2.2.trans hss⟩, hX, hO, hw⟩
             |exact WX.ql () ⟨rfl, rfl, rfl, rfl, rfl, trivial⟩ ⟨⟨_, ⟨_, _, h⟩, by omega, hsd, hss⟩, hX, hO, hw⟩
           ·refine WC.qc ((fun x => w.heap.size ≤ x ∧ x ≠ g_2)) [0, 1, 2, 3, 4, 5, 6, 7, 8, 11, 12, 13, 14, 15, 16] [9, 10, 17, 18, 19] mixed rfl rfl (fun wd_4 kd_4 zd_4 => ?_)
            replace h := h.pure kd_4
            replace hX := hX.pure kd_4
            replace hO := hO.pure kd_4
            replace hw := hw.pure kd_4
            apply DQ.step [(19, _)] rfl ⟨rfl, trivial⟩ rfl (fun _ _ => WL.move rfl rfl  WL.q)
            apply DQ.step [(174, _)] rfl ⟨rfl, trivial⟩ rfl
            ·intro wq_7 kq_7
             refine WL.eqlF rfl rfl rfl (hEz) (WL.q)
            apply DQ.step [(175, _)] rfl ⟨rfl, trivial⟩ rfl (fun _ _ => WL.move rfl rfl  WL.q)
            apply DQ.step [(7, _), (176, _)] rfl ⟨rfl, rfl, trivial⟩ rfl
            ·intro wq_9 kq_9
             refine WL.pass rfl rfl rfl rfl (WL.nil (WX.one ⟨rfl, by exact Chg.refl _ _⟩))
            apply DQ.step [(12, _), (176, _)] rfl ⟨rfl, rfl, trivial⟩ rfl
            ·intro wq_10 kq_10
             refine WL.pass rfl rfl rfl rfl (WL.nil (WX.one ⟨rfl, by exact Chg.refl _ _⟩))
            apply DQ.step [(178, _), (176, _)] rfl ⟨rfl, rfl, trivial⟩ rfl
            ·intro wq_11 kq_11
             refine WL.pass rfl rfl rfl rfl (WL.nil (WX.one ⟨rfl, by exact Chg.refl _ _⟩))
            apply DQ.step [(12, _), (176, _)] rfl ⟨rfl, rfl, trivial⟩ rfl
            ·intro wq_12 kq_12
             refine WL.pass rfl rfl rfl rfl (WL.nil (WX.one ⟨rfl, by exact Chg.refl _ _⟩))
            apply DQ.step [(180, _), (176, _)] rfl ⟨rfl, rfl, trivial⟩ rfl
            ·intro wq_13 kq_13
             refine WL.pass rfl rfl rfl rfl (WL.nil (WX.one ⟨rfl, by exact Chg.refl _ _⟩))
            apply DQ.step [(18, _), (176, _)] rfl ⟨rfl, rfl, trivial⟩ rfl
            ·intro wq_14 kq_14
             refine WL.pass rfl rfl rfl rfl (WL.nil (WX.one ⟨rfl, by exact Chg.refl _ _⟩))
            apply DQ.step [(9, _), (176, _)] rfl ⟨rfl, rfl, trivial⟩ rfl
            ·intro wq_15 kq_15
             refine WL.pass rfl rfl rfl rfl (WL.nil (WX.one ⟨rfl, by exact Chg.refl _ _⟩))
            apply DQ.step [(12, _), (176, _)] rfl ⟨rfl, rfl, trivial⟩ rfl
            ·intro wq_16 kq_16
             refine WL.pass rfl rfl rfl rfl (WL.nil (WX.one ⟨rfl, by exact Chg.refl _ _⟩))
            apply DQ.step [(186, _), (176, _)] rfl ⟨rfl, rfl, trivial⟩ rfl
            ·intro wq_17 kq_17
             refine WL.pass rfl rfl rfl rfl (WL.nil (WX.one ⟨rfl, by exact Chg.refl _ _⟩))
            apply DQ.step [(12, _), (176, _)] rfl ⟨rfl, rfl, trivial⟩ rfl
            ·intro wq_18 kq_18
             refine WL.pass rfl rfl rfl rfl (WL.nil (WX.one ⟨rfl, by exact Chg.refl _ _⟩))
            apply DQ.step [(188, _), (176, _)] rfl ⟨rfl, rfl, trivial⟩ rfl
            ·intro wq_19 kq_19
             refine WL.pass rfl rfl rfl rfl (WL.nil (WX.one ⟨rfl, by exact Chg.refl _ _⟩))
            apply DQ.step [(18, _), (176, _)] rfl ⟨rfl, rfl, trivial⟩ rfl
            ·intro wq_20 kq_20
             refine WL.pass rfl rfl rfl rfl (WL.nil (WX.one ⟨rfl, by exact Chg.refl _ _⟩))
            refine DQ.done (fun hd_5 => ?_)
            refine DL.step [(182, _), (176, _)] rfl ⟨rfl, rfl, trivial⟩ rfl (fun wq_21 kq_21 => ?_)
            replace h := h.pure kq_21
            replace hX := hX.pure kq_21
            replace hO := hO.pure kq_21
            replace hw := hw.pure kq_21
            replace hd_5 := hd_5.pure kq_21
            refine WL.pass rfl rfl rfl rfl (WL.nil (WX.one ⟨hd_5, ?_⟩))
            refine DL.step [(177, _), (179, _), (181, _), (183, _), (176, _)] rfl ⟨rfl, rfl, rfl, rfl, rfl, trivial⟩ rfl (fun wq_22 kq_22 => ?_)
            replace h := h.pure kq_22
            replace hX := hX.pure kq_22
            replace hO := hO.pure kq_22
            replace hw := hw.pure kq_22
            replace hd_5 := hd_5.pure kq_22
            refine WL.pass rfl rfl rfl rfl (WL.nil (WX.one ⟨hd_5, ?_⟩))
            refine DL.step [(185, _), (187, _), (189, _), (190, _), (176, _)] rfl ⟨rfl, rfl, rfl, rfl, rfl, trivial⟩ rfl (fun wq_23 kq_23 => ?_)
            replace h := h.pure kq_23
            replace hX := hX.pure kq_23
            replace hO := hO.pure kq_23
            replace hw := hw.pure kq_23
            replace hd_5 := hd_5.pure kq_23
            refine WL.pass rfl rfl rfl rfl (WL.nil (WX.one ⟨hd_5, ?_⟩))
            refine DL.step [(184, _), (191, _), (176, _)] rfl ⟨rfl, rfl, rfl, trivial⟩ rfl (fun wq_24 kq_24 => ?_)
            replace h := h.pure kq_24
            replace hX := hX.pure kq_24
            replace hO := hO.pure kq_24
            replace hw := hw.pure kq_24
            replace hd_5 := hd_5.pure kq_24
            refine WL.pass rfl rfl rfl rfl (WL.nil (WX.one ⟨hd_5, ?_⟩))
            refine DL.step [(176, _), (192, _)] rfl ⟨rfl, rfl, trivial⟩ rfl (fun wq_25 kq_25 => ?_)
            replace h := h.pure kq_25
            replace hX := hX.pure kq_25
            replace hO := hO.pure kq_25
            replace hw := hw.pure kq_25
            replace hd_5 := hd_5.pure kq_25
            refine WL.qb rfl rfl rfl (WL.nil ?_)
            refine WX.one ⟨hd_5, ?_⟩
            refine DL.done (fun we_26 ke_26 => ?_)
            replace h := h.pure ke_26
            replace hX := hX.pure ke_26
            replace hO := hO.pure ke_26
            replace hw := hw.pure ke_26
            refine WX.qa (WC.qa rfl (WC.skip (WX.qd (?_))))
            first
             |exact WX.ql () ⟨rfl, rfl, rfl, rfl, rfl, trivial⟩ ⟨⟨_, ⟨_, _, hf⟩, by omega, hl3.2.1.trans hsd, hl3.2.2.trans hss⟩, hX, hO, hw⟩
             |exact WX.ql () ⟨rfl, rfl, rfl, rfl, rfl, trivial⟩ ⟨⟨_, ⟨_, _, h⟩, by omega, hsd, hss⟩, hX, hO, hw⟩
          ·refine WL.assign rfl rfl (WL.t (WC.qa rfl (WC.sr (WL.qj rfl rfl rfl (fun h195 => ?_) (fun h195 => ?_)))))
           ·refine WL.assign rfl rfl (WL.t (WC.qb rfl (WC.sr (WL.move rfl rfl (WL.move rfl rfl (?_))))))
            refine WL.qw rfl rfl (by constructor <;> omega) rfl (?_)
            refine WL.call eg_24 rfl rfl (Arm_calls h.r ((n : Int) % 20) (by omega)) ?_
            rintro v w8 ⟨rfl, hR8, k8⟩
            have h3 := h.left0 (fun x hx => ⟨by have := hw.size; omega, by omega⟩) hR8 k8
            replace hX := hX.chg k8 (fun m => (h.a _ m).1.2 rfl)
            replace hO := hO.chg k8 (fun x _ h1 m => by have := (h.a x m).1.1; omega)
            replace hw := hw.trans k8 (fun x h1 m => by have := (h.a x m).1.1; omega)
            have z_k8 := k8.size
            refine WL.t (WC.region (WL.move rfl rfl (WL.move rfl rfl (WL.qw rfl rfl (by constructor <;> omega) rfl (?_)))))
            refine WL.call eg_25 rfl rfl (dArm_calls h3.d ((n : Int) % 20) (by omega)) ?_
            rintro v w9 ⟨rfl, hD9, k9⟩
            have hf := h3.right0 (fun x hx => ⟨by have := hw.size; omega, by omega⟩) hD9 k9
            replace hX := hX.chg k9 (fun m => (h3.b _ m).1.2 rfl)
            replace hO := hO.chg k9 (fun x _ h1 m => by have := (h3.b x m).1.1; omega)
            replace hw := hw.trans k9 (fun x h1 m => by have := (h3.b x m).1.1; omega)
            have hl3 := (show (armS s ((n : Int) % 20)).waits.length ≤ s.waits.length + 16 ∧ (armS s ((n : Int) % 20)).dn = s.dn ∧ (armS s ((n : Int) % 20)).sn = s.sn from ⟨by show s.waits.length ≤ _; omega, rfl, rfl⟩)
            refine WL.nil (WX.qd (?_))
            first
             |exact WX.ql () ⟨rfl, rfl, rfl, rfl, rfl, trivial⟩ ⟨⟨_, ⟨_, _, hf⟩, by omega, hl3.2.1.trans hsd, hl3.2.2.trans hss⟩, hX, hO, hw⟩
             |exact WX.ql () ⟨rfl, rfl, rfl, rfl, rfl, trivial⟩ ⟨⟨_, ⟨_, _, h⟩, by omega, hsd, hss⟩, hX, hO, hw⟩
           ·refine WL.assign rfl rfl (WL.t (WC.qa rfl (WC.skip (WX.qd (?_)))))
            first
             |exact WX.ql () ⟨rfl, rfl, rfl, rfl, rfl, trivial⟩ ⟨⟨_, ⟨_, _, hf⟩, by omega, hl3.2.1.trans hsd, hl3.2.2.trans hss⟩, hX, hO, hw⟩
             |exact WX.ql () ⟨rfl, rfl, rfl, rfl, rfl, trivial⟩ ⟨⟨_, ⟨_, _, h⟩, by omega, hsd, hss⟩, hX, hO, hw⟩
   ·clear hH hb_2 hX hO hp hw
    rintro ⟨⟩ w6 ⟨⟨t, hH, htl, htd, hts⟩, hX, hO, hw⟩
    have hgl6 := hX.lt
    replace hH := hH.old
    refine WX.qa (WC.sr (WL.move rfl rfl (WL.call eg_26 rfl rfl (lNewest_calls hH.r) ?_)))
    rintro v w7 ⟨rfl, k7⟩
    obtain ⟨U, eU⟩ : ∃ U, U = nwU t := ⟨_, rfl⟩
    rw [← eU]
    have zs_k7 := k7.size
    replace hX := hX.pure k7
    replace hO := hO.pure k7
    replace hw := hw.pure k7
    replace hH := hH.pure k7
    refine WL.move rfl rfl (WL.extract rfl rfl rfl (WL.extract rfl rfl rfl (WL.alloc Tryz.zeroValue41 rfl ?_)))
    intro g_4 w_4 hge_4 hlt_4 hb_4 k_4
    replace hX := hX.pure k_4
    replace hO := hO.pure k_4
    replace hw := hw.pure k_4
    replace hH := hH.pure k_4
    refine WL.qf Tryz.sizeOf41 hb_4 rfl rfl (by rfl) (by exact Enc.one _ _) (by exact Nat.le_of_ble_eq_true rfl) rfl ?_
    intro w_5 hs_5 hn_5 k_5
    replace hX := hX.chg k_5 (by intro h1; have h2 : _ = _ := h1; exfalso; omega)
    replace hO := hO.chg k_5 (by intro b h1 h2 h3; have h4 : _ = _ := h3; (try dsimp only at h2); exfalso; omega)
    replace hw := hw.chg k_5 (by intro x h1 h2; have h3 : _ = _ := h2; exfalso; omega)
    replace hH := hH.chg k_5 (by intro b h1 h2 h3; have h4 : _ = _ := h3; (try dsimp only at h2); exfalso; omega)
    replace hb_4 := hn_5
    refine WL.assign rfl rfl (WL.t (WC.sr (WL.move rfl rfl (WL.call eg_27 rfl rfl (docNewest8_calls hH.d (by omega)) ?_))))
    rintro v w7 ⟨rfl, k7⟩
    rw [← eU]
    have zs_k7 := k7.size
    replace hX := hX.pure k7
    replace hO := hO.pure k7
    replace hw := hw.pure k7
    replace hH := hH.pure k7
    replace hb_4 := hb_4.pure k7
    refine WL.move rfl rfl (WL.extract rfl rfl rfl (WL.extract rfl rfl rfl (WL.alloc Tryz.zeroValue43 rfl ?_)))
    intro g_6 w_6 hge_6 hlt_6 hb_6 k_6
    replace hX := hX.pure k_6
    replace hO := hO.pure k_6
    replace hw := hw.pure k_6
    replace hH := hH.pure k_6
    replace hb_4 := hb_4.pure k_6
    refine WL.qf Tryz.sizeOf43 hb_6 rfl rfl (by rfl) (by exact Enc.one _ _) (by exact Nat.le_of_ble_eq_true rfl) rfl ?_
    intro w_7 hs_7 hn_7 k_7
    replace hX := hX.chg k_7 (by intro h1; have h2 : _ = _ := h1; exfalso; omega)
    replace hO := hO.chg k_7 (by intro b h1 h2 h3; have h4 : _ = _ := h3; (try dsimp only at h2); exfalso; omega)
    replace hw := hw.chg k_7 (by intro x h1 h2; have h3 : _ = _ := h2; exfalso; omega)
    replace hH := hH.chg k_7 (by intro b h1 h2 h3; have h4 : _ = _ := h3; (try dsimp only at h2); exfalso; omega)
    replace hb_4 := hb_4.chg k_7 (by intro h1; have h2 : _ = _ := h1; exfalso; omega)
    replace hb_6 := hn_7
    refine WL.assign rfl rfl (WL.t (WC.seq (WC.seq (?_))))
    have hb20 := Blk.eqc (cs' := eub.f U) hb_4 rfl
    have hb22 := Blk.eqc (cs' := eub.f U) hb_6 rfl
    refine WC.qc (Nob) [0, 1, 2, 3, 4, 5, 6, 7, 8] [] mixed rfl rfl (fun wd_8 kd_8 zd_8 => ?_)
    replace hX := hX.pure kd_8
    replace hO := hO.pure kd_8
    replace hw := hw.pure kd_8
    replace hH := hH.pure kd_8
    replace hb20 := hb20.pure kd_8
    replace hb22 := hb22.pure kd_8
    apply DQ.step [(20, _)] rfl ⟨rfl, trivial⟩ rfl
    ·intro wq_9 kq_9
     replace hb20 := hb20.pure kq_9
     refine WL.qq Tryz.isAgg41 Tryz.sizeOf41 hb20 rfl (by rfl) rfl (?_)
     exact WL.q
    apply DQ.step [(214, _)] rfl ⟨rfl, trivial⟩ rfl
    ·intro wq_10 kq_10
     refine WL.call eg_28 rfl rfl (of8_calls U _) ?_
     rintro v w8 ⟨rfl, k8⟩
     refine WL.nil (WX.one ⟨rfl, by assumption⟩)
    apply DQ.step [(22, _)] rfl ⟨rfl, trivial⟩ rfl
    ·intro wq_11 kq_11
     replace hb22 := hb22.pure kq_11
     refine WL.qq Tryz.isAgg43 Tryz.sizeOf43 hb22 rfl (by rfl) rfl (?_)
     exact WL.q
    apply DQ.step [(215, _), (216, _)] rfl ⟨rfl, rfl, trivial⟩ rfl
    ·intro wq_12 kq_12
     refine WL.aneq eqg_dub (eq_dub U U) rfl rfl rfl ?_
     rw [show (decide (U ≠ U)) = false from decide_eq_false (fun h => h rfl)]
     exact WL.q
    apply DQ.step [(217, _)] rfl ⟨rfl, trivial⟩ rfl (fun _ _ => WL.move rfl rfl  WL.q)
    apply DQ.step [(21, _), (218, _)] rfl ⟨rfl, rfl, trivial⟩ rfl (fun _ _ => WL.qa rfl rfl rfl (WL.move rfl rfl  WL.q))
    apply DQ.step [(23, _), (218, _)] rfl ⟨rfl, rfl, trivial⟩ rfl (fun _ _ => WL.qa rfl rfl rfl (WL.move rfl rfl  WL.q))
    apply DQ.step [(219, _), (220, _), (218, _)] rfl ⟨rfl, rfl, rfl, trivial⟩ rfl
    ·intro wq_16 kq_16
     refine WL.qa rfl rfl rfl (WL.qz rfl rfl rfl (rfl) ?_)
     exact WL.q
    apply DQ.step [(218, _), (221, _)] rfl ⟨rfl, rfl, trivial⟩ rfl (fun _ _ => WL.qb rfl rfl rfl  WL.q)
    refine DQ.done (fun _ => ?_)
    refine DL.done (fun we_18 ke_18 => ?_)
    have zs_ke_18 := ke_18.size
    replace hX := hX.pure ke_18
    replace hO := hO.pure ke_18
    replace hw := hw.pure ke_18
    replace hH := hH.pure ke_18
    refine WX.qa (WC.qa rfl (WC.skip (WX.qa (WC.sr (WL.move rfl rfl (WL.fieldAddr (fld_34_1) rfl rfl (WL.qd Tryz.isAgg3 hX rfl rfl rfl (WL.call eg_29 rfl rfl (slots_calls hH.r o.drive) ?_))))))))
    rintro v w7 ⟨⟨a24, c24, rfl, hq24⟩, k7⟩
    obtain ⟨L, eL⟩ : ∃ L, L = slL t o.drive := ⟨_, rfl⟩
    rw [← eL] at hq24 ⊢
    replace hX := hX.pure k7
    replace hO := hO.pure k7
    replace hw := hw.pure k7
    replace hH := hH.pure k7
    replace hq24 := hq24.lt
    refine WL.move rfl rfl (WL.extract rfl rfl rfl (WL.extract rfl rfl rfl (WL.assign rfl rfl (WL.assign rfl rfl (WL.t (WC.seq (WC.region (WL.move rfl rfl (WL.fieldAddr (fld_34_1) rfl rfl (WL.qd Tryz.isAgg3 hX rfl rfl rfl (?_)))))))))))
    have hLl : L.length ≤ 8 := by rw [eL, slL]; split; rw [List.length_map, wholeL]; split; rw [outK_len]; omega; simp; simp
    refine WL.call eg_30 rfl rfl (docSlots_calls hH.d (by omega) o.drive) ?_
    rintro v w9 ⟨⟨a25, c25, rfl, hq25⟩, k9⟩
    rw [← eL] at hq25 ⊢
    replace hO := hO.pure k9
    replace hw := hw.pure k9
    replace hH := hH.pure k9
    replace hq24 := hq24.pure k9
    replace hq25 := hq25.lt
    refine WL.move rfl rfl (WL.extract rfl rfl rfl (WL.extract rfl rfl rfl (WL.assign rfl rfl (WL.assign rfl rfl (WL.t (WC.seq (WC.sr (WL.move rfl rfl (WL.move rfl rfl (WL.qz rfl rfl rfl (rfl) ?_))))))))))
    refine WL.move rfl rfl (WL.qa rfl rfl rfl (WL.move rfl rfl (WL.qa rfl rfl rfl (WL.len Tryz.underlying32 rfl rfl (WL.qa rfl rfl rfl (WL.move rfl rfl (WL.qa rfl rfl rfl (WL.len Tryz.underlying32 rfl rfl (WL.qa rfl rfl rfl (WL.qz rfl rfl rfl (rfl) ?_))))))))))
    refine WL.qb rfl rfl rfl (WL.t (WC.qa rfl (WC.skip (WX.qa (WC.sr (WL.assign rfl rfl (WL.t (WC.block (?_)))))))))
    obtain ⟨n7, en7⟩ : ∃ n7, n7 = w7.heap.size := ⟨_, rfl⟩
    obtain ⟨n9, en9⟩ : ∃ n9, n9 = w9.heap.size := ⟨_, rfl⟩
    obtain ⟨m7, em7⟩ : ∃ m7 : Nat, (∀ x, w.heap.size ≤ x ∧ x ≠ g_2 ∧ x < w6.heap.size → x < m7) ∧ w6.heap.size ≤ m7 := ⟨w6.heap.size, fun x hx => hx.2.2, Nat.le_refl _⟩
    refine WC.loop (σ := Nat × List Int) (fun q => [(2, .slice a2 l2.length c2), (7, ptr R), (9, ptr D), (11, vi (i : Int)), (24, .slice a24 q.2.length c24), (25, .slice a25 L.length c25), (26, vi (q.1 : Int))])
     (fun q w' => q.1 ≤ L.length ∧ q.2.length = L.length ∧ (∀ j, q.1 ≤ j → q.2[j]? = L[j]?) ∧ Row (fun x => w6.heap.size ≤ x ∧ x < n7) w' 3 ei a24 c24 q.2 ∧ Row (fun x => n7 ≤ x ∧ x < n9) w' 3 ei a25 c25 L ∧ HH (fun x => w.heap.size ≤ x ∧ x < w6.heap.size) w' R D t ∧ OSL (· < w.heap.size) w' a2 c2 l2 ∧ Chg Nob w w') (fun q => L.length - q.1) (0, L) ⟨rfl, rfl, rfl, rfl, rfl, rfl, rfl, trivial⟩
     ⟨Nat.zero_le _, rfl, fun j _ => rfl, hq24.mono (fun x hx => by omega), hq25.mono (fun x hx => by omega), hH.mono (fun x hx => ⟨hx.1.1, hx.2⟩), hO, hw⟩ ?_
    clear hq24 hq25 hH hO hw
    rintro ⟨k, ys⟩ w8 ⟨hk, hyl, hyj, hq24, hq25, hH, hO, hw⟩
    dsimp only at hk hyl hyj hq24 ⊢
    refine WC.seq (WC.sr (WL.move rfl rfl (WL.move rfl rfl (WL.len Tryz.underlying32 rfl rfl (WL.qi rfl rfl rfl (fun h250 => ?_) (fun h250 => ?_))))))
    ·refine WL.t (WC.qb rfl (WC.skip (WX.qa (WC.seq (WC.block (WC.seq (WC.seq (?_))))))))
     obtain ⟨u, hu⟩ : ∃ u, L[k]? = some u := ⟨_, List.getElem?_eq_getElem (by omega)⟩
     have hyk : ys[k]? = some u := (hyj k (Nat.le_refl _)).trans hu
     obtain ⟨gq, hgq⟩ := hq24.place0 (j := k) (by omega)
     obtain ⟨b2, o2, hgq2⟩ := hq25.rsl.place hu
     subst hgq
     subst hgq2
     refine WC.qc (Nob) [0, 1, 2, 3, 4, 5, 6, 7, 8] [] mixed rfl rfl (fun wd_19 kd_19 zd_19 => ?_)
     replace hq24 := hq24.pure kd_19
     replace hq25 := hq25.pure kd_19
     replace hH := hH.pure kd_19
     replace hO := hO.pure kd_19
     replace hw := hw.pure kd_19
     apply DQ.step [(24, _)] rfl ⟨rfl, trivial⟩ rfl (fun _ _ => WL.move rfl rfl  WL.q)
     apply DQ.step [(26, _)] rfl ⟨rfl, trivial⟩ rfl (fun _ _ => WL.move rfl rfl  WL.q)
     apply DQ.step [(253, _), (254, _)] rfl ⟨rfl, rfl, trivial⟩ rfl
     ·intro wq_22 kq_22
      replace hq24 := hq24.pure kq_22
      refine WL.qh hq24.rsl Tryz.underlying32 Tryz.sizeOf3 rfl rfl ⟨hyk, rfl⟩ rfl (WL.q)
     apply DQ.step [(255, _)] rfl ⟨rfl, trivial⟩ rfl
     ·intro wq_23 kq_23
      replace hq24 := hq24.pure kq_23
      refine WL.load Tryz.isAgg3 rfl ((hq24.rsl.cellsAt hyk) 0 _ rfl) rfl (WL.q)
     apply DQ.step [(25, _)] rfl ⟨rfl, trivial⟩ rfl (fun _ _ => WL.move rfl rfl  WL.q)
     apply DQ.step [(26, _)] rfl ⟨rfl, trivial⟩ rfl (fun _ _ => WL.move rfl rfl  WL.q)
     apply DQ.step [(257, _), (258, _)] rfl ⟨rfl, rfl, trivial⟩ rfl
     ·intro wq_26 kq_26
      replace hq25 := hq25.pure kq_26
      refine WL.qh hq25.rsl Tryz.underlying32 Tryz.sizeOf3 rfl rfl ⟨hu, rfl⟩ rfl (WL.q)
     apply DQ.step [(259, _)] rfl ⟨rfl, trivial⟩ rfl
     ·intro wq_27 kq_27
      replace hq25 := hq25.pure kq_27
      refine WL.load Tryz.isAgg3 rfl ((hq25.rsl.cellsAt hu) 0 _ rfl) rfl (WL.q)
     apply DQ.step [(256, _), (260, _)] rfl ⟨rfl, rfl, trivial⟩ rfl
     ·intro wq_28 kq_28
      refine WL.qz rfl rfl rfl (rfl) (WL.q)
     refine DQ.done (fun _ => ?_)
     refine DL.done (fun we_29 ke_29 => ?_)
     replace hq24 := hq24.pure ke_29
     replace hq25 := hq25.pure ke_29
     replace hH := hH.pure ke_29
     replace hO := hO.pure ke_29
     replace hw := hw.pure ke_29
     refine WX.qa (WC.qa rfl (WC.skip (WX.qa (WC.region (WL.move rfl rfl (WL.move rfl rfl (WL.index (sz := 1) (j := k) Tryz.underlying32 Tryz.sizeOf3 rfl rfl rfl (by omega) rfl ?_)))))))
     have hgw : w6.heap.size ≤ gq ∧ gq < n7 := hq24.at_ _ rfl
     refine WL.qt (z := (0 : Int)) k Tryz.sizeOf3 hq24 rfl rfl rfl (by show 0 + k * 1 = k; omega) (by omega) rfl ?_
     intro w10 z10 hQ10 k10
     replace hq25 := hq25.chg k10 (fun x _ h1 e => by have h2 : x = gq := e; omega)
     replace hH := hH.chg k10 (fun x _ h1 e => by have h2 : x = gq := e; omega)
     replace hO := hO.chg k10 (fun x _ h1 e => by have h2 : x = gq := e; omega)
     replace hw := hw.trans k10 (fun x h1 e => by have h2 : x = gq := e; omega)
     refine WL.nil (WX.qd (WX.qa (WC.region (WL.move rfl rfl (WL.qe rfl rfl (by omega) rfl (WL.assign rfl rfl (WL.nil (?_))))))))
     first
      |exact WX.qc (k + 1, ys.set k 0) ⟨rfl, rfl, rfl, rfl, by show _ = some (Value.slice _ (ys.set k 0).length _); rw [List.length_set]; rfl, rfl, rfl, trivial⟩ ⟨by show k + 1 ≤ _; omega, by show (ys.set k 0).length = _; rw [List.length_set]; exact hyl, fun j hj => by rw [List.getElem?_set_ne (by omega)]; exact hyj j (by omega), hQ10, hq25, hH, hO, hw⟩ (by show L.length - (k + 1) < L.length - k; omega)
      |exact WX.qc (i + 1) ⟨rfl, rfl, rfl, rfl, trivial⟩ ⟨⟨by omega, by omega⟩, hO, hw, t, hH.mono (fun x hx => hx.1), htl, htd, hts⟩ (by show 30 - (i + 1) < 30 - i; omega)
    ·refine WL.t (WC.qa rfl (WC.exit (WX.qe (WX.qe (WX.qh (WX.qd (WX.qa (WC.region (WL.move rfl rfl (WL.qe rfl rfl (by omega) rfl (WL.assign rfl rfl (WL.nil (?_)))))))))))))
     first
      |exact WX.qc (k + 1, ys.set k 0) ⟨rfl, rfl, rfl, rfl, by show _ = some (Value.slice _ (ys.set k 0).length _); rw [List.length_set]; rfl, rfl, rfl, trivial⟩ ⟨by show k + 1 ≤ _; omega, by show (ys.set k 0).length = _; rw [List.length_set]; exact hyl, fun j hj => by rw [List.getElem?_set_ne (by omega)]; exact hyj j (by omega), hQ10, hq25, hH, hO, hw⟩ (by show L.length - (k + 1) < L.length - k; omega)
      |exact WX.qc (i + 1) ⟨rfl, rfl, rfl, rfl, trivial⟩ ⟨⟨by omega, by omega⟩, hO, hw, t, hH.mono (fun x hx => hx.1), htl, htd, hts⟩ (by show 30 - (i + 1) < 30 - i; omega)
  ·refine WL.qc rfl rfl rfl (WL.t (WC.qa rfl (WC.exit (WX.qe (WX.qe (WX.qh (WX.qa (WC.sr (WL.call eg_26 rfl rfl (nilNewest8_calls _) ?_)))))))))
   rintro v w7 ⟨rfl, k7⟩
   replace hw := hw.pure k7
   refine WL.move rfl rfl (WL.extract rfl rfl rfl (WL.extract rfl rfl rfl (WL.assign rfl rfl (WL.t (WC.sr (WL.call eg_9 rfl rfl (lptr_calls 1 (by omega) _) ?_))))))
   rintro v w7 ⟨rfl, k7⟩
   replace hw := hw.pure k7
   refine WL.bld rfl (bld_41_0_1 _ _ _ _ _) rfl (WL.call eg_8 rfl rfl (nilWrite8_calls _ (ubV 1 1)) ?_)
   rintro v w7 ⟨rfl, k7⟩
   replace hw := hw.pure k7
   refine WL.move rfl rfl (WL.extract rfl rfl rfl (WL.extract rfl rfl rfl (WL.assign rfl rfl (WL.t (WC.sr (WL.move rfl rfl (WL.eqlT rfl rfl rfl (rfl) ?_)))))))
   refine WL.move rfl rfl (WL.qa rfl rfl rfl (WL.move rfl rfl (WL.qa rfl rfl rfl (WL.eqlT rfl rfl rfl (rfl) ?_))))
   refine WL.qc rfl rfl rfl (WL.assign rfl rfl (WL.t (WC.ret (WX.qg (.inl rfl) Tryz.results3 rfl ?_))))
   exact ⟨_, rfl, rfl, hw⟩
 ·refine WL.move rfl rfl (WL.pass rfl rfl rfl rfl (WL.pass rfl rfl rfl rfl (WL.qb rfl rfl rfl (WL.t (WC.qa rfl (WC.exit (WX.qe (WX.qe (WX.qh (WX.qa (WC.sr (WL.call eg_26 rfl rfl (nilNewest8_calls _) ?_))))))))))))
  rintro v w7 ⟨rfl, k7⟩
  replace hw := hw.pure k7
  refine WL.move rfl rfl (WL.extract rfl rfl rfl (WL.extract rfl rfl rfl (WL.assign rfl rfl (WL.t (WC.sr (WL.call eg_9 rfl rfl (lptr_calls 1 (by omega) _) ?_))))))
  rintro v w7 ⟨rfl, k7⟩
  replace hw := hw.pure k7
  refine WL.bld rfl (bld_41_0_1 _ _ _ _ _) rfl (WL.call eg_8 rfl rfl (nilWrite8_calls _ (ubV 1 1)) ?_)
  rintro v w7 ⟨rfl, k7⟩
  replace hw := hw.pure k7
  refine WL.move rfl rfl (WL.extract rfl rfl rfl (WL.extract rfl rfl rfl (WL.assign rfl rfl (WL.t (WC.sr (WL.move rfl rfl (WL.eqlT rfl rfl rfl (rfl) ?_)))))))
  refine WL.move rfl rfl (WL.qa rfl rfl rfl (WL.move rfl rfl (WL.qa rfl rfl rfl (WL.eqlT rfl rfl rfl (rfl) ?_))))
  refine WL.qc rfl rfl rfl (WL.assign rfl rfl (WL.t (WC.ret (WX.qg (.inl rfl) Tryz.results3 rfl ?_))))
  exact ⟨_, rfl, rfl, hw⟩
end Go.Proofs.YtjeldcjchipdgaaGreatDoor
