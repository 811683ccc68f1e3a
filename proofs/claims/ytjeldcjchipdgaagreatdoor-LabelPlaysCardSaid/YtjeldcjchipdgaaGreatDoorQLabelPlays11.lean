import Derived.Test.YtjeldcjchipdgaaGreatDoorQLabelPlays10
namespace Go.Proofs.YtjeldcjchipdgaaGreatDoor
open Go.RowKit Go.HL
set_option maxRecDepth 100000
theorem rotten_calls (w : World) (b : List UInt8) (hb : b.length = 128) (n : Int) (hn : 0 ≤ n ∧ n ≤ 9223372036854775807) :
 Calls Tryz.prog 64 [.string (bs b), vi n].toArray w (Ret fun v w' => v = .string (bs (rotB b n)) ∧ Chg Nob w w') := by
 have hw := Chg.refl Nob w
 have hbd : (bs b).data.toList = b := rfl
 have hbz : (bs b).size = 128 := by rw [bs_size, hb]
 refine Calls.of_WC Tryz.func64 rfl Tryz.ntmps64 (by simp) ?_
 refine WC.sr (WL.assign rfl rfl (WL.t (WC.sr (WL.move rfl rfl (WL.toBytes Tryz.underlying9 Tryz.underlying51 Tryz.underlying5 rfl (by omega) rfl ?_)))))
 intro a_hq c_hq w_hq hq k_hq z_hq
 have zs_k_hq := k_hq.size
 replace hw := hw.pure k_hq
 rw [hbd] at hq ⊢
 obtain ⟨gq, rfl⟩ := hq.place0 (j := 0) (by omega)
 have hgq : w.heap.size ≤ gq := hq.at_ _ rfl
 refine WL.assign rfl rfl (WL.t (WC.sr (WL.move rfl rfl (WL.move rfl rfl (WL.qw rfl rfl (by constructor <;> omega) rfl (?_))))))
 refine WL.move rfl rfl (WL.move rfl rfl (WL.qw rfl rfl (by constructor <;> omega) rfl (?_)))
 obtain ⟨kk, hk⟩ : ∃ kk, b[(n % 128).toNat]? = some kk := ⟨_, List.getElem?_eq_getElem (by omega)⟩
 refine WL.qg (e := eb) Tryz.underlying51 Tryz.sizeOf5 hq.rsl rfl rfl ⟨hk, by omega⟩ rfl ?_
 intro bb oo hcc
 refine WL.load Tryz.isAgg5 rfl (hcc 0 _ rfl) rfl ?_
 refine WL.move rfl rfl (WL.quo64i rfl rfl (by refine ⟨?_, ?_, ?_⟩ <;> omega) rfl (WL.qw rfl rfl (by constructor <;> omega) rfl (WL.qe rfl rfl (by omega) rfl (WL.c_i64_u8 Tryz.underlying3 Tryz.underlying5 rfl rfl (WL.num rfl rfl (n_xor8 _ _ _ _) rfl (?_))))))
 refine WL.index (j := (n % 128).toNat) Tryz.underlying51 Tryz.sizeOf5 rfl rfl (by omega) (show (n % 128).toNat < b.length by omega) rfl ?_
 refine WL.qt (z := kk ^^^ B8 (1 + n / 128 % 255)) ((n % 128).toNat) Tryz.sizeOf5 hq rfl rfl rfl (by simp; done) (by omega) rfl ?_
 intro w_1 zs_1 nr_1 k_1
 replace hw := hw.chg k_1 (by intro x h1 h2; have h3 : _ = _ := h2; exfalso; omega)
 replace hq := nr_1
 refine WL.t (WC.sr (WL.move rfl rfl (?_)))
 refine WL.qp Tryz.underlying51 Tryz.underlying5 Tryz.underlying9 hq.rsl (by show some (Value.slice _ b.length _) = some (Value.slice _ (b.set _ _).length _); rw [List.length_set]) rfl ?_
 refine WL.assign rfl rfl (WL.t (WC.ret (WX.qg (.inl rfl) Tryz.results64 rfl ?_)))
 refine ⟨_, rfl, ?_, hw⟩
 rw [rotB, List.getD_eq_getElem?_getD, hk]
 rfl
theorem wt_set {ws : List (Pl × List UInt8)} {j : Nat} {x : Pl × List UInt8} (hx : ws[j]? = some x) (r : List UInt8) : (ewt.all ws).take (0 + j * 3 + 2) ++ [.string (bs r)] ++ (ewt.all ws).drop (0 + j * 3 + 2 + 1) = ewt.all (ws.set j (x.1, r)) := by
 have hj := (List.getElem?_eq_some_iff.1 hx).1
 have hl : (ewt.all (ws.take j)).length = j * 3 := by
  rw [Enc.all_len, List.length_take, Nat.min_eq_left (Nat.le_of_lt hj)]
  rfl
 have e1 : ewt.all ws = ewt.all (ws.take j) ++ ([vi x.1.1, vi x.1.2, .string (bs x.2)] ++ ewt.all (ws.drop (j + 1))) := by
  conv => lhs; rw [split_at hx]
  rw [Enc.all_append, Enc.all_append, List.append_assoc]
  rfl
 have e2 : ewt.all (ws.set j (x.1, r)) = ewt.all (ws.take j) ++ ([vi x.1.1, vi x.1.2, .string (bs r)] ++ ewt.all (ws.drop (j + 1))) := by
  rw [List.set_eq_take_append_cons_drop, if_pos hj, Enc.all_append]
  rfl
 rw [e1, e2, Nat.zero_add, ← hl]
 exact splice3 _ _ _ _ _ _
theorem rot_lf {s : RA} {d a : Int} (hd : 0 ≤ d) (ha : 0 ≤ a) {n : Int} (hw : newV s.waits (d, a) = none) (d' a' : Nat) : lf (rotS s (d, a) n) d' a' = if d' = d.toNat ∧ a' = a.toNat then bs (rotB (heldS s (d, a)) n) else lf s d' a' := by
 have e : rotS s (d, a) n = putLast s (d, a) (rotB (heldS s (d, a)) n) := by
  unfold rotS putLast
  rw [hw]
 rw [e, putLast_lf d a hd ha]
theorem rot_waits {s : RA} {d a : Int} {n : Int} {i : Nat} {x : Pl × List UInt8} (hx : s.waits[i]? = some x) (hp : x.1 = (d, a)) (h : ∀ j y, i < j → s.waits[j]? = some y → y.1 ≠ (d, a)) : rotS s (d, a) n = { s with waits := s.waits.set i (x.1, rotB (heldS s (d, a)) n) } := by
 unfold rotS
 rw [newV_some hx hp h]
 show ({ s with waits := putW s.waits (d, a) (rotB (heldS s (d, a)) n) } : RA) = _
 rw [putW_some hx hp h, hp]
set_option maxHeartbeats 2000000 in
theorem dRot_calls {A : Nat → Prop} {w : World} {D : Nat} {s : RA} (h : RD A w D s) (hwl : s.waits.length ≤ 1000000) (d a n : Int) (hn : n ≤ 9223372036854775807) :
 Calls Tryz.prog 20 [ptr D, vi d, vi a, vi n].toArray w (Ret fun v w' => v = vi (rotE s d a n) ∧ RD A w' D (if rotE s d a n = 0 then rotS s (d, a) n else s) ∧ Chg A w w') := by
 have aD := h.aD
 have hok := h.ok
 have hrok := rotS_ok hok (d, a) n
 have hwin := h.win
 have hhl := heldS_len hok (d, a)
 have hw := Chg.refl A w
 refine Calls.of_WC Tryz.func20 rfl Tryz.ntmps20 (by simp) ?_
 refine WC.sr (WL.assign rfl rfl (WL.t (WC.seq (WC.sr (WL.move rfl rfl (WL.move rfl rfl (WL.move rfl rfl (WL.call eg_62 rfl rfl (dIn_calls h d a) ?_))))))))
 rintro v w1 ⟨rfl, k1⟩
 have zs_k1 := k1.size
 replace h := h.pure k1
 replace hw := hw.pure k1
 by_cases h12 : inS s d a
 ·rw [decide_eq_true h12]
  have hd0 := h12.1
  have hd1 := h12.2.1
  have ha0 := h12.2.2.1
  have ha1 := h12.2.2.2
  refine WL.not rfl rfl (WL.move rfl rfl (WL.qa rfl rfl rfl (WL.move rfl rfl (WL.qa rfl rfl rfl (?_)))))
  by_cases h17 : n < 0
  ·have hE : rotE s d a n = 1 := by simp [rotE, h17]
   refine WL.lssT rfl rfl rfl (by omega) ?_
   refine WL.qb rfl rfl rfl (WL.t (WC.qb rfl (WC.sr (WL.assign rfl rfl (WL.nil (WX.qa (WC.ret (WX.qb (WX.qg (.inl rfl) Tryz.results20 rfl ?_)))))))))
   first
    |(rw [hE]
      exact ⟨_, rfl, rfl, h, hw⟩)
    |(rw [hE, if_pos rfl]
      have hrw : (rotS s (d, a) n).waits = s.waits := by
       unfold rotS
       rw [newV_none h2]
      have hL := hI.ld.set (f' := lf (rotS s (d, a) n)) hr hk6 hkg hrow (fun d' a' _ _ => rot_lf hd0 ha0 (newV_none h2) d' a')
      have hI2 := (hI.setLd hL hk6 (fun b' _ e => .inl (by rw [show b' = g from e]; exact hkg))).mono (S' := A) (fun x hx => hx.1)
      have hcells : rotS s (d, a) n = putLast s (d, a) (rotB (heldS s (d, a)) n) := by
       unfold rotS putLast
       rw [newV_none h2]
      refine ⟨_, rfl, rfl, ?_, hw.chg hk6 (fun x _ hx => by rw [show x = g from hx]; exact hgA)⟩
      rw [hcells] at hI2 hrok ⊢
      exact ⟨aD, hrok, hwin, some ⟨go, 0, none⟩, lc, ls.set d.toNat ⟨some ⟨g, 0, none⟩, rc, rxs.set a.toNat (bs (rotB (heldS s (d, a)) n))⟩, ga, gc, wa, wc, hB, hI2⟩)
    |(have hR := rot_waits (n := n) h2 h3 h4
      rw [hE, if_pos rfl]
      refine ⟨_, rfl, rfl, ?_, hw.chg hk6 (fun x _ hx => by rw [show x = gw from hx]; exact hgwA)⟩
      rw [hR] at hrok ⊢
      have hI5 := hI.setWaits (hW5.mono (fun b e => by rw [show b = gw from e]; exact ⟨hgwA, hgww⟩)) hk6 (fun b e => ⟨_, rfl, e⟩)
      refine ⟨aD, hrok, fun p hp => ?_, la, lc, ls, ga, gc, some ⟨gw, 0, none⟩, wc, ?_, hI5.mono (fun x hx => hx.1)⟩
      ·rcases List.mem_or_eq_of_mem_set hp with h5 | h5
       ·exact hwin p h5
       ·rw [h5]
        exact hwin x (List.mem_of_getElem? h2)
      ·show Blk _ D 87 [_, _, .slice _ (s.waits.set i _).length wc, _, _]
       rw [List.length_set]
       exact hB)
  ·refine WL.lssF rfl rfl rfl (by omega) ?_
   refine WL.qb rfl rfl rfl (WL.t (WC.qa rfl (WC.skip (WX.qa (WC.seq (WC.seq (WC.region (WL.move rfl rfl (WL.nilCheck rfl rfl (WL.fieldAddr (fld_87_1) rfl rfl (?_)))))))))))
   obtain ⟨la, lc, ls, ga, gc, wa, wc, hB, hI⟩ := h.ex
   refine WL.qd Tryz.isAgg84 hB rfl rfl rfl (WL.move rfl rfl (?_))
   have hgd := goneS_at hok (d := d) ⟨h12.1, h12.2.1⟩
   refine WL.qg (e := ebool) Tryz.underlying84 Tryz.sizeOf4 hI.gone.rsl rfl rfl ⟨hgd, by omega⟩ rfl ?_
   intro bb oo hcc
   refine WL.load Tryz.isAgg4 rfl (hcc 0 _ rfl) rfl ?_
   rcases hg : goneS s d with _ | _
   ·clear hB hI hcc
    refine WL.t (WC.qa rfl (WC.skip (WX.qa (WC.sr (WL.move rfl rfl (WL.move rfl rfl (WL.move rfl rfl (?_))))))))
    have hE : rotE s d a n = 0 := by simp [rotE, h12, h17, hg]
    refine WL.call eg_63 rfl rfl (dNewest_calls h hwl d a) ?_
    rintro v w2 ⟨⟨k, rfl, hk⟩, k2⟩
    have zs_k2 := k2.size
    replace h := h.pure k2
    replace hw := hw.pure k2
    replace h := h.old
    have hDw := h.lt
    obtain ⟨la, lc, ls, ga, gc, wa, wc, hB, hI⟩ := h.ex
    have hlen := hI.ld.len
    have hB0 := hB
    refine WL.assign rfl rfl (WL.t (WC.seq (WC.sr (WL.move rfl rfl (?_)))))
    rcases hk with ⟨h1, h2⟩ | ⟨i, x, h1, h2, h3, h4⟩
    ·refine WL.geqF rfl rfl rfl (by omega) ?_
     refine WL.t (WC.qa rfl (?_))
     obtain ⟨⟨rao, rc, rxs⟩, hr⟩ : ∃ r, ls[d.toNat]? = some r := ⟨_, List.getElem?_eq_getElem (by omega)⟩
     have hrl : rxs.length = s.sn := hI.ld.rlen hr
     have hra : rxs[a.toNat]? = some (lf s d.toNat a.toNat) := hI.ld.at hr (by omega)
     have hlfh : lf s d.toNat a.toNat = bs (heldS s (d, a)) := by
      rw [heldS_eq, newV_none h2, lf, show ((d.toNat : Int)) = d from by omega, show ((a.toNat : Int)) = a from by omega]
     rw [hlfh] at hra
     obtain ⟨g, hg', ⟨hgA, hgw⟩, hrow⟩ := hI.ld.own _ _ hr
     have hg2 : rao = some ⟨g, 0, none⟩ := hg'
     subst hg2
     have hkg : kb w2 g = some (some 9) := (hrow.kb.at_ _ rfl).2
     have hDg : D ≠ g := fun e => by
      have h1 := hB.kb
      rw [e, hkg] at h1
      exact absurd h1 (by decide)
     obtain ⟨go, hgo⟩ := hI.ld.outer.place0 (j := d.toNat) (by omega)
     subst hgo
     have hkgo : kb w2 go = some (some 70) := (hI.ld.outer.kb.at_ _ rfl).2
     have hgog : go ≠ g := fun e => by
      rw [e, hkg] at hkgo
      exact absurd hkgo (by decide)
     have hOo : RSl (fun x => x ≠ g) w2 esr (some ⟨go, 0, none⟩) lc ls := ⟨fun _ a ea => by injection ea with ea; subst ea; exact hgog, hI.ld.outer.rsl.cap, hI.ld.outer.rsl.sl⟩
     have hk6 := Chg.refl (fun x => x = g) w2
     replace hrow : Row (fun x => x = g) w2 9 es (some ⟨g, 0, none⟩) rc rxs := hrow
     refine WC.qc (fun x => x = g) [0, 1, 2, 3, 4, 5, 6, 7, 8, 9, 10, 11, 12, 13, 14, 15, 18, 20] [16, 17, 19, 21] mixed rfl rfl (fun wd_1 kd_1 zd_1 => ?_)
     have zs_kd_1 := kd_1.size
     replace hB := hB.pure kd_1
     replace hOo := hOo.pure kd_1
     replace hrow := hrow.pure kd_1
     replace hk6 := hk6.pure kd_1
     apply DQ.step [(0, _)] rfl ⟨rfl, trivial⟩ rfl (fun _ _ => WL.move rfl rfl  WL.q)
     apply DQ.step [(49, _)] rfl ⟨rfl, trivial⟩ rfl (fun _ _ => WL.nilCheck rfl rfl  WL.q)
     apply DQ.step [(50, _)] rfl ⟨rfl, trivial⟩ rfl (fun _ _ => WL.fieldAddr (fld_87_0) rfl rfl  WL.q)
     apply DQ.step [(51, _)] rfl ⟨rfl, trivial⟩ rfl
     ·intro wq_6 kq_6
      replace hB := hB.chg kq_6 (by intro h1; have h2 : _ = _ := h1; exfalso; omega)
      refine WL.qd Tryz.isAgg83 hB rfl rfl rfl (WL.q)
     apply DQ.step [(1, _)] rfl ⟨rfl, trivial⟩ rfl (fun _ _ => WL.move rfl rfl  WL.q)
     apply DQ.step [(52, _), (53, _)] rfl ⟨rfl, rfl, trivial⟩ rfl
     ·intro wq_8 kq_8
      replace hOo := hOo.chg kq_8 (by intro x h1 h2; exact h2)
      refine WL.qh (e := esr) hOo Tryz.underlying83 Tryz.sizeOf70 (by show some (Value.slice _ s.dn _) = some (Value.slice _ ls.length _); rw [hlen]) rfl ⟨hr, by omega⟩ rfl ?_
      exact WL.q
     apply DQ.step [(54, _)] rfl ⟨rfl, trivial⟩ rfl
     ·intro wq_9 kq_9
      replace hOo := hOo.chg kq_9 (by intro x h1 h2; exact h2)
      refine WL.load Tryz.isAgg70 rfl ((hOo.cellsAt hr) 0 _ rfl) rfl (WL.q)
     apply DQ.step [(2, _)] rfl ⟨rfl, trivial⟩ rfl (fun _ _ => WL.move rfl rfl  WL.q)
     apply DQ.step [(0, _)] rfl ⟨rfl, trivial⟩ rfl (fun _ _ => WL.move rfl rfl  WL.q)
     apply DQ.step [(57, _)] rfl ⟨rfl, trivial⟩ rfl (fun _ _ => WL.nilCheck rfl rfl  WL.q)
     apply DQ.step [(58, _)] rfl ⟨rfl, trivial⟩ rfl (fun _ _ => WL.fieldAddr (fld_87_0) rfl rfl  WL.q)
     apply DQ.step [(59, _)] rfl ⟨rfl, trivial⟩ rfl
     ·intro wq_14 kq_14
      replace hB := hB.chg kq_14 (by intro h1; have h2 : _ = _ := h1; exfalso; omega)
      refine WL.qd Tryz.isAgg83 hB rfl rfl rfl (WL.q)
     apply DQ.step [(1, _)] rfl ⟨rfl, trivial⟩ rfl (fun _ _ => WL.move rfl rfl  WL.q)
     apply DQ.step [(60, _), (61, _)] rfl ⟨rfl, rfl, trivial⟩ rfl
     ·intro wq_16 kq_16
      replace hOo := hOo.chg kq_16 (by intro x h1 h2; exact h2)
      refine WL.qh (e := esr) hOo Tryz.underlying83 Tryz.sizeOf70 (by show some (Value.slice _ s.dn _) = some (Value.slice _ ls.length _); rw [hlen]) rfl ⟨hr, by omega⟩ rfl ?_
      exact WL.q
     apply DQ.step [(62, _)] rfl ⟨rfl, trivial⟩ rfl
     ·intro wq_17 kq_17
      replace hOo := hOo.chg kq_17 (by intro x h1 h2; exact h2)
      refine WL.load Tryz.isAgg70 rfl ((hOo.cellsAt hr) 0 _ rfl) rfl (WL.q)
     apply DQ.step [(2, _)] rfl ⟨rfl, trivial⟩ rfl (fun _ _ => WL.move rfl rfl  WL.q)
     apply DQ.step [(3, _)] rfl ⟨rfl, trivial⟩ rfl (fun _ _ => WL.move rfl rfl  WL.q)
     apply DQ.step [(55, _), (56, _)] rfl ⟨rfl, rfl, trivial⟩ rfl
     ·intro wq_20 kq_20
      refine WL.index (sz := 1) (j := a.toNat) Tryz.underlying70 Tryz.sizeOf9 rfl rfl (by omega) (by show a.toNat < rxs.length; omega) rfl ?_
      exact WL.q
     refine DQ.done (fun hd_2 => ?_)
     refine DL.step [(63, _), (64, _)] rfl ⟨rfl, rfl, trivial⟩ rfl (fun wq_21 kq_21 => ?_)
     have zs_kq_21 := kq_21.size
     replace hB := hB.pure kq_21
     replace hOo := hOo.pure kq_21
     replace hrow := hrow.pure kq_21
     replace hk6 := hk6.pure kq_21
     replace hd_2 := hd_2.pure kq_21
     refine WL.qh (e := es) hrow.rsl Tryz.underlying70 Tryz.sizeOf9 rfl rfl ⟨hra, by omega⟩ rfl ?_
     refine WL.nil (WX.one ⟨hd_2, ?_⟩)
     refine DL.step [(65, _)] rfl ⟨rfl, trivial⟩ rfl (fun wq_22 kq_22 => ?_)
     have zs_kq_22 := kq_22.size
     replace hB := hB.pure kq_22
     replace hOo := hOo.pure kq_22
     replace hrow := hrow.pure kq_22
     replace hk6 := hk6.pure kq_22
     replace hd_2 := hd_2.pure kq_22
     refine WL.load Tryz.isAgg9 rfl ((hrow.rsl.cellsAt hra) 0 _ rfl) rfl (WL.nil ?_)
     refine WX.one ⟨hd_2, ?_⟩
     refine DL.step [(66, _), (67, _)] rfl ⟨rfl, rfl, trivial⟩ rfl (fun wq_23 kq_23 => ?_)
     have zs_kq_23 := kq_23.size
     replace hB := hB.pure kq_23
     replace hOo := hOo.pure kq_23
     replace hrow := hrow.pure kq_23
     replace hk6 := hk6.pure kq_23
     replace hd_2 := hd_2.pure kq_23
     refine WL.call eg_64 rfl rfl (rotten_calls _ _ hhl n (by omega)) ?_
     rintro v w3 ⟨rfl, k3⟩
     have zs_k3 := k3.size
     replace hB := hB.pure k3
     replace hOo := hOo.pure k3
     replace hrow := hrow.pure k3
     replace hk6 := hk6.pure k3
     replace hd_2 := hd_2.pure k3
     refine WL.nil (WX.one ⟨hd_2, ?_⟩)
     refine DL.step [(69, _), (68, _)] rfl ⟨rfl, rfl, trivial⟩ rfl (fun wq_24 kq_24 => ?_)
     have zs_kq_24 := kq_24.size
     replace hB := hB.pure kq_24
     replace hOo := hOo.pure kq_24
     replace hrow := hrow.pure kq_24
     replace hk6 := hk6.pure kq_24
     replace hd_2 := hd_2.pure kq_24
     refine WL.qt (z := bs (rotB (heldS s (d, a)) n)) (a.toNat) Tryz.sizeOf9 hrow rfl rfl rfl (by simp; done) (by omega) rfl ?_
     intro w_25 zs_25 nr_25 k_25
     have zs_k_25 := k_25.size
     replace hB := hB.chg k_25 (by intro h1; have h2 : _ = _ := h1; exfalso; omega)
     replace hOo := hOo.chg k_25 (by intro x h1 h2; exact h2)
     replace hk6 := hk6.chg k_25 (by intro x h1 h2; exact h2)
     replace hd_2 := hd_2.chg k_25 (by intro x h1 h2; exact h2)
     replace hrow := nr_25
     refine WL.nil (WX.qk (v := undef) ⟨hd_2, ?_⟩)
     refine DL.done (fun we_26 ke_26 => ?_)
     have zs_ke_26 := ke_26.size
     replace hB := hB.pure ke_26
     replace hOo := hOo.pure ke_26
     replace hrow := hrow.pure ke_26
     replace hk6 := hk6.pure ke_26
     replace hd_2 := hd_2.pure ke_26
     refine WX.qa (WC.sr (WL.assign rfl rfl (WL.t (WC.ret (WX.qg (.inl rfl) Tryz.results20 rfl ?_)))))
     first
      |(rw [hE]
        exact ⟨_, rfl, rfl, h, hw⟩)
      |(rw [hE, if_pos rfl]
        have hrw : (rotS s (d, a) n).waits = s.waits := by
         unfold rotS
         rw [newV_none h2]
        have hL := hI.ld.set (f' := lf (rotS s (d, a) n)) hr hk6 hkg hrow (fun d' a' _ _ => rot_lf hd0 ha0 (newV_none h2) d' a')
        have hI2 := (hI.setLd hL hk6 (fun b' _ e => .inl (by rw [show b' = g from e]; exact hkg))).mono (S' := A) (fun x hx => hx.1)
        have hcells : rotS s (d, a) n = putLast s (d, a) (rotB (heldS s (d, a)) n) := by
         unfold rotS putLast
         rw [newV_none h2]
        refine ⟨_, rfl, rfl, ?_, hw.chg hk6 (fun x _ hx => by rw [show x = g from hx]; exact hgA)⟩
        rw [hcells] at hI2 hrok ⊢
        exact ⟨aD, hrok, hwin, some ⟨go, 0, none⟩, lc, ls.set d.toNat ⟨some ⟨g, 0, none⟩, rc, rxs.set a.toNat (bs (rotB (heldS s (d, a)) n))⟩, ga, gc, wa, wc, hB, hI2⟩)
      |(have hR := rot_waits (n := n) h2 h3 h4
        rw [hE, if_pos rfl]
        refine ⟨_, rfl, rfl, ?_, hw.chg hk6 (fun x _ hx => by rw [show x = gw from hx]; exact hgwA)⟩
        rw [hR] at hrok ⊢
        have hI5 := hI.setWaits (hW5.mono (fun b e => by rw [show b = gw from e]; exact ⟨hgwA, hgww⟩)) hk6 (fun b e => ⟨_, rfl, e⟩)
        refine ⟨aD, hrok, fun p hp => ?_, la, lc, ls, ga, gc, some ⟨gw, 0, none⟩, wc, ?_, hI5.mono (fun x hx => hx.1)⟩
        ·rcases List.mem_or_eq_of_mem_set hp with h5 | h5
         ·exact hwin p h5
         ·rw [h5]
          exact hwin x (List.mem_of_getElem? h2)
        ·show Blk _ D 87 [_, _, .slice _ (s.waits.set i _).length wc, _, _]
         rw [List.length_set]
         exact hB)
    ·refine WL.geqT rfl rfl rfl (by omega) ?_
     refine WL.t (WC.qb rfl (?_))
     subst h1
     have hxl := (List.getElem?_eq_some_iff.1 h2).1
     obtain ⟨gw, hgw⟩ := hI.waits.place0 (j := i) hxl
     subst hgw
     obtain ⟨hgwA, hgww⟩ : A gw ∧ gw < w2.heap.size := hI.waits.at_ _ rfl
     have hx2 : x.2 = heldS s (d, a) := by rw [heldS_eq, newV_some h2 h3 h4]
     have hDg : D ≠ gw := fun e => hI.neW hB ⟨_, rfl, e⟩
     have hrow : Row (fun x => x = gw) w2 104 ewt (some ⟨gw, 0, none⟩) wc s.waits := ⟨fun a ea => by injection ea with ea; subst ea; rfl, hI.waits.own⟩
     have hk6 := Chg.refl (fun x => x = gw) w2
     refine WC.qc (fun x => x = gw) [0, 1, 2, 3, 4, 5, 6, 7, 8, 9, 13, 15, 16] [10, 11, 12, 14, 17] mixed rfl rfl (fun wd_1 kd_1 zd_1 => ?_)
     have zs_kd_1 := kd_1.size
     replace hB := hB.pure kd_1
     replace hrow := hrow.pure kd_1
     replace hk6 := hk6.pure kd_1
     apply DQ.step [(0, _)] rfl ⟨rfl, trivial⟩ rfl (fun _ _ => WL.move rfl rfl  WL.q)
     apply DQ.step [(32, _)] rfl ⟨rfl, trivial⟩ rfl (fun _ _ => WL.nilCheck rfl rfl  WL.q)
     apply DQ.step [(33, _)] rfl ⟨rfl, trivial⟩ rfl (fun _ _ => WL.fieldAddr (fld_87_2) rfl rfl  WL.q)
     apply DQ.step [(34, _)] rfl ⟨rfl, trivial⟩ rfl
     ·intro wq_6 kq_6
      replace hB := hB.chg kq_6 (by intro h1; have h2 : _ = _ := h1; exfalso; omega)
      refine WL.qd Tryz.isAgg85 hB rfl rfl rfl (WL.q)
     apply DQ.step [(9, _)] rfl ⟨rfl, trivial⟩ rfl (fun _ _ => WL.move rfl rfl  WL.q)
     apply DQ.step [(0, _)] rfl ⟨rfl, trivial⟩ rfl (fun _ _ => WL.move rfl rfl  WL.q)
     apply DQ.step [(37, _)] rfl ⟨rfl, trivial⟩ rfl (fun _ _ => WL.nilCheck rfl rfl  WL.q)
     apply DQ.step [(38, _)] rfl ⟨rfl, trivial⟩ rfl (fun _ _ => WL.fieldAddr (fld_87_2) rfl rfl  WL.q)
     apply DQ.step [(39, _)] rfl ⟨rfl, trivial⟩ rfl
     ·intro wq_11 kq_11
      replace hB := hB.chg kq_11 (by intro h1; have h2 : _ = _ := h1; exfalso; omega)
      refine WL.qd Tryz.isAgg85 hB rfl rfl rfl (WL.q)
     apply DQ.step [(9, _)] rfl ⟨rfl, trivial⟩ rfl (fun _ _ => WL.move rfl rfl  WL.q)
     apply DQ.step [(3, _)] rfl ⟨rfl, trivial⟩ rfl (fun _ _ => WL.move rfl rfl  WL.q)
     apply DQ.step [(35, _), (36, _)] rfl ⟨rfl, rfl, trivial⟩ rfl
     ·intro wq_14 kq_14
      refine WL.index (sz := 3) (j := i) Tryz.underlying85 Tryz.sizeOf104 rfl rfl rfl hxl rfl (WL.q)
     apply DQ.step [(47, _)] rfl ⟨rfl, trivial⟩ rfl (fun _ _ => WL.fieldAddr (fld_104_2) rfl rfl  WL.q)
     refine DQ.done (fun hd_2 => ?_)
     refine DL.step [(40, _), (41, _)] rfl ⟨rfl, rfl, trivial⟩ rfl (fun wq_16 kq_16 => ?_)
     have zs_kq_16 := kq_16.size
     replace hB := hB.pure kq_16
     replace hrow := hrow.pure kq_16
     replace hk6 := hk6.pure kq_16
     replace hd_2 := hd_2.pure kq_16
     refine WL.qh hrow.rsl Tryz.underlying85 Tryz.sizeOf104 rfl rfl ⟨h2, rfl⟩ rfl (WL.nil ?_)
     refine WX.one ⟨hd_2, ?_⟩
     refine DL.step [(42, _)] rfl ⟨rfl, trivial⟩ rfl (fun wq_17 kq_17 => ?_)
     have zs_kq_17 := kq_17.size
     replace hB := hB.pure kq_17
     replace hrow := hrow.pure kq_17
     replace hk6 := hk6.pure kq_17
     replace hd_2 := hd_2.pure kq_17
     refine WL.fieldAddr (fld_104_2) rfl rfl (WL.nil ?_)
     refine WX.one ⟨hd_2, ?_⟩
     refine DL.step [(43, _)] rfl ⟨rfl, trivial⟩ rfl (fun wq_18 kq_18 => ?_)
     have zs_kq_18 := kq_18.size
     replace hB := hB.pure kq_18
     replace hrow := hrow.pure kq_18
     replace hk6 := hk6.pure kq_18
     replace hd_2 := hd_2.pure kq_18
     refine WL.load Tryz.isAgg9 rfl ((hrow.rsl.cellsAt h2) 2 _ rfl) rfl (WL.nil ?_)
     refine WX.one ⟨hd_2, ?_⟩
     refine DL.step [(44, _), (45, _)] rfl ⟨rfl, rfl, trivial⟩ rfl (fun wq_19 kq_19 => ?_)
     have zs_kq_19 := kq_19.size
     replace hB := hB.pure kq_19
     replace hrow := hrow.pure kq_19
     replace hk6 := hk6.pure kq_19
     replace hd_2 := hd_2.pure kq_19
     rw [hx2]
     refine WL.call eg_64 rfl rfl (rotten_calls _ _ hhl n (by omega)) ?_
     rintro v w3 ⟨rfl, k3⟩
     have zs_k3 := k3.size
     replace hB := hB.pure k3
     replace hrow := hrow.pure k3
     replace hk6 := hk6.pure k3
     replace hd_2 := hd_2.pure k3
     refine WL.nil (WX.one ⟨hd_2, ?_⟩)
     refine DL.step [(48, _), (46, _)] rfl ⟨rfl, rfl, trivial⟩ rfl (fun wq_20 kq_20 => ?_)
     have zs_kq_20 := kq_20.size
     replace hB := hB.pure kq_20
     replace hrow := hrow.pure kq_20
     replace hk6 := hk6.pure kq_20
     replace hd_2 := hd_2.pure kq_20
     refine WL.storeF (ys := s.waits.set i (x.1, rotB (heldS s (d, a)) n)) Tryz.sizeOf9 hrow rfl rfl rfl (by show 0 + i * 3 + 2 + 1 ≤ s.waits.length * 3; omega) List.length_set (wt_set h2 _) ?_
     intro w5 z5 hW5 k5
     have zs_k5 := k5.size
     replace hB := hB.chg k5 (by intro h1; have h2 : _ = _ := h1; exfalso; omega)
     replace hk6 := hk6.chg k5 (by intro x h1 h2; exact h2)
     replace hd_2 := hd_2.chg k5 (by intro x h1 h2; exact h2)
     refine WL.nil (WX.qk (v := undef) ⟨hd_2, ?_⟩)
     refine DL.done (fun we_21 ke_21 => ?_)
     have zs_ke_21 := ke_21.size
     replace hB := hB.pure ke_21
     replace hk6 := hk6.pure ke_21
     replace hd_2 := hd_2.pure ke_21
     replace hW5 := hW5.pure ke_21
     refine WX.qa (WC.sr (WL.assign rfl rfl (WL.t (WC.ret (WX.qg (.inl rfl) Tryz.results20 rfl ?_)))))
     first
      |(rw [hE]
        exact ⟨_, rfl, rfl, h, hw⟩)
      |(rw [hE, if_pos rfl]
        have hrw : (rotS s (d, a) n).waits = s.waits := by
         unfold rotS
         rw [newV_none h2]
        have hL := hI.ld.set (f' := lf (rotS s (d, a) n)) hr hk6 hkg hrow (fun d' a' _ _ => rot_lf hd0 ha0 (newV_none h2) d' a')
        have hI2 := (hI.setLd hL hk6 (fun b' _ e => .inl (by rw [show b' = g from e]; exact hkg))).mono (S' := A) (fun x hx => hx.1)
        have hcells : rotS s (d, a) n = putLast s (d, a) (rotB (heldS s (d, a)) n) := by
         unfold rotS putLast
         rw [newV_none h2]
        refine ⟨_, rfl, rfl, ?_, hw.chg hk6 (fun x _ hx => by rw [show x = g from hx]; exact hgA)⟩
        rw [hcells] at hI2 hrok ⊢
        exact ⟨aD, hrok, hwin, some ⟨go, 0, none⟩, lc, ls.set d.toNat ⟨some ⟨g, 0, none⟩, rc, rxs.set a.toNat (bs (rotB (heldS s (d, a)) n))⟩, ga, gc, wa, wc, hB, hI2⟩)
      |(have hR := rot_waits (n := n) h2 h3 h4
        rw [hE, if_pos rfl]
        refine ⟨_, rfl, rfl, ?_, hw.chg hk6 (fun x _ hx => by rw [show x = gw from hx]; exact hgwA)⟩
        rw [hR] at hrok ⊢
        have hI5 := hI.setWaits (hW5.mono (fun b e => by rw [show b = gw from e]; exact ⟨hgwA, hgww⟩)) hk6 (fun b e => ⟨_, rfl, e⟩)
        refine ⟨aD, hrok, fun p hp => ?_, la, lc, ls, ga, gc, some ⟨gw, 0, none⟩, wc, ?_, hI5.mono (fun x hx => hx.1)⟩
        ·rcases List.mem_or_eq_of_mem_set hp with h5 | h5
         ·exact hwin p h5
         ·rw [h5]
          exact hwin x (List.mem_of_getElem? h2)
        ·show Blk _ D 87 [_, _, .slice _ (s.waits.set i _).length wc, _, _]
         rw [List.length_set]
         exact hB)
   ·have hE : rotE s d a n = 3 := by simp [rotE, h12, h17, hg]
    refine WL.t (WC.qb rfl (WC.sr (WL.assign rfl rfl (WL.t (WC.ret (WX.qb (WX.qg (.inl rfl) Tryz.results20 rfl ?_)))))))
    first
     |(rw [hE]
       exact ⟨_, rfl, rfl, h, hw⟩)
     |(rw [hE, if_pos rfl]
       have hrw : (rotS s (d, a) n).waits = s.waits := by
        unfold rotS
        rw [newV_none h2]
       have hL := hI.ld.set (f' := lf (rotS s (d, a) n)) hr hk6 hkg hrow (fun d' a' _ _ => rot_lf hd0 ha0 (newV_none h2) d' a')
       have hI2 := (hI.setLd hL hk6 (fun b' _ e => .inl (by rw [show b' = g from e]; exact hkg))).mono (S' := A) (fun x hx => hx.1)
       have hcells : rotS s (d, a) n = putLast s (d, a) (rotB (heldS s (d, a)) n) := by
        unfold rotS putLast
        rw [newV_none h2]
       refine ⟨_, rfl, rfl, ?_, hw.chg hk6 (fun x _ hx => by rw [show x = g from hx]; exact hgA)⟩
       rw [hcells] at hI2 hrok ⊢
       exact ⟨aD, hrok, hwin, some ⟨go, 0, none⟩, lc, ls.set d.toNat ⟨some ⟨g, 0, none⟩, rc, rxs.set a.toNat (bs (rotB (heldS s (d, a)) n))⟩, ga, gc, wa, wc, hB, hI2⟩)
     |(have hR := rot_waits (n := n) h2 h3 h4
       rw [hE, if_pos rfl]
       refine ⟨_, rfl, rfl, ?_, hw.chg hk6 (fun x _ hx => by rw [show x = gw from hx]; exact hgwA)⟩
       rw [hR] at hrok ⊢
       have hI5 := hI.setWaits (hW5.mono (fun b e => by rw [show b = gw from e]; exact ⟨hgwA, hgww⟩)) hk6 (fun b e => ⟨_, rfl, e⟩)
       refine ⟨aD, hrok, fun p hp => ?_, la, lc, ls, ga, gc, some ⟨gw, 0, none⟩, wc, ?_, hI5.mono (fun x hx => hx.1)⟩
       ·rcases List.mem_or_eq_of_mem_set hp with h5 | h5
        ·exact hwin p h5
        ·rw [h5]
         exact hwin x (List.mem_of_getElem? h2)
       ·show Blk _ D 87 [_, _, .slice _ (s.waits.set i _).length wc, _, _]
        rw [List.length_set]
        exact hB)
 ·have hE : rotE s d a n = 1 := by simp [rotE, h12]
  rw [decide_eq_false h12]
  refine WL.not rfl rfl (WL.move rfl rfl (WL.pass rfl rfl rfl rfl (WL.pass rfl rfl rfl rfl (WL.qc rfl rfl rfl (WL.t (WC.qb rfl (WC.sr (WL.assign rfl rfl (WL.t (WC.ret (WX.qb (WX.qg (.inl rfl) Tryz.results20 rfl ?_))))))))))))
  first
   |(rw [hE]
     exact ⟨_, rfl, rfl, h, hw⟩)
   |(rw [hE, if_pos rfl]
     have hrw : (rotS s (d, a) n).waits = s.waits := by
      unfold rotS
      rw [newV_none h2]
     have hL := hI.ld.set (f' := lf (rotS s (d, a) n)) hr hk6 hkg hrow (fun d' a' _ _ => rot_lf hd0 ha0 (newV_none h2) d' a')
     have hI2 := (hI.setLd hL hk6 (fun b' _ e => .inl (by rw [show b' = g from e]; exact hkg))).mono (S' := A) (fun x hx => hx.1)
     have hcells : rotS s (d, a) n = putLast s (d, a) (rotB (heldS s (d, a)) n) := by
      unfold rotS putLast
      rw [newV_none h2]
     refine ⟨_, rfl, rfl, ?_, hw.chg hk6 (fun x _ hx => by rw [show x = g from hx]; exact hgA)⟩
     rw [hcells] at hI2 hrok ⊢
     exact ⟨aD, hrok, hwin, some ⟨go, 0, none⟩, lc, ls.set d.toNat ⟨some ⟨g, 0, none⟩, rc, rxs.set a.toNat (bs (rotB (heldS s (d, a)) n))⟩, ga, gc, wa, wc, hB, hI2⟩)
   |(have hR := rot_waits (n := n) h2 h3 h4
     rw [hE, if_pos rfl]
     refine ⟨_, rfl, rfl, ?_, hw.chg hk6 (fun x _ hx => by rw [show x = gw from hx]; exact hgwA)⟩
     rw [hR] at hrok ⊢
     have hI5 := hI.setWaits (hW5.mono (fun b e => by rw [show b = gw from e]; exact ⟨hgwA, hgww⟩)) hk6 (fun b e => ⟨_, rfl, e⟩)
     refine ⟨aD, hrok, fun p hp => ?_, la, lc, ls, ga, gc, some ⟨gw, 0, none⟩, wc, ?_, hI5.mono (fun x hx => hx.1)⟩
     ·rcases List.mem_or_eq_of_mem_set hp with h5 | h5
      ·exact hwin p h5
      ·rw [h5]
       exact hwin x (List.mem_of_getElem? h2)
     ·show Blk _ D 87 [_, _, .slice _ (s.waits.set i _).length wc, _, _]
      rw [List.length_set]
      exact hB)
end Go.Proofs.YtjeldcjchipdgaaGreatDoor
namespace Go.Proofs.YtjeldcjchipdgaaGreatDoor
open Go.RowKit Go.HL
set_option maxRecDepth 100000
theorem LD.snoc {S M : Nat → Prop} {w w' : World} {la la2 : Option Addr} {lc lc2 : Nat} {ls : List Sr} {i sn g cr : Nat} {f : Nat → Nat → ByteArray} {xs : List ByteArray} (h : LD S w la lc ls i sn f) (hr : Row (· = g) w 9 es (some ⟨g, 0, none⟩) cr xs) (hx : xs = (List.range sn).map (f i)) (hg : S g) (hnew : ∀ (e : Nat) (r : Sr), ls[e]? = some r → r.ao ≠ some ⟨g, 0, none⟩)
 (ho : Row S w' 70 esr la2 lc2 (ls ++ [⟨some ⟨g, 0, none⟩, cr, xs⟩])) (k : Chg M w w') (hM : ∀ b, M b → Eqb la b) : LD S w' la2 lc2 (ls ++ [⟨some ⟨g, 0, none⟩, cr, xs⟩]) (i + 1) sn f := by
 have hlen := h.len
 have hne : ∀ b, b < w.heap.size → M b → kb w b ≠ some (some 9) := fun b _ m => by
  have h1 := (h.outer.kb.at_.eqb (hM b m)).2
  rw [h1]
  decide
 have hat : ∀ {d : Nat} {r : Sr}, (ls ++ [⟨some ⟨g, 0, none⟩, cr, xs⟩])[d]? = some r → ls[d]? = some r ∨ d = i ∧ r = ⟨some ⟨g, 0, none⟩, cr, xs⟩ := by
  intro d r hd
  rcases Nat.lt_or_ge d ls.length with h1 | h1
  ·rw [List.getElem?_append_left h1] at hd; exact .inl hd
  ·rw [List.getElem?_append_right h1] at hd
   have h2 := (List.getElem?_eq_some_iff.1 hd).1
   simp at h2
   have h3 : d - ls.length = 0 := by omega
   rw [h3] at hd
   injection hd with hd
   exact .inr ⟨by omega, hd.symm⟩
 refine ⟨by rw [List.length_append, hlen]; rfl, ho, fun d r hd => ?_, fun d r hd => ?_, fun d e r q g' h1 h2 h3 h4 => ?_⟩
 ·rcases hat hd with h1 | ⟨h1, h2⟩
  ·exact h.vals d r h1
  ·rw [h2, h1]; exact hx
 ·rcases hat hd with h1 | ⟨h1, h2⟩
  ·obtain ⟨g', e1, e2, e3⟩ := h.own d r h1
   exact ⟨g', e1, e2, e3.chgK k hne⟩
  ·rw [h2]
   exact ⟨g, rfl, hg, hr.chgK k hne⟩
 ·rcases hat h1 with h5 | ⟨h5, h6⟩ <;> rcases hat h2 with h7 | ⟨h7, h8⟩
  ·exact h.apart d e r q g' h5 h7 h3 h4
  ·rw [h8] at h4
   injection h4 with h4
   injection h4 with h4
   rw [← h4] at h3
   exact absurd h3 (hnew d r h5)
  ·rw [h6] at h3
   injection h3 with h3
   injection h3 with h3
   rw [← h3] at h4
   exact absurd h4 (hnew e q h7)
  ·omega
set_option maxHeartbeats 2000000 in
theorem dNew_calls (w : World) {dn sn : Nat} (hd : 1 ≤ dn ∧ dn ≤ 16) (hs : 1 ≤ sn ∧ sn ≤ 2000) :
 Calls Tryz.prog 7 [vi dn, vi sn].toArray w (Ret fun v w' => (∃ D, v = .tuple #[ptr D, vi 0] ∧ RD (w.heap.size ≤ ·) w' D (newS dn sn)) ∧ Chg Nob w w') := by
 have hw := Chg.refl Nob w
 have hok := newS_ok hd hs
 refine Calls.of_WC Tryz.func7 rfl Tryz.ntmps7 (by simp) ?_
 refine WC.sr (WL.assign rfl rfl (WL.assign rfl rfl (WL.t (WC.seq (WC.seq (WC.region (WL.move rfl rfl (WL.qi rfl rfl rfl (fun h9 => ?_) (fun h9 => ?_)))))))))
 ·refine WL.move rfl rfl (WL.pass rfl rfl rfl rfl (WL.pass rfl rfl rfl rfl (WL.qc rfl rfl rfl (WL.move rfl rfl (WL.pass rfl rfl rfl rfl (WL.pass rfl rfl rfl rfl (WL.qc rfl rfl rfl (WL.move rfl rfl (WL.pass rfl rfl rfl rfl (WL.pass rfl rfl rfl rfl (WL.qc rfl rfl rfl (WL.t (WC.qb rfl (WC.seq (WC.region (WL.assign rfl rfl (WL.assign rfl rfl (WL.t (WC.ret (WX.qb (WX.qi (.inl rfl) Tryz.results7 rfl rfl ?_)))))))))))))))))))))
  first
   |(exfalso; omega)
   |(have hid : i = dn := by omega
     subst hid
     refine ⟨_, rfl, ⟨g_1, rfl, hgw, hok, (fun p hp => by cases hp), la, lc, ls, some ⟨g, 0, none⟩, i, none, 0, ?_, hL.congr (fun _ _ _ _ => rfl), hG, Row.nil _ _ _ _⟩, hw⟩
     show Blk w2 g_1 87 [.slice la i lc, .slice (some ⟨g, 0, none⟩) (List.replicate i false).length i, .slice none 0 0, .bool false, vi (-1)]
     rw [List.length_replicate]
     exact hB)
 ·refine WL.move rfl rfl (WL.qa rfl rfl rfl (WL.move rfl rfl (WL.qa rfl rfl rfl (WL.qr rfl rfl rfl (fun h12 => ?_) (fun h12 => ?_)))))
  ·refine WL.qb rfl rfl rfl (WL.move rfl rfl (WL.pass rfl rfl rfl rfl (WL.pass rfl rfl rfl rfl (WL.qc rfl rfl rfl (WL.move rfl rfl (WL.pass rfl rfl rfl rfl (WL.pass rfl rfl rfl rfl (WL.qc rfl rfl rfl (WL.t (WC.qb rfl (WC.sr (WL.assign rfl rfl (WL.assign rfl rfl (WL.t (WC.ret (WX.qb (WX.qi (.inl rfl) Tryz.results7 rfl rfl ?_)))))))))))))))))
   first
    |(exfalso; omega)
    |(have hid : i = dn := by omega
      subst hid
      refine ⟨_, rfl, ⟨g_1, rfl, hgw, hok, (fun p hp => by cases hp), la, lc, ls, some ⟨g, 0, none⟩, i, none, 0, ?_, hL.congr (fun _ _ _ _ => rfl), hG, Row.nil _ _ _ _⟩, hw⟩
      show Blk w2 g_1 87 [.slice la i lc, .slice (some ⟨g, 0, none⟩) (List.replicate i false).length i, .slice none 0 0, .bool false, vi (-1)]
      rw [List.length_replicate]
      exact hB)
  ·refine WL.qb rfl rfl rfl (WL.move rfl rfl (WL.qa rfl rfl rfl (WL.move rfl rfl (WL.qa rfl rfl rfl (WL.qi rfl rfl rfl (fun h16 => ?_) (fun h16 => ?_))))))
   ·refine WL.qb rfl rfl rfl (WL.move rfl rfl (WL.pass rfl rfl rfl rfl (WL.pass rfl rfl rfl rfl (WL.qc rfl rfl rfl (WL.t (WC.qb rfl (WC.sr (WL.assign rfl rfl (WL.assign rfl rfl (WL.t (WC.ret (WX.qb (WX.qi (.inl rfl) Tryz.results7 rfl rfl ?_)))))))))))))
    first
     |(exfalso; omega)
     |(have hid : i = dn := by omega
       subst hid
       refine ⟨_, rfl, ⟨g_1, rfl, hgw, hok, (fun p hp => by cases hp), la, lc, ls, some ⟨g, 0, none⟩, i, none, 0, ?_, hL.congr (fun _ _ _ _ => rfl), hG, Row.nil _ _ _ _⟩, hw⟩
       show Blk w2 g_1 87 [.slice la i lc, .slice (some ⟨g, 0, none⟩) (List.replicate i false).length i, .slice none 0 0, .bool false, vi (-1)]
       rw [List.length_replicate]
       exact hB)
   ·refine WL.qb rfl rfl rfl (WL.move rfl rfl (WL.qa rfl rfl rfl (WL.move rfl rfl (WL.qa rfl rfl rfl (WL.qr rfl rfl rfl (fun h20 => ?_) (fun h20 => ?_))))))
    ·refine WL.qb rfl rfl rfl (WL.t (WC.qb rfl (WC.sr (WL.assign rfl rfl (WL.assign rfl rfl (WL.t (WC.ret (WX.qb (WX.qi (.inl rfl) Tryz.results7 rfl rfl ?_)))))))))
     first
      |(exfalso; omega)
      |(have hid : i = dn := by omega
        subst hid
        refine ⟨_, rfl, ⟨g_1, rfl, hgw, hok, (fun p hp => by cases hp), la, lc, ls, some ⟨g, 0, none⟩, i, none, 0, ?_, hL.congr (fun _ _ _ _ => rfl), hG, Row.nil _ _ _ _⟩, hw⟩
        show Blk w2 g_1 87 [.slice la i lc, .slice (some ⟨g, 0, none⟩) (List.replicate i false).length i, .slice none 0 0, .bool false, vi (-1)]
        rw [List.length_replicate]
        exact hB)
    ·refine WL.qb rfl rfl rfl (WL.t (WC.qa rfl (WC.skip (WX.qa (WC.sr (WL.move rfl rfl (?_)))))))
     refine WL.za (e := ebool) false dn dn Tryz.underlying84 info_4 rfl rfl rfl ⟨rfl, rfl, Nat.le_refl _⟩ (by constructor <;> omega) rfl ?_
     intro g w1 hG0 k1 z1 eg
     rw [List.length_replicate]
     have hG : Row (fun b => w.heap.size ≤ b) w1 4 ebool (some ⟨g, 0, none⟩) dn (List.replicate dn false) := ⟨(fun a ea => by injection ea with ea; subst ea; show w.heap.size ≤ g; omega), hG0.own⟩
     clear hG0
     replace hw := hw.pure k1
     refine WL.bld rfl (bld_87_1_4 _ _ _ _) rfl (WL.box rfl rfl ?_)
     intro g_1 w_1 hge_1 hlt_1 hb_1 k_1
     replace hw := hw.pure k_1
     replace hG := hG.pure k_1
     refine WL.assign rfl rfl (WL.t (WC.seq (WC.sr (WL.assign rfl rfl (WL.nil (WX.qa (WC.block (?_))))))))
     have hB : Blk w_1 g_1 87 [.slice none 0 0, .slice (some ⟨g, 0, none⟩) dn dn, .slice none 0 0, .bool false, vi (-1)] := hb_1
     have hL : LD (fun b => w.heap.size ≤ b) w_1 none 0 [] 0 sn (fun _ _ => bs zeros) := ⟨rfl, Row.nil _ _ _ _, (fun d r h => by cases h), (fun d r h => by cases h), (fun d e r q g h => by cases h)⟩
     have hgw : w.heap.size ≤ g_1 := by omega
     refine WC.loop (σ := Nat × Option Addr × Nat × List Sr) (fun q => [(0, vi dn), (1, vi sn), (6, ptr g_1), (7, vi q.1)])
      (fun q w' => q.1 ≤ dn ∧ Blk w' g_1 87 [.slice q.2.1 q.1 q.2.2.1, .slice (some ⟨g, 0, none⟩) dn dn, .slice none 0 0, .bool false, vi (-1)] ∧ LD (fun b => w.heap.size ≤ b) w' q.2.1 q.2.2.1 q.2.2.2 q.1 sn (fun _ _ => bs zeros) ∧ Row (fun b => w.heap.size ≤ b) w' 4 ebool (some ⟨g, 0, none⟩) dn (List.replicate dn false) ∧ Chg Nob w w') (fun q => dn - q.1) (0, none, 0, []) ⟨rfl, rfl, rfl, rfl, trivial⟩ ⟨Nat.zero_le _, hB, hL, hG, hw⟩ ?_
     clear hB hL hG hw hb_1
     rintro ⟨i, la, lc, ls⟩ w2 ⟨hi, hB, hL, hG, hw⟩
     simp only at hi hB hL
     dsimp only
     have hlen := hL.len
     refine WC.seq (WC.sr (WL.move rfl rfl (WL.move rfl rfl (WL.qi rfl rfl rfl (fun h28 => ?_) (fun h28 => ?_)))))
     ·refine WL.t (WC.qb rfl (WC.skip (WX.qa (WC.seq (WC.block (?_))))))
      have zw2 := hw.size
      refine WC.drawM ((fun x => w.heap.size ≤ x)) [0, 1, 2, 3, 5, 9, 10] [4, 6, 7, 8, 11] mixed rfl rfl (fun wd_2 kd_2 zd_2 => ?_)
      replace hB := hB.pure kd_2
      replace hL := hL.pure kd_2
      replace hG := hG.pure kd_2
      replace hw := hw.pure kd_2
      apply DQT.step (E' := [(6, _)])
      case ho => rfl
      case hs => exact ⟨rfl, trivial⟩
      case hk => rfl
      case h1 =>
       intro wq_4 kq_4
       refine WL.move rfl rfl (WL.q)
      apply DQT.step (E' := [(6, _)])
      case ho => rfl
      case hs => exact ⟨rfl, trivial⟩
      case hk => rfl
      case h1 =>
       intro wq_5 kq_5
       refine WL.move rfl rfl (WL.q)
      apply DQT.step (E' := [(32, _)])
      case ho => rfl
      case hs => exact ⟨rfl, trivial⟩
      case hk => rfl
      case h1 =>
       intro wq_6 kq_6
       refine WL.nilCheck rfl rfl (WL.q)
      apply DQT.step (E' := [(33, _)])
      case ho => rfl
      case hs => exact ⟨rfl, trivial⟩
      case hk => rfl
      case h1 =>
       intro wq_7 kq_7
       refine WL.fieldAddr (fld_87_0) rfl rfl (WL.q)
      apply DQT.step (E' := [(1, _)])
      case ho => rfl
      case hs => exact ⟨rfl, trivial⟩
      case hk => rfl
      case h1 =>
       intro wq_8 kq_8
       refine WL.move rfl rfl (WL.q)
      apply DQT.step (E' := [(31, _)])
      case ho => rfl
      case hs => exact ⟨rfl, trivial⟩
      case hk => rfl
      case h1 =>
       intro wq_9 kq_9
       refine WL.nilCheck rfl rfl (WL.q)
      apply DQT.step (E' := [(40, _)])
      case ho => rfl
      case hs => exact ⟨rfl, trivial⟩
      case hk => rfl
      case h1 =>
       intro wq_10 kq_10
       refine WL.fieldAddr (fld_87_0) rfl rfl (WL.q)
      refine DQT.done (fun hd_3 => ?_)
      refine ⟨?_, ?_, trivial, trivial, trivial, trivial⟩
      refine DT.step [(34, _)] rfl ⟨rfl, trivial⟩ rfl (fun wq_11 kq_11 => ?_)
      have zs_kq_11 := kq_11.size
      replace hB := hB.pure kq_11
      replace hL := hL.pure kq_11
      replace hG := hG.pure kq_11
      replace hw := hw.pure kq_11
      replace hd_3 := hd_3.pure kq_11
      refine WL.qd Tryz.isAgg83 hB rfl rfl rfl (WL.nil (WX.one ⟨hd_3, ?_⟩))
      refine ⟨?_, trivial, trivial, trivial, trivial⟩
      refine DT.step [(36, _)] rfl ⟨rfl, trivial⟩ rfl (fun wq_12 kq_12 => ?_)
      have zs_kq_12 := kq_12.size
      replace hB := hB.pure kq_12
      replace hL := hL.pure kq_12
      replace hG := hG.pure kq_12
      replace hw := hw.pure kq_12
      replace hd_3 := hd_3.pure kq_12
      refine WL.call eg_46 rfl rfl (blank_calls _ sn hs) ?_
      rintro v w7 ⟨⟨gn, cn, rfl, hbl, hgn⟩, k7⟩
      have hgnl : gn < w7.heap.size := hbl.own.lt _ rfl
      have hgno : ∀ (e : Nat) (r : Sr), ls[e]? = some r → r.ao ≠ some ⟨gn, 0, none⟩ := fun e r he h9 => by
       obtain ⟨g', e1, _, e3⟩ := hL.own e r he
       rw [e1] at h9
       injection h9 with h9
       injection h9 with h9
       have h10 := e3.own.lt _ rfl
       dsimp only at h10
       omega
      replace hB := hB.pure k7
      replace hL := hL.pure k7
      replace hG := hG.pure k7
      replace hw := hw.pure k7
      replace hd_3 := hd_3.pure k7
      refine WL.nil (WX.one ⟨hd_3, ?_⟩)
      refine ⟨?_, trivial, trivial, trivial⟩
      refine DT.step [(37, _)] rfl ⟨rfl, trivial⟩ rfl (fun wq_13 kq_13 => ?_)
      have zs_kq_13 := kq_13.size
      replace hB := hB.pure kq_13
      replace hL := hL.pure kq_13
      replace hG := hG.pure kq_13
      replace hw := hw.pure kq_13
      replace hd_3 := hd_3.pure kq_13
      replace hbl := hbl.pure kq_13
      obtain ⟨Z, hZ⟩ : ∃ Z, Z = List.replicate sn (bs zeros) := ⟨_, rfl⟩
      have hZl : Z.length = sn := by rw [hZ, List.length_replicate]
      rw [← hZ] at hbl
      rw [show Value.slice (some ⟨gn, 0, none⟩) sn cn = Value.slice (some ⟨gn, 0, none⟩) Z.length cn from by rw [hZl]]
      refine WL.build (e := esr) [⟨some ⟨gn, 0, none⟩, cn, Z⟩] Tryz.underlying83 Tryz.sizeOf70 Tryz.zeroValue70 rfl rfl rfl (by simp [Value.cells] <;> rfl) (by decide) rfl ?_
      intro a_b38 w_b38 b38 l_b38 z_b38 k_b38
      replace hB := hB.pure k_b38
      replace hL := hL.pure k_b38
      replace hG := hG.pure k_b38
      replace hw := hw.pure k_b38
      replace hd_3 := hd_3.pure k_b38
      replace hbl := hbl.pure k_b38
      refine WL.nil (WX.one ⟨hd_3, ?_⟩)
      refine ⟨?_, trivial, trivial⟩
      refine DT.step [(35, _), (38, _)] rfl ⟨rfl, rfl, trivial⟩ rfl (fun wq_14 kq_14 => ?_)
      have zs_kq_14 := kq_14.size
      replace hB := hB.pure kq_14
      replace hL := hL.pure kq_14
      replace hG := hG.pure kq_14
      replace hw := hw.pure kq_14
      replace hd_3 := hd_3.pure kq_14
      replace hbl := hbl.pure kq_14
      replace b38 := b38.pure kq_14
      refine WL.append (e := esr) (xs := ls) (S := fun x => w.heap.size ≤ x) info_70 rfl Tryz.underlying83 (by show some (Value.slice la i lc) = some (Value.slice la ls.length lc); rw [hlen]) rfl hL.outer (b38.rsl.src Tryz.underlying83) (by rw [hlen]; constructor <;> (simp only [List.length_cons, List.length_nil]; omega)) (fun x hx => by omega) rfl ?_
      intro a9 c9 w9 hO9 g9 n9
      have k9 := g9.chg
      have hL9 := hL.snoc hbl (by
       rw [hZ]
       apply List.ext_getElem?
       intro j
       rw [List.getElem?_map]
       rcases Nat.lt_or_ge j sn with hj | hj
       ·rw [List.getElem?_replicate, if_pos hj, List.getElem?_range hj]; rfl
       ·rw [List.getElem?_replicate, if_neg (by omega), List.getElem?_eq_none (by rw [List.length_range]; exact hj)]; rfl) (by omega) hgno hO9 k9 (fun b e => e.1)
      have hkl : ∀ b, Eqb la b → kb _ b = some (some 70) := fun b e => (hL.outer.kb.at_.eqb e).2
      have hG9 := hG.chgK k9 (fun b _ e => by rw [hkl b e.1]; decide)
      have hB9 := hB.chg k9 (fun e => by have h1 := hkl _ e.1; rw [hB.kb] at h1; exact absurd h1 (by decide))
      have k9' := k9.mono (M' := fun x => w.heap.size ≤ x) (fun x _ e => e.2)
      have e10 : (ls ++ [(⟨some ⟨gn, 0, none⟩, cn, Z⟩ : Sr)]).length = i + 1 := hL9.len
      rw [e10]
      replace hw := hw.chg k9' (by intros; exfalso; (try dsimp only at *); omega)
      replace hd_3 := hd_3.chg k9' (by intro x h1 h2; exact h2)
      refine WL.nil (WX.one ⟨hd_3, ?_⟩)
      refine ⟨?_, trivial⟩
      refine DT.step [(41, _), (39, _)] rfl ⟨rfl, rfl, trivial⟩ rfl (fun wq_15 kq_15 => ?_)
      replace hw := hw.pure kq_15
      replace hd_3 := hd_3.pure kq_15
      replace hL9 := hL9.pure kq_15
      replace hG9 := hG9.pure kq_15
      replace hB9 := hB9.pure kq_15
      refine WL.store Tryz.sizeOf83 hB9 rfl rfl rfl rfl ?_
      intro w11 z11 hB11 k11
      have hL11 := hL9.chgK k11 (fun b _ e => by rw [show b = g_1 from e, hB9.kb]; exact ⟨by decide, by decide⟩)
      have hG11 := hG9.chgK k11 (fun b _ e => by rw [show b = g_1 from e, hB9.kb]; decide)
      have k11' := k11.mono (M' := fun x => w.heap.size ≤ x) (fun x _ e => by rw [show x = g_1 from e]; exact hgw)
      replace hw := hw.chg k11' (by intros; exfalso; (try dsimp only at *); omega)
      replace hd_3 := hd_3.chg k11' (by intro x h1 h2; exact h2)
      refine WL.nil (WX.qk (v := undef) ⟨hd_3, ?_⟩)
      refine DT.done (fun we_16 ke_16 => ?_) _
      replace hw := hw.pure ke_16
      replace hL11 := hL11.pure ke_16
      replace hG11 := hG11.pure ke_16
      replace hB11 := hB11.pure ke_16
      rotate_left
      refine DT.step [(36, _)] rfl ⟨rfl, trivial⟩ rfl (fun wq_11 kq_11 => ?_)
      have zs_kq_11 := kq_11.size
      replace hB := hB.pure kq_11
      replace hL := hL.pure kq_11
      replace hG := hG.pure kq_11
      replace hw := hw.pure kq_11
      replace hd_3 := hd_3.pure kq_11
      refine WL.call eg_46 rfl rfl (blank_calls _ sn hs) ?_
      rintro v w7 ⟨⟨gn, cn, rfl, hbl, hgn⟩, k7⟩
      have hgnl : gn < w7.heap.size := hbl.own.lt _ rfl
      have hgno : ∀ (e : Nat) (r : Sr), ls[e]? = some r → r.ao ≠ some ⟨gn, 0, none⟩ := fun e r he h9 => by
       obtain ⟨g', e1, _, e3⟩ := hL.own e r he
       rw [e1] at h9
       injection h9 with h9
       injection h9 with h9
       have h10 := e3.own.lt _ rfl
       dsimp only at h10
       omega
      replace hB := hB.pure k7
      replace hL := hL.pure k7
      replace hG := hG.pure k7
      replace hw := hw.pure k7
      replace hd_3 := hd_3.pure k7
      refine WL.nil (WX.one ⟨hd_3, ?_⟩)
      refine ⟨?_, ?_, trivial, trivial, trivial⟩
      refine DT.step [(34, _)] rfl ⟨rfl, trivial⟩ rfl (fun wq_12 kq_12 => ?_)
      have zs_kq_12 := kq_12.size
      replace hB := hB.pure kq_12
      replace hL := hL.pure kq_12
      replace hG := hG.pure kq_12
      replace hw := hw.pure kq_12
      replace hd_3 := hd_3.pure kq_12
      replace hbl := hbl.pure kq_12
      refine WL.qd Tryz.isAgg83 hB rfl rfl rfl (WL.nil (WX.one ⟨hd_3, ?_⟩))
      refine ⟨?_, trivial, trivial, trivial⟩
      refine DT.step [(37, _)] rfl ⟨rfl, trivial⟩ rfl (fun wq_13 kq_13 => ?_)
      have zs_kq_13 := kq_13.size
      replace hB := hB.pure kq_13
      replace hL := hL.pure kq_13
      replace hG := hG.pure kq_13
      replace hw := hw.pure kq_13
      replace hd_3 := hd_3.pure kq_13
      replace hbl := hbl.pure kq_13
      obtain ⟨Z, hZ⟩ : ∃ Z, Z = List.replicate sn (bs zeros) := ⟨_, rfl⟩
      have hZl : Z.length = sn := by rw [hZ, List.length_replicate]
      rw [← hZ] at hbl
      rw [show Value.slice (some ⟨gn, 0, none⟩) sn cn = Value.slice (some ⟨gn, 0, none⟩) Z.length cn from by rw [hZl]]
      refine WL.build (e := esr) [⟨some ⟨gn, 0, none⟩, cn, Z⟩] Tryz.underlying83 Tryz.sizeOf70 Tryz.zeroValue70 rfl rfl rfl (by simp [Value.cells] <;> rfl) (by decide) rfl ?_
      intro a_b38 w_b38 b38 l_b38 z_b38 k_b38
      replace hB := hB.pure k_b38
      replace hL := hL.pure k_b38
      replace hG := hG.pure k_b38
      replace hw := hw.pure k_b38
      replace hd_3 := hd_3.pure k_b38
      replace hbl := hbl.pure k_b38
      refine WL.nil (WX.one ⟨hd_3, ?_⟩)
      refine ⟨?_, trivial, trivial⟩
      refine DT.step [(35, _), (38, _)] rfl ⟨rfl, rfl, trivial⟩ rfl (fun wq_14 kq_14 => ?_)
      have zs_kq_14 := kq_14.size
      replace hB := hB.pure kq_14
      replace hL := hL.pure kq_14
      replace hG := hG.pure kq_14
      replace hw := hw.pure kq_14
      replace hd_3 := hd_3.pure kq_14
      replace hbl := hbl.pure kq_14
      replace b38 := b38.pure kq_14
      refine WL.append (e := esr) (xs := ls) (S := fun x => w.heap.size ≤ x) info_70 rfl Tryz.underlying83 (by show some (Value.slice la i lc) = some (Value.slice la ls.length lc); rw [hlen]) rfl hL.outer (b38.rsl.src Tryz.underlying83) (by rw [hlen]; constructor <;> (simp only [List.length_cons, List.length_nil]; omega)) (fun x hx => by omega) rfl ?_
      intro a9 c9 w9 hO9 g9 n9
      have k9 := g9.chg
      have hL9 := hL.snoc hbl (by
       rw [hZ]
       apply List.ext_getElem?
       intro j
       rw [List.getElem?_map]
       rcases Nat.lt_or_ge j sn with hj | hj
       ·rw [List.getElem?_replicate, if_pos hj, List.getElem?_range hj]; rfl
       ·rw [List.getElem?_replicate, if_neg (by omega), List.getElem?_eq_none (by rw [List.length_range]; exact hj)]; rfl) (by omega) hgno hO9 k9 (fun b e => e.1)
      have hkl : ∀ b, Eqb la b → kb _ b = some (some 70) := fun b e => (hL.outer.kb.at_.eqb e).2
      have hG9 := hG.chgK k9 (fun b _ e => by rw [hkl b e.1]; decide)
      have hB9 := hB.chg k9 (fun e => by have h1 := hkl _ e.1; rw [hB.kb] at h1; exact absurd h1 (by decide))
      have k9' := k9.mono (M' := fun x => w.heap.size ≤ x) (fun x _ e => e.2)
      have e10 : (ls ++ [(⟨some ⟨gn, 0, none⟩, cn, Z⟩ : Sr)]).length = i + 1 := hL9.len
      rw [e10]
      replace hw := hw.chg k9' (by intros; exfalso; (try dsimp only at *); omega)
      replace hd_3 := hd_3.chg k9' (by intro x h1 h2; exact h2)
      refine WL.nil (WX.one ⟨hd_3, ?_⟩)
      refine ⟨?_, trivial⟩
      refine DT.step [(41, _), (39, _)] rfl ⟨rfl, rfl, trivial⟩ rfl (fun wq_15 kq_15 => ?_)
      replace hw := hw.pure kq_15
      replace hd_3 := hd_3.pure kq_15
      replace hL9 := hL9.pure kq_15
      replace hG9 := hG9.pure kq_15
      replace hB9 := hB9.pure kq_15
      refine WL.store Tryz.sizeOf83 hB9 rfl rfl rfl rfl ?_
      intro w11 z11 hB11 k11
      have hL11 := hL9.chgK k11 (fun b _ e => by rw [show b = g_1 from e, hB9.kb]; exact ⟨by decide, by decide⟩)
      have hG11 := hG9.chgK k11 (fun b _ e => by rw [show b = g_1 from e, hB9.kb]; decide)
      have k11' := k11.mono (M' := fun x => w.heap.size ≤ x) (fun x _ e => by rw [show x = g_1 from e]; exact hgw)
      replace hw := hw.chg k11' (by intros; exfalso; (try dsimp only at *); omega)
      replace hd_3 := hd_3.chg k11' (by intro x h1 h2; exact h2)
      refine WL.nil (WX.qk (v := undef) ⟨hd_3, ?_⟩)
      refine DT.done (fun we_16 ke_16 => ?_) _
      replace hw := hw.pure ke_16
      replace hL11 := hL11.pure ke_16
      replace hG11 := hG11.pure ke_16
      replace hB11 := hB11.pure ke_16
      rotate_left
      refine DT.step [(37, _)] rfl ⟨rfl, trivial⟩ rfl (fun wq_12 kq_12 => ?_)
      have zs_kq_12 := kq_12.size
      replace hB := hB.pure kq_12
      replace hL := hL.pure kq_12
      replace hG := hG.pure kq_12
      replace hw := hw.pure kq_12
      replace hd_3 := hd_3.pure kq_12
      replace hbl := hbl.pure kq_12
      obtain ⟨Z, hZ⟩ : ∃ Z, Z = List.replicate sn (bs zeros) := ⟨_, rfl⟩
      have hZl : Z.length = sn := by rw [hZ, List.length_replicate]
      rw [← hZ] at hbl
      rw [show Value.slice (some ⟨gn, 0, none⟩) sn cn = Value.slice (some ⟨gn, 0, none⟩) Z.length cn from by rw [hZl]]
      refine WL.build (e := esr) [⟨some ⟨gn, 0, none⟩, cn, Z⟩] Tryz.underlying83 Tryz.sizeOf70 Tryz.zeroValue70 rfl rfl rfl (by simp [Value.cells] <;> rfl) (by decide) rfl ?_
      intro a_b38 w_b38 b38 l_b38 z_b38 k_b38
      replace hB := hB.pure k_b38
      replace hL := hL.pure k_b38
      replace hG := hG.pure k_b38
      replace hw := hw.pure k_b38
      replace hd_3 := hd_3.pure k_b38
      replace hbl := hbl.pure k_b38
      refine WL.nil (WX.one ⟨hd_3, ?_⟩)
      refine ⟨?_, trivial, trivial, trivial⟩
      refine DT.step [(34, _)] rfl ⟨rfl, trivial⟩ rfl (fun wq_13 kq_13 => ?_)
      have zs_kq_13 := kq_13.size
      replace hB := hB.pure kq_13
      replace hL := hL.pure kq_13
      replace hG := hG.pure kq_13
      replace hw := hw.pure kq_13
      replace hd_3 := hd_3.pure kq_13
      replace hbl := hbl.pure kq_13
      replace b38 := b38.pure kq_13
      refine WL.qd Tryz.isAgg83 hB rfl rfl rfl (WL.nil (WX.one ⟨hd_3, ?_⟩))
      refine ⟨?_, trivial, trivial⟩
      refine DT.step [(35, _), (38, _)] rfl ⟨rfl, rfl, trivial⟩ rfl (fun wq_14 kq_14 => ?_)
      have zs_kq_14 := kq_14.size
      replace hB := hB.pure kq_14
      replace hL := hL.pure kq_14
      replace hG := hG.pure kq_14
      replace hw := hw.pure kq_14
      replace hd_3 := hd_3.pure kq_14
      replace hbl := hbl.pure kq_14
      replace b38 := b38.pure kq_14
      refine WL.append (e := esr) (xs := ls) (S := fun x => w.heap.size ≤ x) info_70 rfl Tryz.underlying83 (by show some (Value.slice la i lc) = some (Value.slice la ls.length lc); rw [hlen]) rfl hL.outer (b38.rsl.src Tryz.underlying83) (by rw [hlen]; constructor <;> (simp only [List.length_cons, List.length_nil]; omega)) (fun x hx => by omega) rfl ?_
      intro a9 c9 w9 hO9 g9 n9
      have k9 := g9.chg
      have hL9 := hL.snoc hbl (by
       rw [hZ]
       apply List.ext_getElem?
       intro j
       rw [List.getElem?_map]
       rcases Nat.lt_or_ge j sn with hj | hj
       ·rw [List.getElem?_replicate, if_pos hj, List.getElem?_range hj]; rfl
       ·rw [List.getElem?_replicate, if_neg (by omega), List.getElem?_eq_none (by rw [List.length_range]; exact hj)]; rfl) (by omega) hgno hO9 k9 (fun b e => e.1)
      have hkl : ∀ b, Eqb la b → kb _ b = some (some 70) := fun b e => (hL.outer.kb.at_.eqb e).2
      have hG9 := hG.chgK k9 (fun b _ e => by rw [hkl b e.1]; decide)
      have hB9 := hB.chg k9 (fun e => by have h1 := hkl _ e.1; rw [hB.kb] at h1; exact absurd h1 (by decide))
      have k9' := k9.mono (M' := fun x => w.heap.size ≤ x) (fun x _ e => e.2)
      have e10 : (ls ++ [(⟨some ⟨gn, 0, none⟩, cn, Z⟩ : Sr)]).length = i + 1 := hL9.len
      rw [e10]
      replace hw := hw.chg k9' (by intros; exfalso; (try dsimp only at *); omega)
      replace hd_3 := hd_3.chg k9' (by intro x h1 h2; exact h2)
      refine WL.nil (WX.one ⟨hd_3, ?_⟩)
      refine ⟨?_, trivial⟩
      refine DT.step [(41, _), (39, _)] rfl ⟨rfl, rfl, trivial⟩ rfl (fun wq_15 kq_15 => ?_)
      replace hw := hw.pure kq_15
      replace hd_3 := hd_3.pure kq_15
      replace hL9 := hL9.pure kq_15
      replace hG9 := hG9.pure kq_15
      replace hB9 := hB9.pure kq_15
      refine WL.store Tryz.sizeOf83 hB9 rfl rfl rfl rfl ?_
      intro w11 z11 hB11 k11
      have hL11 := hL9.chgK k11 (fun b _ e => by rw [show b = g_1 from e, hB9.kb]; exact ⟨by decide, by decide⟩)
      have hG11 := hG9.chgK k11 (fun b _ e => by rw [show b = g_1 from e, hB9.kb]; decide)
      have k11' := k11.mono (M' := fun x => w.heap.size ≤ x) (fun x _ e => by rw [show x = g_1 from e]; exact hgw)
      replace hw := hw.chg k11' (by intros; exfalso; (try dsimp only at *); omega)
      replace hd_3 := hd_3.chg k11' (by intro x h1 h2; exact h2)
      refine WL.nil (WX.qk (v := undef) ⟨hd_3, ?_⟩)
      refine DT.done (fun we_16 ke_16 => ?_) _
      replace hw := hw.pure ke_16
      replace hL11 := hL11.pure ke_16
      replace hG11 := hG11.pure ke_16
      replace hB11 := hB11.pure ke_16
      rotate_left
      all_goals
       refine WX.qd (WX.qa (WC.region (WL.move rfl rfl (WL.qe rfl rfl (by omega) rfl (WL.assign rfl rfl (WL.nil (?_)))))))
       exact WX.qc (i + 1, a9, c9, ls ++ [(⟨some ⟨gn, 0, none⟩, cn, Z⟩ : Sr)]) ⟨rfl, rfl, rfl, rfl, trivial⟩ ⟨by show i + 1 ≤ _; omega, hB11, hL11, hG11, hw⟩ (by show dn - (i + 1) < dn - i; omega)
     ·refine WL.t (WC.qa rfl (WC.exit (WX.qe (WX.qe (WX.qh (WX.qa (WC.sr (WL.move rfl rfl (WL.assign rfl rfl (WL.assign rfl rfl (WL.t (WC.ret (WX.qi (.inl rfl) Tryz.results7 rfl rfl ?_)))))))))))))
      first
       |(exfalso; omega)
       |(have hid : i = dn := by omega
         subst hid
         refine ⟨_, rfl, ⟨g_1, rfl, hgw, hok, (fun p hp => by cases hp), la, lc, ls, some ⟨g, 0, none⟩, i, none, 0, ?_, hL.congr (fun _ _ _ _ => rfl), hG, Row.nil _ _ _ _⟩, hw⟩
         show Blk w2 g_1 87 [.slice la i lc, .slice (some ⟨g, 0, none⟩) (List.replicate i false).length i, .slice none 0 0, .bool false, vi (-1)]
         rw [List.length_replicate]
         exact hB)
end Go.Proofs.YtjeldcjchipdgaaGreatDoor
namespace Go.Proofs.YtjeldcjchipdgaaGreatDoor
open Go.RowKit Go.HL
set_option maxRecDepth 100000
theorem dright_calls {A : Nat → Prop} {w : World} {D : Nat} {s : RA} (h : RD A w D s) : Calls Tryz.prog 50 [ptr D].toArray w (Ret fun v w' => v = .bool (decide (8 < s.sn)) ∧ Chg Nob w w') := by
 have hw := Chg.refl Nob w
 have hdn := h.ok.dn
 obtain ⟨la, lc, ls, ga, gc, wa, wc, hB, hI⟩ := h.ex
 have hlen := hI.ld.len
 refine Calls.of_WC Tryz.func50 rfl Tryz.ntmps50 (by simp) ?_
 refine WC.sr (WL.assign rfl rfl (WL.t (WC.sr (WL.move rfl rfl (WL.ptrSome Tryz.underlying29 rfl rfl rfl ?_)))))
 refine WL.move rfl rfl (WL.qa rfl rfl rfl (WL.move rfl rfl (WL.qa rfl rfl rfl (WL.nilCheck rfl rfl (WL.qa rfl rfl rfl (WL.fieldAddr (fld_87_0) rfl rfl (WL.qa rfl rfl rfl (WL.qd Tryz.isAgg83 hB rfl rfl rfl (WL.qa rfl rfl rfl (?_))))))))))
 obtain ⟨r0, hr0⟩ : ∃ r, ls[0]? = some r := ⟨_, List.getElem?_eq_getElem (by omega)⟩
 have hrl := hI.ld.rlen hr0
 refine WL.qg (e := esr) Tryz.underlying83 Tryz.sizeOf70 hI.ld.outer.rsl (by show some (Value.slice la s.dn lc) = some (Value.slice la ls.length lc); rw [hlen]) rfl ⟨hr0, rfl⟩ rfl ?_
 intro bb oo hcc
 refine WL.qa rfl rfl rfl (WL.load Tryz.isAgg70 rfl (hcc 0 _ rfl) rfl ?_)
 refine WL.qa rfl rfl rfl (WL.len Tryz.underlying70 rfl rfl (WL.qa rfl rfl rfl (WL.gtr rfl rfl rfl (WL.qc rfl rfl rfl (WL.assign rfl rfl (WL.t (WC.ret (WX.qg (.inl rfl) Tryz.results50 rfl ?_))))))))
 refine ⟨_, rfl, ?_, hw⟩
 congr 1
 exact decide_eq_decide.2 (by omega)
theorem writeE_in {s : RA} {d a : Int} (h : inS s d a) : writeE s d a 128 = 0 ∨ writeE s d a 128 = 3 ∨ writeE s d a 128 = 16 := by
 unfold writeE
 rw [if_neg (fun x => x.elim (fun y => y h) (fun y => y rfl))]
 split
 ·exact .inr (.inl rfl)
 ·split
  ·exact .inr (.inr rfl)
  ·exact .inl rfl
set_option maxHeartbeats 2000000 in
theorem docWrite8_calls {A : Nat → Prop} {w : World} {D : Nat} {s : RA} (h : RD A w D s) (u : UbV) (hu : WfU u) (hn : s.waits.length ≤ 90000) :
 Calls Tryz.prog 10 [ptr D, .agg (eub.f u).toArray].toArray w (Ret fun v w' => v = .tuple #[vi (lwN s u), vi (lwE s u)] ∧ RD (fun x => A x ∨ w.heap.size ≤ x) w' D (lwS s u) ∧ Chg A w w') := by
 have hw := Chg.refl A w
 have hdn := h.ok.dn
 replace h : RD (fun x => A x ∧ x < w.heap.size) w D s := h.old
 obtain ⟨B, eB⟩ : ∃ B, B = encB u := ⟨_, rfl⟩
 refine Calls.of_WC Tryz.func10 rfl Tryz.ntmps10 (by simp) ?_
 refine WC.sr (WL.box rfl rfl ?_)
 intro g_1 w_1 hge_1 hlt_1 hb_1 k_1
 replace h := h.pure k_1
 replace hw := hw.pure k_1
 refine WL.assign rfl rfl (WL.assign rfl rfl (WL.t (WC.seq (WC.sr (WL.move rfl rfl (WL.call eg_50 rfl rfl (dright_calls h) ?_))))))
 rintro v w1 ⟨rfl, k1⟩
 replace h := h.pure k1
 replace hw := hw.pure k1
 replace hb_1 := hb_1.pure k1
 by_cases h12 : 8 < s.sn
 ·rw [decide_eq_true h12]
  refine WL.not rfl rfl (WL.t (WC.qa rfl (WC.skip (WX.qa (WC.sr (?_))))))
  have hb1 : Blk _ g_1 43 (eub.f u) := hb_1
  refine WL.qo (eub.f u) Tryz.isAgg43 Tryz.sizeOf43 rfl (fun j v hj => by rw [Nat.zero_add]; exact hb1.cell hj) rfl rfl ?_
  refine WL.call eg_21 rfl rfl (docEncU_calls u _ hu) ?_
  rintro v w2 ⟨rfl, k2⟩
  rw [← eB]
  replace h := h.pure k2
  replace hw := hw.pure k2
  replace hb1 := hb1.pure k2
  refine WL.move rfl rfl (WL.extract rfl rfl rfl (WL.extract rfl rfl rfl (WL.assign rfl rfl (WL.assign rfl rfl (WL.t (WC.seq (WC.sr (WL.move rfl rfl (WL.qk rfl rfl rfl (fun h20 => ?_) (fun h20 => ?_))))))))))
  ·refine WL.t (WC.qb rfl (WC.sr (WL.move rfl rfl (WL.assign rfl rfl (WL.assign rfl rfl (WL.t (WC.ret (WX.qb (WX.qi (.inl rfl) Tryz.results10 rfl rfl ?_)))))))))
   first
    |(have hz : ¬ 8 < s.sn := h12
      obtain ⟨e1, e2, e3⟩ := lw_right (u := u) hz
      rw [e1, e2, e3]
      exact ⟨_, rfl, rfl, h.mono (fun x hx => .inl hx.1), hw⟩)
    |(have hz : encE u ≠ 0 := h20
      obtain ⟨e1, e2, e3⟩ := lw_enc h12 hz
      rw [e1, e2, e3]
      exact ⟨_, rfl, rfl, h.mono (fun x hx => .inl hx.1), hw⟩)
    |(have hz : writeE (lwR s at_ B k).1 k at_ 128 = 16 := h39
      obtain ⟨e1, e2, e3⟩ := lw_stop h12 h20 eat eB (k := k) (by omega) hk0 (by rw [t4, hz]; decide) (by rw [t4, hz]; decide)
      rw [e1, e2, e3, t4]
      exact ⟨_, rfl, rfl, h5.mono (fun x hx => by rcases hx with h6 | h6; exact .inl h6.1; right; omega), hw5⟩)
    |(obtain rfl : k = s.dn := by omega
      obtain ⟨e1, e2, e3⟩ := lw_end h12 h20 eat eB hk0
      have hmo := h.mono (A' := fun x => A x ∨ w.heap.size ≤ x) (fun x hx => by rcases hx with h6 | h6; exact .inl h6.1; right; omega)
      by_cases hc : (lwR s at_ B s.dn).2.1 = 0
      ·rw [e1, e2, e3, if_pos hc, hc]
       first
        |exact ⟨_, rfl, rfl, hmo, hw⟩
        |(exfalso; omega)
      ·rw [e1, e2, e3, if_neg hc]
       first
        |exact ⟨_, rfl, rfl, hmo, hw⟩
        |(exfalso; omega))
  ·refine WL.t (WC.qa rfl (WC.skip (WX.qa (WC.sr (WL.assign rfl rfl (WL.t (WC.seq (WC.sr (WL.assign rfl rfl (WL.t (WC.block (?_))))))))))))
   obtain ⟨t1, t2, t3, t4⟩ := encE_t h20
   rw [← eB] at t4
   obtain ⟨n0, en0⟩ : ∃ n0, n0 = w2.heap.size := ⟨_, rfl⟩
   have hg2 := hb1.lt
   obtain ⟨at_, eat⟩ : ∃ a : Int, a = u.t % 8 := ⟨_, rfl⟩
   have hat : 0 ≤ at_ ∧ at_ < 8 := by omega
   refine WC.loop (σ := Nat) (fun k => [(0, ptr D), (3, ptr g_1), (6, .string ⟨B.toArray⟩), (8, vi ((lwR s at_ B k).2.1 : Int)), (9, vi (k : Int))])
    (fun k w' => k ≤ s.dn ∧ (lwR s at_ B k).2.2 = 0 ∧ n0 ≤ w'.heap.size ∧ Blk w' g_1 43 (eub.f u) ∧ RD (fun x => (A x ∧ x < w.heap.size) ∨ n0 ≤ x) w' D (lwR s at_ B k).1 ∧ Chg A w w') (fun k => s.dn - k) 0 ⟨rfl, rfl, rfl, rfl, rfl, trivial⟩
    ⟨Nat.zero_le _, rfl, by omega, hb1, h.mono (fun x hx => .inl hx), hw⟩ ?_
   clear hb1 h hw
   rintro k w3 ⟨hk, hk0, hn3, hb1, h, hw⟩
   obtain ⟨d1, d2, d3, d4, d5⟩ := lwR_dn s at_ B k
   obtain ⟨la, lc, ls, ga, gc, wa, wc, hB, hI⟩ := h.ex
   have hlen := hI.ld.len
   refine WC.seq (WC.sr (WL.move rfl rfl (WL.move rfl rfl (WL.nilCheck rfl rfl (WL.fieldAddr (fld_87_0) rfl rfl (WL.qd Tryz.isAgg83 hB rfl rfl rfl (WL.len Tryz.underlying83 rfl rfl ?_)))))))
   rw [d1]
   refine WL.qi rfl rfl rfl (fun h28 => ?_) (fun h28 => ?_)
   ·refine WL.t (WC.qb rfl (WC.skip (WX.qa (WC.seq (WC.block (WC.seq (?_)))))))
    refine WC.region (WL.move rfl rfl (WL.move rfl rfl (WL.fieldAddr (fld_43_0) rfl rfl (WL.qd Tryz.isAgg3 hb1 rfl rfl rfl (WL.qw rfl rfl (by constructor <;> omega) rfl (WL.move rfl rfl (?_)))))))
    have hn9 : (lwR s at_ B k).1.waits.length ≤ 1000000 := by omega
    rw [← eat]
    have hin : inS (lwR s at_ B k).1 (k : Int) at_ := by unfold inS; rw [d1, d2]; omega
    have hwi := writeE_in hin
    refine WL.call eg_23 rfl rfl (dWrite_calls h hn9 k at_ B) ?_
    rintro v w5 ⟨rfl, h5, k5⟩
    rw [t4]
    have z5 := k5.size
    replace h5 : RD (fun x => (A x ∧ x < w.heap.size) ∨ n0 ≤ x) w5 D (writeS (lwR s at_ B k).1 k at_ B) := h5.mono (fun x hx => by rcases hx with h6 | h6; exact h6; right; omega)
    have hb5 := hb1.chg k5 (fun h3 => by rcases h3 with h4 | h4; have := h4.2; omega; omega)
    have hw5 : Chg A w w5 := hw.trans k5 (fun x h1 h2 => by rcases h2 with h4 | h4; exact h4.1; exfalso; omega)
    refine WL.assign rfl rfl (WL.t (WC.seq (WC.sr (WL.move rfl rfl (WL.qj rfl rfl rfl (fun h39 => ?_) (fun h39 => ?_))))))
    ·refine WL.t (WC.qb rfl (WC.sr (WL.move rfl rfl (WL.assign rfl rfl (WL.assign rfl rfl (WL.t (WC.ret (WX.qb (WX.qf (WX.qb (WX.qb (WX.qf (WX.qb (WX.qi (.inl rfl) Tryz.results10 rfl rfl ?_))))))))))))))
     first
      |(have hz : ¬ 8 < s.sn := h12
        obtain ⟨e1, e2, e3⟩ := lw_right (u := u) hz
        rw [e1, e2, e3]
        exact ⟨_, rfl, rfl, h.mono (fun x hx => .inl hx.1), hw⟩)
      |(have hz : encE u ≠ 0 := h20
        obtain ⟨e1, e2, e3⟩ := lw_enc h12 hz
        rw [e1, e2, e3]
        exact ⟨_, rfl, rfl, h.mono (fun x hx => .inl hx.1), hw⟩)
      |(have hz : writeE (lwR s at_ B k).1 k at_ 128 = 16 := h39
        obtain ⟨e1, e2, e3⟩ := lw_stop h12 h20 eat eB (k := k) (by omega) hk0 (by rw [t4, hz]; decide) (by rw [t4, hz]; decide)
        rw [e1, e2, e3, t4]
        exact ⟨_, rfl, rfl, h5.mono (fun x hx => by rcases hx with h6 | h6; exact .inl h6.1; right; omega), hw5⟩)
      |(obtain rfl : k = s.dn := by omega
        obtain ⟨e1, e2, e3⟩ := lw_end h12 h20 eat eB hk0
        have hmo := h.mono (A' := fun x => A x ∨ w.heap.size ≤ x) (fun x hx => by rcases hx with h6 | h6; exact .inl h6.1; right; omega)
        by_cases hc : (lwR s at_ B s.dn).2.1 = 0
        ·rw [e1, e2, e3, if_pos hc, hc]
         first
          |exact ⟨_, rfl, rfl, hmo, hw⟩
          |(exfalso; omega)
        ·rw [e1, e2, e3, if_neg hc]
         first
          |exact ⟨_, rfl, rfl, hmo, hw⟩
          |(exfalso; omega))
    ·refine WL.t (WC.qa rfl (WC.skip (WX.qa (WC.sr (WL.move rfl rfl (WL.qj rfl rfl rfl (fun h42 => ?_) (fun h42 => ?_)))))))
     ·refine WL.t (WC.qb rfl (WC.region (WL.move rfl rfl (WL.qe rfl rfl (by omega) rfl (WL.assign rfl rfl (WL.nil (?_)))))))
      refine WX.qd (WX.qa (WC.region (WL.move rfl rfl (WL.qe rfl rfl (by omega) rfl (WL.assign rfl rfl (WL.nil (?_)))))))
      first
       |(have hz : writeE (lwR s at_ B k).1 k at_ 128 = 0 := h42
         have e1 : lwR s at_ B (k + 1) = (writeS (lwR s at_ B k).1 k at_ B, (lwR s at_ B k).2.1 + 1, 0) := by
          rw [lwR, if_neg (fun h9 => h9 hk0), t4, if_pos hz]
         have f1 : (lwR s at_ B (k + 1)).2.2 = 0 := by rw [e1]
         have f2 : RD (fun x => (A x ∧ x < w.heap.size) ∨ n0 ≤ x) w5 D (lwR s at_ B (k + 1)).1 := by rw [e1]; exact h5
         have f3 : ((lwR s at_ B (k + 1)).2.1 : Int) = ((lwR s at_ B k).2.1 : Int) + 1 := by rw [e1]; rfl
         refine WX.qc (k + 1) ⟨rfl, rfl, rfl, ?_, rfl, trivial⟩ ⟨by omega, f1, by omega, hb5, f2, hw5⟩ (by show _ - _ < _ - _; omega)
         rw [f3]
         rfl)
       |(have hz2 : writeE (lwR s at_ B k).1 k at_ 128 ≠ 16 := h39
         have hz : writeE (lwR s at_ B k).1 k at_ 128 ≠ 0 := h42
         have hz3 : writeE (lwR s at_ B k).1 k at_ 128 = 3 := by omega
         have e1 : lwR s at_ B (k + 1) = (writeS (lwR s at_ B k).1 k at_ B, (lwR s at_ B k).2.1, 0) := by
          rw [lwR, if_neg (fun h9 => h9 hk0), t4, if_neg hz, if_pos hz3]
         have f1 : (lwR s at_ B (k + 1)).2.2 = 0 := by rw [e1]
         have f2 : RD (fun x => (A x ∧ x < w.heap.size) ∨ n0 ≤ x) w5 D (lwR s at_ B (k + 1)).1 := by rw [e1]; exact h5
         have f3 : ((lwR s at_ B (k + 1)).2.1 : Int) = ((lwR s at_ B k).2.1 : Int) := by rw [e1]
         refine WX.qc (k + 1) ⟨rfl, rfl, rfl, ?_, rfl, trivial⟩ ⟨by omega, f1, by omega, hb5, f2, hw5⟩ (by show _ - _ < _ - _; omega)
         rw [f3]
         rfl)
     ·refine WL.t (WC.qa rfl (WC.skip (WX.qd (WX.qa (WC.region (WL.move rfl rfl (WL.qe rfl rfl (by omega) rfl (WL.assign rfl rfl (WL.nil (?_))))))))))
      first
       |(have hz : writeE (lwR s at_ B k).1 k at_ 128 = 0 := h42
         have e1 : lwR s at_ B (k + 1) = (writeS (lwR s at_ B k).1 k at_ B, (lwR s at_ B k).2.1 + 1, 0) := by
          rw [lwR, if_neg (fun h9 => h9 hk0), t4, if_pos hz]
         have f1 : (lwR s at_ B (k + 1)).2.2 = 0 := by rw [e1]
         have f2 : RD (fun x => (A x ∧ x < w.heap.size) ∨ n0 ≤ x) w5 D (lwR s at_ B (k + 1)).1 := by rw [e1]; exact h5
         have f3 : ((lwR s at_ B (k + 1)).2.1 : Int) = ((lwR s at_ B k).2.1 : Int) + 1 := by rw [e1]; rfl
         refine WX.qc (k + 1) ⟨rfl, rfl, rfl, ?_, rfl, trivial⟩ ⟨by omega, f1, by omega, hb5, f2, hw5⟩ (by show _ - _ < _ - _; omega)
         rw [f3]
         rfl)
       |(have hz2 : writeE (lwR s at_ B k).1 k at_ 128 ≠ 16 := h39
         have hz : writeE (lwR s at_ B k).1 k at_ 128 ≠ 0 := h42
         have hz3 : writeE (lwR s at_ B k).1 k at_ 128 = 3 := by omega
         have e1 : lwR s at_ B (k + 1) = (writeS (lwR s at_ B k).1 k at_ B, (lwR s at_ B k).2.1, 0) := by
          rw [lwR, if_neg (fun h9 => h9 hk0), t4, if_neg hz, if_pos hz3]
         have f1 : (lwR s at_ B (k + 1)).2.2 = 0 := by rw [e1]
         have f2 : RD (fun x => (A x ∧ x < w.heap.size) ∨ n0 ≤ x) w5 D (lwR s at_ B (k + 1)).1 := by rw [e1]; exact h5
         have f3 : ((lwR s at_ B (k + 1)).2.1 : Int) = ((lwR s at_ B k).2.1 : Int) := by rw [e1]
         refine WX.qc (k + 1) ⟨rfl, rfl, rfl, ?_, rfl, trivial⟩ ⟨by omega, f1, by omega, hb5, f2, hw5⟩ (by show _ - _ < _ - _; omega)
         rw [f3]
         rfl)
   ·refine WL.t (WC.qa rfl (WC.exit (WX.qe (WX.qe (WX.qh (WX.qa (WC.seq (WC.sr (WL.move rfl rfl (WL.qj rfl rfl rfl (fun h46 => ?_) (fun h46 => ?_)))))))))))
    ·refine WL.t (WC.qb rfl (WC.sr (WL.assign rfl rfl (WL.assign rfl rfl (WL.nil (WX.qa (WC.ret (WX.qb (WX.qi (.inl rfl) Tryz.results10 rfl rfl ?_)))))))))
     first
      |(have hz : ¬ 8 < s.sn := h12
        obtain ⟨e1, e2, e3⟩ := lw_right (u := u) hz
        rw [e1, e2, e3]
        exact ⟨_, rfl, rfl, h.mono (fun x hx => .inl hx.1), hw⟩)
      |(have hz : encE u ≠ 0 := h20
        obtain ⟨e1, e2, e3⟩ := lw_enc h12 hz
        rw [e1, e2, e3]
        exact ⟨_, rfl, rfl, h.mono (fun x hx => .inl hx.1), hw⟩)
      |(have hz : writeE (lwR s at_ B k).1 k at_ 128 = 16 := h39
        obtain ⟨e1, e2, e3⟩ := lw_stop h12 h20 eat eB (k := k) (by omega) hk0 (by rw [t4, hz]; decide) (by rw [t4, hz]; decide)
        rw [e1, e2, e3, t4]
        exact ⟨_, rfl, rfl, h5.mono (fun x hx => by rcases hx with h6 | h6; exact .inl h6.1; right; omega), hw5⟩)
      |(obtain rfl : k = s.dn := by omega
        obtain ⟨e1, e2, e3⟩ := lw_end h12 h20 eat eB hk0
        have hmo := h.mono (A' := fun x => A x ∨ w.heap.size ≤ x) (fun x hx => by rcases hx with h6 | h6; exact .inl h6.1; right; omega)
        by_cases hc : (lwR s at_ B s.dn).2.1 = 0
        ·rw [e1, e2, e3, if_pos hc, hc]
         first
          |exact ⟨_, rfl, rfl, hmo, hw⟩
          |(exfalso; omega)
        ·rw [e1, e2, e3, if_neg hc]
         first
          |exact ⟨_, rfl, rfl, hmo, hw⟩
          |(exfalso; omega))
    ·refine WL.t (WC.qa rfl (WC.skip (WX.qa (WC.sr (WL.move rfl rfl (WL.assign rfl rfl (WL.assign rfl rfl (WL.t (WC.ret (WX.qi (.inl rfl) Tryz.results10 rfl rfl ?_))))))))))
     first
      |(have hz : ¬ 8 < s.sn := h12
        obtain ⟨e1, e2, e3⟩ := lw_right (u := u) hz
        rw [e1, e2, e3]
        exact ⟨_, rfl, rfl, h.mono (fun x hx => .inl hx.1), hw⟩)
      |(have hz : encE u ≠ 0 := h20
        obtain ⟨e1, e2, e3⟩ := lw_enc h12 hz
        rw [e1, e2, e3]
        exact ⟨_, rfl, rfl, h.mono (fun x hx => .inl hx.1), hw⟩)
      |(have hz : writeE (lwR s at_ B k).1 k at_ 128 = 16 := h39
        obtain ⟨e1, e2, e3⟩ := lw_stop h12 h20 eat eB (k := k) (by omega) hk0 (by rw [t4, hz]; decide) (by rw [t4, hz]; decide)
        rw [e1, e2, e3, t4]
        exact ⟨_, rfl, rfl, h5.mono (fun x hx => by rcases hx with h6 | h6; exact .inl h6.1; right; omega), hw5⟩)
      |(obtain rfl : k = s.dn := by omega
        obtain ⟨e1, e2, e3⟩ := lw_end h12 h20 eat eB hk0
        have hmo := h.mono (A' := fun x => A x ∨ w.heap.size ≤ x) (fun x hx => by rcases hx with h6 | h6; exact .inl h6.1; right; omega)
        by_cases hc : (lwR s at_ B s.dn).2.1 = 0
        ·rw [e1, e2, e3, if_pos hc, hc]
         first
          |exact ⟨_, rfl, rfl, hmo, hw⟩
          |(exfalso; omega)
        ·rw [e1, e2, e3, if_neg hc]
         first
          |exact ⟨_, rfl, rfl, hmo, hw⟩
          |(exfalso; omega))
 ·rw [decide_eq_false h12]
  refine WL.not rfl rfl (WL.t (WC.qb rfl (WC.sr (WL.assign rfl rfl (WL.assign rfl rfl (WL.t (WC.ret (WX.qb (WX.qi (.inl rfl) Tryz.results10 rfl rfl ?_)))))))))
  first
   |(have hz : ¬ 8 < s.sn := h12
     obtain ⟨e1, e2, e3⟩ := lw_right (u := u) hz
     rw [e1, e2, e3]
     exact ⟨_, rfl, rfl, h.mono (fun x hx => .inl hx.1), hw⟩)
   |(have hz : encE u ≠ 0 := h20
     obtain ⟨e1, e2, e3⟩ := lw_enc h12 hz
     rw [e1, e2, e3]
     exact ⟨_, rfl, rfl, h.mono (fun x hx => .inl hx.1), hw⟩)
   |(have hz : writeE (lwR s at_ B k).1 k at_ 128 = 16 := h39
     obtain ⟨e1, e2, e3⟩ := lw_stop h12 h20 eat eB (k := k) (by omega) hk0 (by rw [t4, hz]; decide) (by rw [t4, hz]; decide)
     rw [e1, e2, e3, t4]
     exact ⟨_, rfl, rfl, h5.mono (fun x hx => by rcases hx with h6 | h6; exact .inl h6.1; right; omega), hw5⟩)
   |(obtain rfl : k = s.dn := by omega
     obtain ⟨e1, e2, e3⟩ := lw_end h12 h20 eat eB hk0
     have hmo := h.mono (A' := fun x => A x ∨ w.heap.size ≤ x) (fun x hx => by rcases hx with h6 | h6; exact .inl h6.1; right; omega)
     by_cases hc : (lwR s at_ B s.dn).2.1 = 0
     ·rw [e1, e2, e3, if_pos hc, hc]
      first
       |exact ⟨_, rfl, rfl, hmo, hw⟩
       |(exfalso; omega)
     ·rw [e1, e2, e3, if_neg hc]
      first
       |exact ⟨_, rfl, rfl, hmo, hw⟩
       |(exfalso; omega))
end Go.Proofs.YtjeldcjchipdgaaGreatDoor
namespace Go.Proofs.YtjeldcjchipdgaaGreatDoor
open Go.RowKit Go.HL
set_option maxRecDepth 100000
def outD (s : RA) (d : Int) (k : Nat) : List UbV := (List.range k).map fun i => slotU s d i
theorem outD_len (s : RA) (d : Int) (k : Nat) : (outD s d k).length = k := by simp [outD]
theorem outD_next (s : RA) (d : Int) (k : Nat) : outD s d (k + 1) = outD s d k ++ [slotU s d k] := by rw [outD, List.range_succ, List.map_append]; rfl
theorem outD_8 (s : RA) (d : Int) : outK s d 8 = outD s d 8 := by
 unfold outK outD
 refine List.map_congr_left fun i hi => ?_
 rw [if_pos (List.mem_range.1 hi)]
set_option maxHeartbeats 2000000 in
theorem docWhole_calls {A : Nat → Prop} {w : World} {D : Nat} {s : RA} (h : RD A w D s) (hn : s.waits.length ≤ 1000000) {d : Int} (hd : isS s d) (h8 : 8 < s.sn) :
 Calls Tryz.prog 68 [ptr D, vi d].toArray w (Ret fun v w' => (∃ (ao : Option Addr) (c : Nat), v = .tuple #[.slice ao (wholeL s d).length c, vi (errD s d)] ∧ Row (w.heap.size ≤ ·) w' 43 eub ao c (wholeL s d)) ∧ Chg Nob w w') := by
 have hw := Chg.refl Nob w
 replace h : RD (fun x => x < w.heap.size) w D s := h.old.mono (fun x hx => hx.2)
 have h128 : ∀ a, (heldS s (d, a)).length = 128 := fun a => heldS_len h.ok _
 refine Calls.of_WC Tryz.func68 rfl Tryz.ntmps68 (by simp) ?_
 refine WC.sr (WL.assign rfl rfl (WL.assign rfl rfl (WL.t (WC.sr (WL.assign rfl rfl (WL.t (WC.seq (WC.sr (WL.assign rfl rfl (WL.nil (WX.qa (WC.block (?_)))))))))))))
 refine WC.loop (σ := Nat × Option Addr × Nat) (fun q => [(0, ptr D), (1, vi d), (6, .slice q.2.1 (outD s d q.1).length q.2.2), (7, vi (q.1 : Int))])
  (fun q w' => q.1 ≤ 8 ∧ (0 < q.1 → errD s d = 0) ∧ Row (fun x => w.heap.size ≤ x) w' 43 eub q.2.1 q.2.2 (outD s d q.1) ∧ RD (fun x => x < w.heap.size) w' D s ∧ Chg Nob w w') (fun q => 8 - q.1) (0, none, 0) ⟨rfl, rfl, rfl, rfl, trivial⟩
  ⟨Nat.zero_le _, fun h9 => absurd h9 (Nat.lt_irrefl _), Row.nil _ _ _ _, h, hw⟩ ?_
 clear h hw
 rintro ⟨k, ao, cp⟩ w1 ⟨hk, hE, hO, h, hw⟩
 dsimp only at hk hE hO ⊢
 have zw := hw.size
 have hol := outD_len s d k
 replace hO := hO.lt
 refine WC.seq (WC.sr (WL.move rfl rfl (WL.qi rfl rfl rfl (fun h12 => ?_) (fun h12 => ?_))))
 ·refine WL.t (WC.qb rfl (WC.skip (WX.qa (WC.seq (WC.block (WC.seq (WC.region (WL.move rfl rfl (WL.move rfl rfl (WL.move rfl rfl (WL.call eg_88 rfl rfl (dRead_calls h hn d k) ?_)))))))))))
  rintro v w2 ⟨rfl, k2⟩
  have he := errS_D hd h8 (a := k) (by omega)
  rw [he]
  have zs_k2 := k2.size
  replace hO := hO.pure k2
  replace h := h.pure k2
  replace hw := hw.pure k2
  refine WL.move rfl rfl (WL.extract rfl rfl rfl (WL.extract rfl rfl rfl (WL.assign rfl rfl (WL.assign rfl rfl (WL.t (WC.seq (WC.sr (WL.move rfl rfl (WL.qk rfl rfl rfl (fun h23 => ?_) (fun h23 => ?_))))))))))
  ·refine WL.t (WC.qb rfl (WC.sr (WL.move rfl rfl (WL.assign rfl rfl (WL.assign rfl rfl (WL.t (WC.ret (WX.qb (WX.qf (WX.qb (WX.qb (WX.qf (WX.qb (WX.qi (.inl rfl) Tryz.results68 rfl rfl ?_))))))))))))))
   first
    |(have hz : errD s d ≠ 0 := h23
      have hl : wholeL s d = [] := by rw [wholeL, if_neg hz]
      rw [hl]
      exact ⟨_, rfl, ⟨none, 0, rfl, Row.nil _ _ _ _⟩, hw⟩)
    |(have hk8 : k = 8 := by omega
      subst hk8
      have h0 := hE (by omega)
      have hl : wholeL s d = outD s d 8 := by rw [wholeL, if_pos h0, outD_8]
      rw [hl, h0]
      exact ⟨_, rfl, ⟨ao, cp, rfl, hO.mono (fun x hx => hx.1)⟩, hw⟩)
  ·refine WL.t (WC.qa rfl (WC.skip (WX.qa (WC.sr (WL.move rfl rfl (?_))))))
   have hz : errD s d = 0 := h23
   rw [if_pos hz]
   refine WL.call eg_89 rfl rfl (docDecU_calls (bs (heldS s (d, (k : Int)))) _ (by rw [bs_size, h128]; decide)) ?_
   rintro v w3 ⟨rfl, k3⟩
   rw [show (bs (heldS s (d, (k : Int)))).data.toList = heldS s (d, (k : Int)) from rfl]
   have zs_k3 := k3.size
   replace hO := hO.pure k3
   replace h := h.pure k3
   replace hw := hw.pure k3
   refine WL.move rfl rfl (WL.extract rfl rfl rfl (WL.extract rfl rfl rfl (WL.alloc Tryz.zeroValue43 rfl ?_)))
   intro g_1 w_1 hge_1 hlt_1 hb_1 k_1
   replace hO := hO.pure k_1
   replace h := h.pure k_1
   replace hw := hw.pure k_1
   refine WL.qf Tryz.sizeOf43 hb_1 rfl rfl (by rfl) (by exact Enc.one _ _) (by exact Nat.le_of_ble_eq_true rfl) rfl ?_
   intro w_2 hs_2 hn_2 k_2
   replace hO := hO.chg k_2 (by intro b h1 h2 h3; have h4 : _ = _ := h3; (try dsimp only at h2); exfalso; omega)
   replace h := h.chg k_2 (by intro b h1 h2 h3; have h4 : _ = _ := h3; (try dsimp only at h2); exfalso; omega)
   replace hw := hw.chg k_2 (by intro x h1 h2; have h3 : _ = _ := h2; exfalso; omega)
   replace hb_1 := hn_2
   refine WL.assign rfl rfl (WL.t (WC.seq (WC.sr (WL.move rfl rfl (WL.qk rfl rfl rfl (fun h31 => ?_) (fun h31 => ?_))))))
   ·refine WL.move rfl rfl (WL.pass rfl rfl rfl rfl (WL.pass rfl rfl rfl rfl (WL.pass rfl rfl rfl rfl (WL.pass rfl rfl rfl rfl (WL.pass rfl rfl rfl rfl (WL.qc rfl rfl rfl (WL.nil (WX.qa (WC.qb rfl (WC.region (WL.bld rfl (bld_43_0 _) rfl (?_))))))))))))
    refine WL.qf Tryz.sizeOf43 hb_1 rfl rfl (by simp; done) (by simp [Value.oneCell']; done) (by simp [Value.cells]; omega) rfl ?_
    intro w_3 hs_3 hn_3 k_3
    replace hO := hO.chg k_3 (by intro b h1 h2 h3; have h4 : _ = _ := h3; (try dsimp only at h2); exfalso; omega)
    replace h := h.chg k_3 (by intro b h1 h2 h3; have h4 : _ = _ := h3; (try dsimp only at h2); exfalso; omega)
    replace hw := hw.chg k_3 (by intro x h1 h2; have h3 : _ = _ := h2; exfalso; omega)
    replace hb_1 := hn_3
    refine WL.t (WC.region (WL.move rfl rfl (?_)))
    have hb10 := Blk.eqc (cs' := eub.f (slotU s d k)) hb_1 (by
     by_cases hc : decEr (heldS s (d, (k : Int))) = 0 ∧ (decV (heldS s (d, (k : Int)))).t % 8 = k
     ·rw [slotU, if_pos hc]
      first
       |rfl
       |(exfalso; exact h31 hc.1)
       |(exfalso; exact h37 hc.2)
     ·rw [slotU, if_neg hc]
      first
       |rfl
       |(exfalso; exact hc ⟨h31, h37⟩))
    refine WL.qo (eub.f (slotU s d k)) Tryz.isAgg43 Tryz.sizeOf43 rfl (fun j v hj => by rw [Nat.zero_add]; exact hb10.cell hj) rfl rfl ?_
    refine WL.build (e := eub) [slotU s d k] Tryz.underlying121 Tryz.sizeOf43 Tryz.zeroValue43 rfl rfl rfl (by simp [Value.cells] <;> rfl) (by decide) rfl ?_
    intro a_hn1 w_hn1 hn1 l_hn1 z_hn1 k_hn1
    replace hO := hO.pure k_hn1
    replace h := h.pure k_hn1
    replace hw := hw.pure k_hn1
    replace hO := hO.mono (S' := fun x => w.heap.size ≤ x) (fun x hx => hx.1)
    refine WL.append (e := eub) info_43 rfl Tryz.underlying121 rfl rfl hO (hn1.rsl.src Tryz.underlying121) (by (try simp only [List.length_append, List.length_cons, List.length_nil] at *); omega) (by intro b hb; first | (apply hS; omega) | ((try dsimp only); omega)) rfl ?_
    intro a_hO2 c_hO2 w_hO2 hO2 g_hO2 n_hO2
    replace h := h.chg g_hO2.chg (by intros; exfalso; (try dsimp only at *); omega)
    replace hw := hw.chg g_hO2.chg (by intros; exfalso; (try dsimp only at *); omega)
    refine WL.assign rfl rfl (WL.nil (WX.qd (WX.qa (WC.region (WL.move rfl rfl (WL.qe rfl rfl (by omega) rfl (WL.assign rfl rfl (?_))))))))
    refine WL.nil (?_)
    refine WX.qc (k + 1, a_hO2, c_hO2) ⟨rfl, rfl, ?_, rfl, trivial⟩ ⟨by show k + 1 ≤ 8; omega, fun _ => h23, ?_, h, hw⟩ (by show 8 - (k + 1) < 8 - k; omega)
    ·dsimp only; rw [outD_next]; rfl
    ·dsimp only; rw [outD_next]; exact hO2
   ·refine WL.move rfl rfl (WL.qa rfl rfl rfl (WL.fieldAddr (fld_43_0) rfl rfl (WL.qa rfl rfl rfl (WL.qd Tryz.isAgg3 hb_1 rfl rfl rfl (WL.qa rfl rfl rfl (?_))))))
    have hz2 : decEr (heldS s (d, (k : Int))) = 0 := h31
    have ht := decU_t hz2
    refine WL.qw rfl rfl (by constructor <;> omega) rfl ?_
    refine WL.qa rfl rfl rfl (WL.move rfl rfl (WL.qa rfl rfl rfl (WL.qk rfl rfl rfl (fun h37 => ?_) (fun h37 => ?_))))
    ·refine WL.qb rfl rfl rfl (WL.t (WC.qb rfl (WC.region (WL.bld rfl (bld_43_0 _) rfl (?_)))))
     refine WL.qf Tryz.sizeOf43 hb_1 rfl rfl (by simp; done) (by simp [Value.oneCell']; done) (by simp [Value.cells]; omega) rfl ?_
     intro w_3 hs_3 hn_3 k_3
     replace hO := hO.chg k_3 (by intro b h1 h2 h3; have h4 : _ = _ := h3; (try dsimp only at h2); exfalso; omega)
     replace h := h.chg k_3 (by intro b h1 h2 h3; have h4 : _ = _ := h3; (try dsimp only at h2); exfalso; omega)
     replace hw := hw.chg k_3 (by intro x h1 h2; have h3 : _ = _ := h2; exfalso; omega)
     replace hb_1 := hn_3
     refine WL.t (WC.region (WL.move rfl rfl (?_)))
     have hb10 := Blk.eqc (cs' := eub.f (slotU s d k)) hb_1 (by
      by_cases hc : decEr (heldS s (d, (k : Int))) = 0 ∧ (decV (heldS s (d, (k : Int)))).t % 8 = k
      ·rw [slotU, if_pos hc]
       first
        |rfl
        |(exfalso; exact h31 hc.1)
        |(exfalso; exact h37 hc.2)
      ·rw [slotU, if_neg hc]
       first
        |rfl
        |(exfalso; exact hc ⟨h31, h37⟩))
     refine WL.qo (eub.f (slotU s d k)) Tryz.isAgg43 Tryz.sizeOf43 rfl (fun j v hj => by rw [Nat.zero_add]; exact hb10.cell hj) rfl rfl ?_
     refine WL.build (e := eub) [slotU s d k] Tryz.underlying121 Tryz.sizeOf43 Tryz.zeroValue43 rfl rfl rfl (by simp [Value.cells] <;> rfl) (by decide) rfl ?_
     intro a_hn1 w_hn1 hn1 l_hn1 z_hn1 k_hn1
     replace hO := hO.pure k_hn1
     replace h := h.pure k_hn1
     replace hw := hw.pure k_hn1
     replace hO := hO.mono (S' := fun x => w.heap.size ≤ x) (fun x hx => hx.1)
     refine WL.append (e := eub) info_43 rfl Tryz.underlying121 rfl rfl hO (hn1.rsl.src Tryz.underlying121) (by (try simp only [List.length_append, List.length_cons, List.length_nil] at *); omega) (by intro b hb; first | (apply hS; omega) | ((try dsimp only); omega)) rfl ?_
     intro a_hO2 c_hO2 w_hO2 hO2 g_hO2 n_hO2
     replace h := h.chg g_hO2.chg (by intros; exfalso; (try dsimp only at *); omega)
     replace hw := hw.chg g_hO2.chg (by intros; exfalso; (try dsimp only at *); omega)
     refine WL.assign rfl rfl (WL.nil (WX.qd (WX.qa (WC.region (WL.move rfl rfl (WL.qe rfl rfl (by omega) rfl (WL.assign rfl rfl (?_))))))))
     refine WL.nil (?_)
     refine WX.qc (k + 1, a_hO2, c_hO2) ⟨rfl, rfl, ?_, rfl, trivial⟩ ⟨by show k + 1 ≤ 8; omega, fun _ => h23, ?_, h, hw⟩ (by show 8 - (k + 1) < 8 - k; omega)
     ·dsimp only; rw [outD_next]; rfl
     ·dsimp only; rw [outD_next]; exact hO2
    ·refine WL.qb rfl rfl rfl (WL.t (WC.qa rfl (WC.skip (WX.qa (WC.region (WL.move rfl rfl (?_)))))))
     have hb10 := Blk.eqc (cs' := eub.f (slotU s d k)) hb_1 (by
      by_cases hc : decEr (heldS s (d, (k : Int))) = 0 ∧ (decV (heldS s (d, (k : Int)))).t % 8 = k
      ·rw [slotU, if_pos hc]
       first
        |rfl
        |(exfalso; exact h31 hc.1)
        |(exfalso; exact h37 hc.2)
      ·rw [slotU, if_neg hc]
       first
        |rfl
        |(exfalso; exact hc ⟨h31, h37⟩))
     refine WL.qo (eub.f (slotU s d k)) Tryz.isAgg43 Tryz.sizeOf43 rfl (fun j v hj => by rw [Nat.zero_add]; exact hb10.cell hj) rfl rfl ?_
     refine WL.build (e := eub) [slotU s d k] Tryz.underlying121 Tryz.sizeOf43 Tryz.zeroValue43 rfl rfl rfl (by simp [Value.cells] <;> rfl) (by decide) rfl ?_
     intro a_hn1 w_hn1 hn1 l_hn1 z_hn1 k_hn1
     replace hO := hO.pure k_hn1
     replace h := h.pure k_hn1
     replace hw := hw.pure k_hn1
     replace hO := hO.mono (S' := fun x => w.heap.size ≤ x) (fun x hx => hx.1)
     refine WL.append (e := eub) info_43 rfl Tryz.underlying121 rfl rfl hO (hn1.rsl.src Tryz.underlying121) (by (try simp only [List.length_append, List.length_cons, List.length_nil] at *); omega) (by intro b hb; first | (apply hS; omega) | ((try dsimp only); omega)) rfl ?_
     intro a_hO2 c_hO2 w_hO2 hO2 g_hO2 n_hO2
     replace h := h.chg g_hO2.chg (by intros; exfalso; (try dsimp only at *); omega)
     replace hw := hw.chg g_hO2.chg (by intros; exfalso; (try dsimp only at *); omega)
     refine WL.assign rfl rfl (WL.nil (WX.qd (WX.qa (WC.region (WL.move rfl rfl (WL.qe rfl rfl (by omega) rfl (WL.assign rfl rfl (?_))))))))
     refine WL.nil (?_)
     refine WX.qc (k + 1, a_hO2, c_hO2) ⟨rfl, rfl, ?_, rfl, trivial⟩ ⟨by show k + 1 ≤ 8; omega, fun _ => h23, ?_, h, hw⟩ (by show 8 - (k + 1) < 8 - k; omega)
     ·dsimp only; rw [outD_next]; rfl
     ·dsimp only; rw [outD_next]; exact hO2
 ·refine WL.t (WC.qa rfl (WC.exit (WX.qe (WX.qe (WX.qh (WX.qa (WC.sr (WL.move rfl rfl (WL.assign rfl rfl (WL.assign rfl rfl (WL.t (WC.ret (WX.qi (.inl rfl) Tryz.results68 rfl rfl ?_)))))))))))))
  first
   |(have hz : errD s d ≠ 0 := h23
     have hl : wholeL s d = [] := by rw [wholeL, if_neg hz]
     rw [hl]
     exact ⟨_, rfl, ⟨none, 0, rfl, Row.nil _ _ _ _⟩, hw⟩)
   |(have hk8 : k = 8 := by omega
     subst hk8
     have h0 := hE (by omega)
     have hl : wholeL s d = outD s d 8 := by rw [wholeL, if_pos h0, outD_8]
     rw [hl, h0]
     exact ⟨_, rfl, ⟨ao, cp, rfl, hO.mono (fun x hx => hx.1)⟩, hw⟩)
end Go.Proofs.YtjeldcjchipdgaaGreatDoor
namespace Go.Proofs.YtjeldcjchipdgaaGreatDoor
open Go.RowKit Go.HL
set_option maxRecDepth 100000
set_option maxHeartbeats 2000000 in
theorem docSlots_calls {A : Nat → Prop} {w : World} {D : Nat} {s : RA} (h : RD A w D s) (hn : s.waits.length ≤ 1000000) (d : Int) :
 Calls Tryz.prog 30 [ptr D, vi d].toArray w (Ret fun v w' => (∃ (ao : Option Addr) (c : Nat), v = .tuple #[.slice ao (slL s d).length c, vi (slE s d)] ∧ Row (w.heap.size ≤ ·) w' 3 ei ao c (slL s d)) ∧ Chg Nob w w') := by
 have hw := Chg.refl Nob w
 replace h : RD (fun x => x < w.heap.size) w D s := h.old.mono (fun x hx => hx.2)
 refine Calls.of_WC Tryz.func30 rfl Tryz.ntmps30 (by simp) ?_
 refine WC.sr (WL.assign rfl rfl (WL.assign rfl rfl (WL.t (WC.seq (WC.seq (WC.region (WL.move rfl rfl (WL.call eg_50 rfl rfl (dright_calls h) ?_))))))))
 rintro v w1 ⟨rfl, k1⟩
 have zs_k1 := k1.size
 replace h := h.pure k1
 replace hw := hw.pure k1
 by_cases h12 : 8 < s.sn
 ·rw [decide_eq_true h12]
  refine WL.not rfl rfl (WL.move rfl rfl (WL.qa rfl rfl rfl (WL.move rfl rfl (WL.qa rfl rfl rfl (WL.move rfl rfl (WL.qa rfl rfl rfl (WL.call eg_56 rfl rfl (dIs_calls h d) ?_)))))))
  rintro v w1 ⟨rfl, k1⟩
  have zs_k1 := k1.size
  replace h := h.pure k1
  replace hw := hw.pure k1
  by_cases h16 : isS s d
  ·rw [decide_eq_true h16]
   refine WL.qa rfl rfl rfl (WL.not rfl rfl (WL.qb rfl rfl rfl (WL.t (WC.qa rfl (WC.skip (WX.qa (WC.sr (WL.move rfl rfl (WL.move rfl rfl (WL.call eg_68 rfl rfl (docWhole_calls h hn h16 h12) ?_))))))))))
   rintro v w5 ⟨⟨ao, c, rfl, hq⟩, k5⟩
   obtain ⟨L, eL⟩ : ∃ L, L = wholeL s d := ⟨_, rfl⟩
   have hLl : L.length ≤ 8 := by rw [eL, wholeL]; split; rw [outK_len]; omega; simp
   rw [← eL] at hq ⊢
   have zs_k5 := k5.size
   replace h := h.pure k5
   replace hw := hw.pure k5
   replace hq := hq.lt
   refine WL.move rfl rfl (WL.extract rfl rfl rfl (WL.extract rfl rfl rfl (WL.assign rfl rfl (WL.assign rfl rfl (WL.t (WC.seq (WC.sr (WL.move rfl rfl (WL.qk rfl rfl rfl (fun h26 => ?_) (fun h26 => ?_))))))))))
   ·refine WL.t (WC.qb rfl (WC.sr (WL.move rfl rfl (WL.assign rfl rfl (WL.assign rfl rfl (WL.t (WC.ret (WX.qb (WX.qi (.inl rfl) Tryz.results30 rfl rfl ?_)))))))))
    first
     |(have hz : isS s d := h16
       have e1 : slE s d = errD s d := by rw [slE, if_pos ⟨h12, hz.1, hz.2⟩]
       first
        |(have hz2 : errD s d ≠ 0 := h26
          have e2 : slL s d = [] := by rw [slL, if_neg (by rw [e1]; exact hz2)]
          rw [e1, e2]
          exact ⟨_, rfl, ⟨none, 0, rfl, Row.nil _ _ _ _⟩, hw⟩)
        |(have hz2 : errD s d = 0 := h26
          have hjl : j = L.length := by omega
          have e2 : slL s d = (L.take j).map (·.t) := by rw [slL, if_pos (e1.trans hz2), hjl, List.take_length, eL]
          rw [e1, e2, hz2]
          exact ⟨_, rfl, ⟨a8, c8, rfl, h8.mono (fun x hx => by omega)⟩, hw⟩))
     |(have e1 : slE s d = 1 := by
        rw [slE, if_neg]
        rintro ⟨g1, g2, g3⟩
        first
         |exact h12 g1
         |exact h16 ⟨g2, g3⟩
       have e2 : slL s d = [] := by rw [slL, if_neg (by rw [e1]; decide)]
       rw [e1, e2]
       exact ⟨_, rfl, ⟨none, 0, rfl, Row.nil _ _ _ _⟩, hw⟩)
   ·refine WL.t (WC.qa rfl (WC.skip (WX.qa (WC.sr (WL.assign rfl rfl (WL.t (WC.seq (WC.sr (WL.assign rfl rfl (WL.t (WC.block (?_))))))))))))
    obtain ⟨n5, en5⟩ : ∃ n5, n5 = w5.heap.size := ⟨_, rfl⟩
    refine WC.loop (σ := Nat × Option Addr × Nat) (fun q => [(0, ptr D), (1, vi d), (6, .slice ao L.length c), (8, .slice q.2.1 ((L.take q.1).map (·.t)).length q.2.2), (9, vi (q.1 : Int))])
     (fun q w' => q.1 ≤ L.length ∧ Row (fun x => w.heap.size ≤ x ∧ x < n5) w' 43 eub ao c L ∧ n5 ≤ w'.heap.size ∧ Row (fun x => n5 ≤ x) w' 3 ei q.2.1 q.2.2 ((L.take q.1).map (·.t)) ∧ Chg Nob w w') (fun q => L.length - q.1) (0, none, 0) ⟨rfl, rfl, rfl, rfl, rfl, trivial⟩
     ⟨Nat.zero_le _, hq.mono (fun x hx => by omega), by omega, Row.nil _ _ _ _, hw⟩ ?_
    clear hq h hw
    rintro ⟨j, a8, c8⟩ w6 ⟨hj, hq, hn5, h8, hw⟩
    dsimp only at hj hq hn5 h8 hw ⊢
    replace h8 := h8.lt
    have hml : ((L.take j).map (·.t)).length = j := by rw [List.length_map, List.length_take]; omega
    refine WC.seq (WC.sr (WL.move rfl rfl (WL.move rfl rfl (WL.len Tryz.underlying121 rfl rfl (WL.qi rfl rfl rfl (fun h31 => ?_) (fun h31 => ?_))))))
    ·refine WL.t (WC.qb rfl (WC.skip (WX.qa (WC.seq (WC.block (WC.region (WL.move rfl rfl (WL.move rfl rfl (WL.move rfl rfl (?_))))))))))
     obtain ⟨u, hu⟩ : ∃ u, L[j]? = some u := ⟨_, List.getElem?_eq_getElem (by omega)⟩
     refine WL.qg Tryz.underlying121 Tryz.sizeOf43 hq.rsl rfl rfl ⟨hu, rfl⟩ rfl ?_
     intro b_1 o_1 hc_1
     refine WL.fieldAddr (fld_43_0) rfl rfl (WL.load Tryz.isAgg3 rfl (hc_1 _ _ rfl) rfl (?_))
     refine WL.build (e := ei) [u.t] Tryz.underlying32 Tryz.sizeOf3 Tryz.zeroValue3 rfl rfl rfl (by simp [Value.cells] <;> rfl) (by decide) rfl ?_
     intro a_hn1 w_hn1 hn1 l_hn1 z_hn1 k_hn1
     replace hq := hq.pure k_hn1
     replace h8 := h8.pure k_hn1
     replace hw := hw.pure k_hn1
     replace h8 := h8.mono (S' := fun x => n5 ≤ x) (fun x hx => hx.1)
     refine WL.append (e := ei) info_3 rfl Tryz.underlying32 rfl rfl h8 (hn1.rsl.src Tryz.underlying32) (by (try simp only [List.length_append, List.length_cons, List.length_nil] at *); omega) (by intro b hb; first | (apply hS; omega) | ((try dsimp only); omega)) rfl ?_
     intro a_hq9 c_hq9 w_hq9 hq9 g_hq9 n_hq9
     have z_hq9 := g_hq9.chg.size
     replace hq := hq.chg g_hq9.chg (by intros; exfalso; (try dsimp only at *); omega)
     replace hw := hw.chg g_hq9.chg (by intros; exfalso; (try dsimp only at *); omega)
     refine WL.assign rfl rfl (WL.nil (WX.qd (WX.qa (WC.region (WL.move rfl rfl (WL.qe rfl rfl (by omega) rfl (WL.assign rfl rfl (?_))))))))
     refine WL.nil (?_)
     have e1 : (L.take (j + 1)).map (·.t) = (L.take j).map (·.t) ++ [u.t] := by
      rw [List.take_add_one, hu, List.map_append]
      rfl
     refine WX.qc (j + 1, a_hq9, c_hq9) ⟨rfl, rfl, rfl, ?_, rfl, trivial⟩ ⟨by dsimp only; omega, hq, by omega, ?_, hw⟩ (by show _ - _ < _ - _; omega)
     ·dsimp only; rw [e1]; rfl
     ·dsimp only; rw [e1]; exact hq9
    ·refine WL.t (WC.qa rfl (WC.exit (WX.qe (WX.qe (WX.qh (WX.qa (WC.sr (WL.move rfl rfl (WL.assign rfl rfl (WL.assign rfl rfl (WL.t (WC.ret (WX.qi (.inl rfl) Tryz.results30 rfl rfl ?_)))))))))))))
     first
      |(have hz : isS s d := h16
        have e1 : slE s d = errD s d := by rw [slE, if_pos ⟨h12, hz.1, hz.2⟩]
        first
         |(have hz2 : errD s d ≠ 0 := h26
           have e2 : slL s d = [] := by rw [slL, if_neg (by rw [e1]; exact hz2)]
           rw [e1, e2]
           exact ⟨_, rfl, ⟨none, 0, rfl, Row.nil _ _ _ _⟩, hw⟩)
         |(have hz2 : errD s d = 0 := h26
           have hjl : j = L.length := by omega
           have e2 : slL s d = (L.take j).map (·.t) := by rw [slL, if_pos (e1.trans hz2), hjl, List.take_length, eL]
           rw [e1, e2, hz2]
           exact ⟨_, rfl, ⟨a8, c8, rfl, h8.mono (fun x hx => by omega)⟩, hw⟩))
      |(have e1 : slE s d = 1 := by
         rw [slE, if_neg]
         rintro ⟨g1, g2, g3⟩
         first
          |exact h12 g1
          |exact h16 ⟨g2, g3⟩
        have e2 : slL s d = [] := by rw [slL, if_neg (by rw [e1]; decide)]
        rw [e1, e2]
        exact ⟨_, rfl, ⟨none, 0, rfl, Row.nil _ _ _ _⟩, hw⟩)
  ·rw [decide_eq_false h16]
   refine WL.qa rfl rfl rfl (WL.not rfl rfl (WL.qb rfl rfl rfl (WL.t (WC.qb rfl (WC.sr (WL.assign rfl rfl (WL.assign rfl rfl (WL.t (WC.ret (WX.qb (WX.qi (.inl rfl) Tryz.results30 rfl rfl ?_)))))))))))
   first
    |(have hz : isS s d := h16
      have e1 : slE s d = errD s d := by rw [slE, if_pos ⟨h12, hz.1, hz.2⟩]
      first
       |(have hz2 : errD s d ≠ 0 := h26
         have e2 : slL s d = [] := by rw [slL, if_neg (by rw [e1]; exact hz2)]
         rw [e1, e2]
         exact ⟨_, rfl, ⟨none, 0, rfl, Row.nil _ _ _ _⟩, hw⟩)
       |(have hz2 : errD s d = 0 := h26
         have hjl : j = L.length := by omega
         have e2 : slL s d = (L.take j).map (·.t) := by rw [slL, if_pos (e1.trans hz2), hjl, List.take_length, eL]
         rw [e1, e2, hz2]
         exact ⟨_, rfl, ⟨a8, c8, rfl, h8.mono (fun x hx => by omega)⟩, hw⟩))
    |(have e1 : slE s d = 1 := by
       rw [slE, if_neg]
       rintro ⟨g1, g2, g3⟩
       first
        |exact h12 g1
        |exact h16 ⟨g2, g3⟩
      have e2 : slL s d = [] := by rw [slL, if_neg (by rw [e1]; decide)]
      rw [e1, e2]
      exact ⟨_, rfl, ⟨none, 0, rfl, Row.nil _ _ _ _⟩, hw⟩)
 ·rw [decide_eq_false h12]
  refine WL.not rfl rfl (WL.move rfl rfl (WL.pass rfl rfl rfl rfl (WL.pass rfl rfl rfl rfl (WL.pass rfl rfl rfl rfl (WL.pass rfl rfl rfl rfl (WL.qc rfl rfl rfl (WL.nil (WX.qa (WC.qb rfl (WC.sr (WL.assign rfl rfl (WL.assign rfl rfl (WL.t (WC.ret (WX.qb (WX.qi (.inl rfl) Tryz.results30 rfl rfl ?_))))))))))))))))
  first
   |(have hz : isS s d := h16
     have e1 : slE s d = errD s d := by rw [slE, if_pos ⟨h12, hz.1, hz.2⟩]
     first
      |(have hz2 : errD s d ≠ 0 := h26
        have e2 : slL s d = [] := by rw [slL, if_neg (by rw [e1]; exact hz2)]
        rw [e1, e2]
        exact ⟨_, rfl, ⟨none, 0, rfl, Row.nil _ _ _ _⟩, hw⟩)
      |(have hz2 : errD s d = 0 := h26
        have hjl : j = L.length := by omega
        have e2 : slL s d = (L.take j).map (·.t) := by rw [slL, if_pos (e1.trans hz2), hjl, List.take_length, eL]
        rw [e1, e2, hz2]
        exact ⟨_, rfl, ⟨a8, c8, rfl, h8.mono (fun x hx => by omega)⟩, hw⟩))
   |(have e1 : slE s d = 1 := by
      rw [slE, if_neg]
      rintro ⟨g1, g2, g3⟩
      first
       |exact h12 g1
       |exact h16 ⟨g2, g3⟩
     have e2 : slL s d = [] := by rw [slL, if_neg (by rw [e1]; decide)]
     rw [e1, e2]
     exact ⟨_, rfl, ⟨none, 0, rfl, Row.nil _ _ _ _⟩, hw⟩)
set_option maxHeartbeats 2000000 in
theorem docNewest8_calls {A : Nat → Prop} {w : World} {D : Nat} {s : RA} (h : RD A w D s) (hn : s.waits.length ≤ 1000000) :
 Calls Tryz.prog 27 [ptr D].toArray w (Ret fun v w' => v = .tuple #[.agg (eub.f (nwU s)).toArray, vi (nwE s)] ∧ Chg Nob w w') := by
 have hw := Chg.refl Nob w
 have hdn := h.ok.dn
 replace h : RD (fun x => x < w.heap.size) w D s := h.old.mono (fun x hx => hx.2)
 refine Calls.of_WC Tryz.func27 rfl Tryz.ntmps27 (by simp) ?_
 refine WC.sr (WL.alloc Tryz.zeroValue43 rfl ?_)
 intro g_1 w_1 hge_1 hlt_1 hb_1 k_1
 have zs_k_1 := k_1.size
 replace h := h.pure k_1
 replace hw := hw.pure k_1
 refine WL.assign rfl rfl (WL.t (WC.seq (WC.sr (WL.move rfl rfl (WL.call eg_50 rfl rfl (dright_calls h) ?_)))))
 rintro v w1 ⟨rfl, k1⟩
 have zs_k1 := k1.size
 replace h := h.pure k1
 replace hw := hw.pure k1
 replace hb_1 := hb_1.pure k1
 by_cases h12 : 8 < s.sn
 ·rw [decide_eq_true h12]
  refine WL.not rfl rfl (WL.t (WC.qa rfl (WC.skip (WX.qa (WC.sr (WL.bld rfl (bld_43_z) rfl (WL.alloc Tryz.zeroValue43 rfl ?_)))))))
  intro g_2 w_2 hge_2 hlt_2 hb_2 k_2
  replace h := h.pure k_2
  replace hw := hw.pure k_2
  replace hb_1 := hb_1.pure k_2
  refine WL.qf Tryz.sizeOf43 hb_2 rfl rfl (by simp; done) (by simp [Value.oneCell']; done) (by simp [Value.cells]; done) rfl ?_
  intro w_3 hs_3 hn_3 k_3
  replace h := h.chg k_3 (by intro b h1 h2 h3; have h4 : _ = _ := h3; (try dsimp only at h2); exfalso; omega)
  replace hw := hw.chg k_3 (by intro x h1 h2; have h3 : _ = _ := h2; exfalso; omega)
  replace hb_1 := hb_1.chg k_3 (by intro h1; have h2 : _ = _ := h1; exfalso; omega)
  replace hb_2 := hn_3
  refine WL.t (WC.seq (WC.sr (WL.assign rfl rfl (WL.t (WC.block (?_))))))
  have hb1 := Blk.eqc (cs' := eub.f zeroU) hb_1 rfl
  have hb2 := Blk.eqc (cs' := eub.f zeroU) hb_2 rfl
  refine WC.loop (σ := Nat) (fun k => [(0, ptr D), (2, ptr g_1), (4, ptr g_2), (5, vi (k : Int))])
   (fun k w' => k ≤ s.dn ∧ (∀ d, d < k → errD s (d : Nat) ≠ 16) ∧ Blk w' g_1 43 (eub.f zeroU) ∧ Blk w' g_2 43 (eub.f (bestR s k)) ∧ RD (fun x => x < w.heap.size) w' D s ∧ Chg Nob w w') (fun k => s.dn - k) 0 ⟨rfl, rfl, rfl, rfl, trivial⟩
   ⟨Nat.zero_le _, fun d hd => absurd hd (Nat.not_lt_zero d), hb1, hb2, h, hw⟩ ?_
  have hg12 : w.heap.size ≤ g_1 ∧ g_1 < g_2 := by omega
  clear hb1 hb2 hb_1 hb_2 h hw
  rintro k w3 ⟨hk, hE, hb1, hb2, h, hw⟩
  have lg2 := hb2.lt
  obtain ⟨la, lc, ls, ga, gc, wa, wc, hB, hI⟩ := h.ex
  refine WC.seq (WC.sr (WL.move rfl rfl (WL.move rfl rfl (WL.nilCheck rfl rfl (WL.fieldAddr (fld_87_0) rfl rfl (WL.qd Tryz.isAgg83 hB rfl rfl rfl (WL.len Tryz.underlying83 rfl rfl (WL.qi rfl rfl rfl (fun h20 => ?_) (fun h20 => ?_)))))))))
  ·refine WL.t (WC.qb rfl (WC.skip (WX.qa (WC.seq (WC.block (WC.seq (WC.region (WL.move rfl rfl (WL.move rfl rfl (?_))))))))))
   have hsd : isS s (k : Int) := ⟨by omega, by omega⟩
   refine WL.call eg_68 rfl rfl (docWhole_calls h hn hsd h12) ?_
   rintro v w5 ⟨⟨ao, c, rfl, hq⟩, k5⟩
   obtain ⟨L, eL⟩ : ∃ L, L = wholeL s k := ⟨_, rfl⟩
   have hLl : L.length ≤ 8 := by rw [eL, wholeL]; split; rw [outK_len]; omega; simp
   rw [← eL] at hq ⊢
   replace hb1 := hb1.pure k5
   replace hb2 := hb2.pure k5
   replace h := h.pure k5
   replace hw := hw.pure k5
   replace hq := hq.lt
   refine WL.move rfl rfl (WL.extract rfl rfl rfl (WL.extract rfl rfl rfl (WL.assign rfl rfl (WL.assign rfl rfl (WL.t (WC.seq (WC.sr (WL.move rfl rfl (WL.qj rfl rfl rfl (fun h30 => ?_) (fun h30 => ?_))))))))))
   ·refine WL.t (WC.qb rfl (WC.sr (WL.bld rfl (bld_43_z) rfl (WL.move rfl rfl (?_)))))
    refine WL.qf Tryz.sizeOf43 hb1 rfl rfl (by simp; done) (by simp [Value.oneCell']; done) (by exact Nat.le_of_ble_eq_true rfl) rfl ?_
    intro w_4 hs_4 hn_4 k_4
    replace hw := hw.chg k_4 (by intro x h1 h2; have h3 : _ = _ := h2; exfalso; omega)
    replace hb1 := hn_4
    refine WL.assign rfl rfl (WL.t (WC.ret (WX.qb (WX.qf (WX.qb (WX.qb (WX.qf (WX.qb (WX.qj (.inl rfl) Tryz.results27 Tryz.isAgg43 Tryz.sizeOf43 hb1 rfl (by rfl) rfl ?_)))))))))
    first
     |(have hz : ¬ 8 < s.sn := h12
       obtain ⟨e1, e2⟩ := nw_right hz
       rw [e1, e2]
       exact ⟨_, rfl, rfl, hw⟩)
     |(have hz : errD s k = 16 := h30
       obtain ⟨e1, e2⟩ := nw_down h12 (d := k) (by omega) hz
       rw [e1, e2]
       refine ⟨_, rfl, ?_, hw⟩
       rw [← hz]
       rfl)
     |(have hkd : k = s.dn := by omega
       subst hkd
       have hno := down_no hE
       by_cases hc : (bestR s s.dn).t = 0
       ·obtain ⟨e1, e2⟩ := nw_none h12 hno hc
        rw [e1, e2]
        first
         |exact ⟨_, rfl, rfl, hw⟩
         |(exfalso; omega)
       ·obtain ⟨e1, e2⟩ := nw_some h12 hno hc
        rw [e1, e2]
        first
         |exact ⟨_, rfl, rfl, hw⟩
         |(exfalso; omega))
   ·refine WL.t (WC.qa rfl (WC.skip (WX.qa (WC.sr (WL.assign rfl rfl (WL.t (WC.block (?_))))))))
    obtain ⟨n5, en5⟩ : ∃ n5, n5 = w5.heap.size := ⟨_, rfl⟩
    refine WC.loop (σ := Nat) (fun j => [(0, ptr D), (2, ptr g_1), (4, ptr g_2), (5, vi (k : Int)), (6, .slice ao L.length c), (8, vi (j : Int))])
     (fun j w' => j ≤ L.length ∧ Blk w' g_1 43 (eub.f zeroU) ∧ Blk w' g_2 43 (eub.f ((L.take j).foldl better (bestR s k))) ∧ Row (fun x => w3.heap.size ≤ x ∧ x < n5) w' 43 eub ao c L ∧ n5 ≤ w'.heap.size ∧ RD (fun x => x < w.heap.size) w' D s ∧ Chg Nob w w') (fun j => L.length - j) 0 ⟨rfl, rfl, rfl, rfl, rfl, rfl, trivial⟩
     ⟨Nat.zero_le _, hb1, hb2, hq.mono (fun x hx => by omega), by omega, h, hw⟩ ?_
    clear hb1 hb2 hq h hw
    rintro j w6 ⟨hj, hb1, hb2, hq, hn5, h, hw⟩
    refine WC.seq (WC.sr (WL.move rfl rfl (WL.move rfl rfl (WL.len Tryz.underlying121 rfl rfl (WL.qi rfl rfl rfl (fun h36 => ?_) (fun h36 => ?_))))))
    ·refine WL.t (WC.qb rfl (WC.skip (WX.qa (WC.seq (WC.block (WC.seq (?_)))))))
     obtain ⟨u, hu⟩ : ∃ u, L[j]? = some u := ⟨_, List.getElem?_eq_getElem (by omega)⟩
     obtain ⟨b0, o0, rfl⟩ := hq.rsl.place hu
     refine WC.qc (Nob) [0, 1, 2, 3, 4, 5, 6, 7] [] mixed rfl rfl (fun wd_4 kd_4 zd_4 => ?_)
     replace hb1 := hb1.pure kd_4
     replace hb2 := hb2.pure kd_4
     replace hq := hq.pure kd_4
     replace h := h.pure kd_4
     replace hw := hw.pure kd_4
     apply DQ.step [(6, _)] rfl ⟨rfl, trivial⟩ rfl (fun _ _ => WL.move rfl rfl  WL.q)
     apply DQ.step [(8, _)] rfl ⟨rfl, trivial⟩ rfl (fun _ _ => WL.move rfl rfl  WL.q)
     apply DQ.step [(39, _), (40, _)] rfl ⟨rfl, rfl, trivial⟩ rfl
     ·intro wq_7 kq_7
      replace hq := hq.pure kq_7
      refine WL.qh hq.rsl Tryz.underlying121 Tryz.sizeOf43 rfl rfl ⟨hu, rfl⟩ rfl (WL.q)
     apply DQ.step [(41, _)] rfl ⟨rfl, trivial⟩ rfl (fun _ _ => WL.fieldAddr (fld_43_0) rfl rfl  WL.q)
     apply DQ.step [(42, _)] rfl ⟨rfl, trivial⟩ rfl
     ·intro wq_9 kq_9
      replace hq := hq.pure kq_9
      refine WL.load Tryz.isAgg3 rfl ((hq.rsl.cellsAt hu) _ _ rfl) rfl (WL.q)
     apply DQ.step [(4, _)] rfl ⟨rfl, trivial⟩ rfl (fun _ _ => WL.fieldAddr (fld_43_0) rfl rfl  WL.q)
     apply DQ.step [(44, _)] rfl ⟨rfl, trivial⟩ rfl
     ·intro wq_11 kq_11
      replace hb2 := hb2.pure kq_11
      refine WL.qd Tryz.isAgg3 hb2 rfl rfl rfl (WL.q)
     apply DQ.split (E' := [(43, _), (45, _)])
     case ho => rfl
     case hs => exact ⟨rfl, rfl, trivial⟩
     case hk => rfl
     case h1 =>
      intro wq_12 kq_12
      refine WL.gtr rfl rfl rfl (WL.q)
     case ht =>
      intro h46
      replace h46 := of_decide_eq_true h46
      refine DQ.done (fun _ => ?_)
      refine DL.done (fun we_13 ke_13 => ?_)
      have zs_ke_13 := ke_13.size
      replace hb1 := hb1.pure ke_13
      replace hb2 := hb2.pure ke_13
      replace hq := hq.pure ke_13
      replace h := h.pure ke_13
      replace hw := hw.pure ke_13
      refine WX.qa (WC.qb rfl (WC.region (WL.move rfl rfl (WL.move rfl rfl (WL.qg Tryz.underlying121 Tryz.sizeOf43 hq.rsl rfl rfl ⟨hu, rfl⟩ rfl ?_)))))
      intro b_14 o_14 hc_14
      refine WL.qo _ Tryz.isAgg43 Tryz.sizeOf43 rfl hc_14 rfl rfl (WL.qf Tryz.sizeOf43 hb2 rfl rfl (by rfl) (by exact Enc.one _ _) (by exact Nat.le_of_ble_eq_true rfl) rfl ?_)
      intro w_15 hs_15 hn_15 k_15
      replace hb1 := hb1.chg k_15 (by intro h1; have h2 : _ = _ := h1; exfalso; omega)
      replace hq := hq.chg k_15 (by intro b h1 h2 h3; have h4 : _ = _ := h3; (try dsimp only at h2); exfalso; omega)
      replace h := h.chg k_15 (by intro b h1 h2 h3; have h4 : _ = _ := h3; (try dsimp only at h2); exfalso; omega)
      replace hw := hw.chg k_15 (by intro x h1 h2; have h3 : _ = _ := h2; exfalso; omega)
      replace hb2 := hn_15
      refine WL.nil (WX.qd (WX.qa (WC.region (WL.move rfl rfl (WL.qe rfl rfl (by omega) rfl (WL.assign rfl rfl (WL.nil (?_))))))))
      first
       |(have hz : (List.foldl better (bestR s k) (List.take j L)).t < u.t := by assumption
         have e1 := fold_take L (bestR s k) hu
         have hb2' := Blk.eqc (cs' := eub.f ((L.take (j + 1)).foldl better (bestR s k))) hb2 (by rw [e1, better, if_pos hz]; rfl)
         exact WX.qc (j + 1) ⟨rfl, rfl, rfl, rfl, rfl, rfl, trivial⟩ ⟨by omega, hb1, hb2', hq, by omega, h, hw⟩ (by show _ - _ < _ - _; omega))
       |(have hz : ¬ (List.foldl better (bestR s k) (List.take j L)).t < u.t := by first | assumption | omega
         have e1 := fold_take L (bestR s k) hu
         have hb2' := Blk.eqc (cs' := eub.f ((L.take (j + 1)).foldl better (bestR s k))) hb2 (by rw [e1, better, if_neg hz])
         exact WX.qc (j + 1) ⟨rfl, rfl, rfl, rfl, rfl, rfl, trivial⟩ ⟨by omega, hb1, hb2', hq, by omega, h, hw⟩ (by show _ - _ < _ - _; omega))
       |(have hjl : L.take j = L := List.take_of_length_le (by omega)
         have hz2 : errD s k ≠ 16 := h30
         have hb2' := Blk.eqc (cs' := eub.f (bestR s (k + 1))) hb2 (by rw [bestR, ← eL, hjl])
         refine WX.qc (k + 1) ⟨rfl, rfl, rfl, rfl, trivial⟩ ⟨by omega, fun d hd => ?_, hb1, hb2', h, hw⟩ (by show _ - _ < _ - _; omega)
         rcases Nat.lt_or_ge d k with h9 | h9
         ·exact hE d h9
         ·rw [show d = k from by omega]; exact hz2)
     case hf =>
      intro h46
      replace h46 := of_decide_eq_false h46
      refine DQ.done (fun _ => ?_)
      refine DL.done (fun we_13 ke_13 => ?_)
      have zs_ke_13 := ke_13.size
      replace hb1 := hb1.pure ke_13
      replace hb2 := hb2.pure ke_13
      replace hq := hq.pure ke_13
      replace h := h.pure ke_13
      replace hw := hw.pure ke_13
      refine WX.qa (WC.qa rfl (WC.skip (WX.qd (WX.qa (WC.region (WL.move rfl rfl (WL.qe rfl rfl (by omega) rfl (?_))))))))
      refine WL.assign rfl rfl (WL.nil (?_))
      first
       |(have hz : (List.foldl better (bestR s k) (List.take j L)).t < u.t := by assumption
         have e1 := fold_take L (bestR s k) hu
         have hb2' := Blk.eqc (cs' := eub.f ((L.take (j + 1)).foldl better (bestR s k))) hb2 (by rw [e1, better, if_pos hz]; rfl)
         exact WX.qc (j + 1) ⟨rfl, rfl, rfl, rfl, rfl, rfl, trivial⟩ ⟨by omega, hb1, hb2', hq, by omega, h, hw⟩ (by show _ - _ < _ - _; omega))
       |(have hz : ¬ (List.foldl better (bestR s k) (List.take j L)).t < u.t := by assumption
         have e1 := fold_take L (bestR s k) hu
         have hb2' := Blk.eqc (cs' := eub.f ((L.take (j + 1)).foldl better (bestR s k))) hb2 (by rw [e1, better, if_neg hz])
         exact WX.qc (j + 1) ⟨rfl, rfl, rfl, rfl, rfl, rfl, trivial⟩ ⟨by omega, hb1, hb2', hq, by omega, h, hw⟩ (by show _ - _ < _ - _; omega))
       |(have hjl : L.take j = L := List.take_of_length_le (by omega)
         have hz2 : errD s k ≠ 16 := h30
         have hb2' := Blk.eqc (cs' := eub.f (bestR s (k + 1))) hb2 (by rw [bestR, ← eL, hjl])
         refine WX.qc (k + 1) ⟨rfl, rfl, rfl, rfl, trivial⟩ ⟨by omega, fun d hd => ?_, hb1, hb2', h, hw⟩ (by show _ - _ < _ - _; omega)
         rcases Nat.lt_or_ge d k with h9 | h9
         ·exact hE d h9
         ·rw [show d = k from by omega]; exact hz2)
    ·refine WL.t (WC.qa rfl (WC.exit (WX.qe (WX.qe (WX.qh (WX.qd (WX.qa (WC.region (WL.move rfl rfl (WL.qe rfl rfl (by omega) rfl (WL.assign rfl rfl (WL.nil (?_)))))))))))))
     first
      |(have hz : (List.foldl better (bestR s k) (List.take j L)).t < u.t := by assumption
        have e1 := fold_take L (bestR s k) hu
        have hb2' := Blk.eqc (cs' := eub.f ((L.take (j + 1)).foldl better (bestR s k))) hb2 (by rw [e1, better, if_pos hz]; rfl)
        exact WX.qc (j + 1) ⟨rfl, rfl, rfl, rfl, rfl, rfl, trivial⟩ ⟨by omega, hb1, hb2', hq, by omega, h, hw⟩ (by show _ - _ < _ - _; omega))
      |(have hz : ¬ (List.foldl better (bestR s k) (List.take j L)).t < u.t := by first | assumption | omega
        have e1 := fold_take L (bestR s k) hu
        have hb2' := Blk.eqc (cs' := eub.f ((L.take (j + 1)).foldl better (bestR s k))) hb2 (by rw [e1, better, if_neg hz])
        exact WX.qc (j + 1) ⟨rfl, rfl, rfl, rfl, rfl, rfl, trivial⟩ ⟨by omega, hb1, hb2', hq, by omega, h, hw⟩ (by show _ - _ < _ - _; omega))
      |(have hjl : L.take j = L := List.take_of_length_le (by omega)
        have hz2 : errD s k ≠ 16 := h30
        have hb2' := Blk.eqc (cs' := eub.f (bestR s (k + 1))) hb2 (by rw [bestR, ← eL, hjl])
        refine WX.qc (k + 1) ⟨rfl, rfl, rfl, rfl, trivial⟩ ⟨by omega, fun d hd => ?_, hb1, hb2', h, hw⟩ (by show _ - _ < _ - _; omega)
        rcases Nat.lt_or_ge d k with h9 | h9
        ·exact hE d h9
        ·rw [show d = k from by omega]; exact hz2)
  ·refine WL.t (WC.qa rfl (WC.exit (WX.qe (WX.qe (WX.qh (WX.qa (WC.seq (WC.sr (WL.fieldAddr (fld_43_0) rfl rfl (WL.qd Tryz.isAgg3 hb2 rfl rfl rfl (WL.qj rfl rfl rfl (fun h53 => ?_) (fun h53 => ?_))))))))))))
   ·refine WL.t (WC.qb rfl (WC.sr (WL.bld rfl (bld_43_z) rfl (?_))))
    refine WL.qf Tryz.sizeOf43 hb1 rfl rfl (by simp; done) (by simp [Value.oneCell']; done) (by exact Nat.le_of_ble_eq_true rfl) rfl ?_
    intro w_4 hs_4 hn_4 k_4
    replace hb2 := hb2.chg k_4 (by intro h1; have h2 : _ = _ := h1; exfalso; omega)
    replace hw := hw.chg k_4 (by intro x h1 h2; have h3 : _ = _ := h2; exfalso; omega)
    replace hb1 := hn_4
    refine WL.assign rfl rfl (WL.t (WC.ret (WX.qb (WX.qj (.inl rfl) Tryz.results27 Tryz.isAgg43 Tryz.sizeOf43 hb1 rfl (by rfl) rfl ?_))))
    first
     |(have hz : ¬ 8 < s.sn := h12
       obtain ⟨e1, e2⟩ := nw_right hz
       rw [e1, e2]
       exact ⟨_, rfl, rfl, hw⟩)
     |(have hz : errD s k = 16 := h30
       obtain ⟨e1, e2⟩ := nw_down h12 (d := k) (by omega) hz
       rw [e1, e2]
       refine ⟨_, rfl, ?_, hw⟩
       rw [← hz]
       rfl)
     |(have hkd : k = s.dn := by omega
       subst hkd
       have hno := down_no hE
       by_cases hc : (bestR s s.dn).t = 0
       ·obtain ⟨e1, e2⟩ := nw_none h12 hno hc
        rw [e1, e2]
        first
         |exact ⟨_, rfl, rfl, hw⟩
         |(exfalso; omega)
       ·obtain ⟨e1, e2⟩ := nw_some h12 hno hc
        rw [e1, e2]
        first
         |exact ⟨_, rfl, rfl, hw⟩
         |(exfalso; omega))
   ·refine WL.t (WC.qa rfl (WC.skip (WX.qa (WC.sr (WL.qq Tryz.isAgg43 Tryz.sizeOf43 hb2 rfl (by rfl) rfl (?_))))))
    refine WL.qf Tryz.sizeOf43 hb1 rfl rfl (by rfl) (by exact Enc.one _ _) (by exact Nat.le_of_ble_eq_true rfl) rfl ?_
    intro w_4 hs_4 hn_4 k_4
    replace hb2 := hb2.chg k_4 (by intro h1; have h2 : _ = _ := h1; exfalso; omega)
    replace hw := hw.chg k_4 (by intro x h1 h2; have h3 : _ = _ := h2; exfalso; omega)
    replace hb1 := hn_4
    refine WL.assign rfl rfl (WL.t (WC.ret (WX.qj (.inl rfl) Tryz.results27 Tryz.isAgg43 Tryz.sizeOf43 hb1 rfl (by rfl) rfl ?_)))
    first
     |(have hz : ¬ 8 < s.sn := h12
       obtain ⟨e1, e2⟩ := nw_right hz
       rw [e1, e2]
       exact ⟨_, rfl, rfl, hw⟩)
     |(have hz : errD s k = 16 := h30
       obtain ⟨e1, e2⟩ := nw_down h12 (d := k) (by omega) hz
       rw [e1, e2]
       refine ⟨_, rfl, ?_, hw⟩
       rw [← hz]
       rfl)
     |(have hkd : k = s.dn := by omega
       subst hkd
       have hno := down_no hE
       by_cases hc : (bestR s s.dn).t = 0
       ·obtain ⟨e1, e2⟩ := nw_none h12 hno hc
        rw [e1, e2]
        first
         |exact ⟨_, rfl, rfl, hw⟩
         |(exfalso; omega)
       ·obtain ⟨e1, e2⟩ := nw_some h12 hno hc
        rw [e1, e2]
        first
         |exact ⟨_, rfl, rfl, hw⟩
         |(exfalso; omega))
 ·rw [decide_eq_false h12]
  refine WL.not rfl rfl (WL.t (WC.qb rfl (WC.sr (WL.bld rfl (bld_43_z) rfl (?_)))))
  refine WL.qf Tryz.sizeOf43 hb_1 rfl rfl (by simp; done) (by simp [Value.oneCell']; done) (by simp [Value.cells]; done) rfl ?_
  intro w_2 hs_2 hn_2 k_2
  replace hw := hw.chg k_2 (by intro x h1 h2; have h3 : _ = _ := h2; exfalso; omega)
  replace hb_1 := hn_2
  refine WL.assign rfl rfl (WL.t (WC.ret (WX.qb (WX.qj (.inl rfl) Tryz.results27 Tryz.isAgg43 Tryz.sizeOf43 hb_1 rfl (by rfl) rfl ?_))))
  first
   |(have hz : ¬ 8 < s.sn := h12
     obtain ⟨e1, e2⟩ := nw_right hz
     rw [e1, e2]
     exact ⟨_, rfl, rfl, hw⟩)
   |(have hz : errD s k = 16 := h30
     obtain ⟨e1, e2⟩ := nw_down h12 (d := k) (by omega) hz
     rw [e1, e2]
     refine ⟨_, rfl, ?_, hw⟩
     rw [← hz]
     rfl)
   |(have hkd : k = s.dn := by omega
     subst hkd
     have hno := down_no hE
     by_cases hc : (bestR s s.dn).t = 0
     ·obtain ⟨e1, e2⟩ := nw_none h12 hno hc
      rw [e1, e2]
      first
       |exact ⟨_, rfl, rfl, hw⟩
       |(exfalso; omega)
     ·obtain ⟨e1, e2⟩ := nw_some h12 hno hc
      rw [e1, e2]
      first
       |exact ⟨_, rfl, rfl, hw⟩
       |(exfalso; omega))
end Go.Proofs.YtjeldcjchipdgaaGreatDoor
namespace Go.Proofs.YtjeldcjchipdgaaGreatDoor
open Go.RowKit Go.HL
set_option maxRecDepth 100000
structure OpV where
 kind : Int
 drive : Int
 at_ : Int
 fill : Int
 n : Int
 pao : Option Addr
 pcap : Nat
 picks : List Int
section
variable {S M : Nat → Prop} {w w' : World} {ao : Option Addr} {c : Nat} {l : List OpV}
end
end Go.Proofs.YtjeldcjchipdgaaGreatDoor
namespace Go.Proofs.YtjeldcjchipdgaaGreatDoor
open Go.RowKit Go.HL
set_option maxRecDepth 100000
theorem rotS_dn (s : RA) (p : Pl) (n : Int) : (rotS s p n).dn = s.dn := by unfold rotS; split <;> rfl
theorem rotS_sn (s : RA) (p : Pl) (n : Int) : (rotS s p n).sn = s.sn := by unfold rotS; split <;> rfl
theorem mput_len {K V : Type} [DecidableEq K] {l : List (K × V)} {k : K} {v : V} (h : (mget l k).isSome = true) : (mput l k v).length = l.length := by
 induction l with
 |nil => cases h
 |cons p r ih =>
  obtain ⟨k', u⟩ := p
  simp only [mget] at h
  simp only [mput]
  by_cases e : k = k'
  ·simp [e]
  ·rw [if_neg e] at h
   simp [e, ih h]
theorem rotS_len (s : RA) (p : Pl) (n : Int) : (rotS s p n).waits.length = s.waits.length := by
 unfold rotS
 split
 ·rename_i u h
  show (putW s.waits p _).length = _
  unfold putW
  rw [List.length_reverse, mput_len (by unfold newV at h; rw [h]; rfl), List.length_reverse]
 ·rfl
end Go.Proofs.YtjeldcjchipdgaaGreatDoor
namespace Go.Proofs.YtjeldcjchipdgaaGreatDoor
open Go.RowKit Go.HL
set_option maxRecDepth 100000
structure H2 (L : Nat → Prop) (w : World) (R D : Nat) (A B : Nat → Prop) (s t : RA) : Prop where
 r : RK A w R s
 d : RD B w D t
 a : ∀ x, A x → L x ∧ x < w.heap.size
 b : ∀ x, B x → L x ∧ x < w.heap.size
 ne : ∀ x, A x → B x → False
section
variable {L M : Nat → Prop} {w w' : World} {R D : Nat} {A B : Nat → Prop} {s s' t t' : RA}
theorem H2.pure (h : H2 L w R D A B s t) (k : Chg Nob w w') : H2 L w' R D A B s t := by
 have z := k.size
 exact ⟨h.r.pure k, h.d.pure k, fun x hx => ⟨(h.a x hx).1, by have := (h.a x hx).2; omega⟩, fun x hx => ⟨(h.b x hx).1, by have := (h.b x hx).2; omega⟩, h.ne⟩
theorem H2.chg (h : H2 L w R D A B s t) (k : Chg M w w') (hd : ∀ x, A x ∨ B x → M x → False) : H2 L w' R D A B s t := by
 have z := k.size
 exact ⟨h.r.chg k (fun b _ h1 h2 => hd b (.inl h1) h2), h.d.chg k (fun b _ h1 h2 => hd b (.inr h1) h2), fun x hx => ⟨(h.a x hx).1, by have := (h.a x hx).2; omega⟩, fun x hx => ⟨(h.b x hx).1, by have := (h.b x hx).2; omega⟩, h.ne⟩
theorem H2.mono {L' : Nat → Prop} (h : H2 L w R D A B s t) (k : ∀ x, L x → x < w.heap.size → L' x) : H2 L' w R D A B s t :=
 ⟨h.r, h.d, fun x hx => ⟨k x (h.a x hx).1 (h.a x hx).2, (h.a x hx).2⟩, fun x hx => ⟨k x (h.b x hx).1 (h.b x hx).2, (h.b x hx).2⟩, h.ne⟩
theorem H2.left (h : H2 L w R D A B s t) (hL : ∀ x, w.heap.size ≤ x → L x) (hR : RK (fun x => A x ∨ w.heap.size ≤ x) w' R s') (k : Chg A w w') : H2 L w' R D (fun x => (A x ∨ w.heap.size ≤ x) ∧ x < w'.heap.size) B s' t := by
 have z := k.size
 refine ⟨hR.old, h.d.chg k (fun b _ h1 h2 => h.ne b h2 h1), fun x hx => ⟨hx.1.elim (fun h1 => (h.a x h1).1) (hL x), hx.2⟩, fun x hx => ⟨(h.b x hx).1, by have := (h.b x hx).2; omega⟩, fun x h1 h2 => ?_⟩
 rcases h1.1 with h3 | h3
 ·exact h.ne x h3 h2
 ·have := (h.b x h2).2
  omega
theorem H2.left0 (h : H2 L w R D A B s t) (hL : ∀ x, w.heap.size ≤ x → L x) (hR : RK A w' R s') (k : Chg A w w') : H2 L w' R D (fun x => (A x ∨ w.heap.size ≤ x) ∧ x < w'.heap.size) B s' t := h.left hL (hR.mono (fun x hx => .inl hx)) k
theorem H2.right (h : H2 L w R D A B s t) (hL : ∀ x, w.heap.size ≤ x → L x) (hR : RD (fun x => B x ∨ w.heap.size ≤ x) w' D t') (k : Chg B w w') : H2 L w' R D A (fun x => (B x ∨ w.heap.size ≤ x) ∧ x < w'.heap.size) s t' := by
 have z := k.size
 refine ⟨h.r.chg k (fun b _ h1 h2 => h.ne b h1 h2), hR.old, fun x hx => ⟨(h.a x hx).1, by have := (h.a x hx).2; omega⟩, fun x hx => ⟨hx.1.elim (fun h1 => (h.b x h1).1) (hL x), hx.2⟩, fun x h1 h2 => ?_⟩
 rcases h2.1 with h3 | h3
 ·exact h.ne x h1 h3
 ·have := (h.a x h1).2
  omega
theorem H2.right0 (h : H2 L w R D A B s t) (hL : ∀ x, w.heap.size ≤ x → L x) (hR : RD B w' D t') (k : Chg B w w') : H2 L w' R D A (fun x => (B x ∨ w.heap.size ≤ x) ∧ x < w'.heap.size) s t' := h.right hL (hR.mono (fun x hx => .inl hx)) k
end
theorem writeS_len (s : RA) (d a : Int) (b : List UInt8) : (writeS s d a b).waits.length ≤ s.waits.length + 1 ∧ (writeS s d a b).dn = s.dn ∧ (writeS s d a b).sn = s.sn := by
 unfold writeS
 split
 ·exact ⟨by show (s.waits ++ [_]).length ≤ _; simp, spendS_dn s, spendS_sn s⟩
 ·split
  ·exact ⟨by rw [spendS_waits]; omega, spendS_dn s, spendS_sn s⟩
  ·exact ⟨by omega, rfl, rfl⟩
theorem flushS_len (s : RA) : (flushS s).waits.length ≤ s.waits.length + 1 ∧ (flushS s).dn = s.dn ∧ (flushS s).sn = s.sn := by
 unfold flushS
 split
 ·exact ⟨by rw [spendS_waits]; omega, spendS_dn s, spendS_sn s⟩
 ·exact ⟨Nat.zero_le _, spendS_dn s, spendS_sn s⟩
theorem rotI_len (s : RA) (d a n : Int) : (if rotE s d a n = 0 then rotS s (d, a) n else s).waits.length ≤ s.waits.length + 1 ∧ (if rotE s d a n = 0 then rotS s (d, a) n else s).dn = s.dn ∧ (if rotE s d a n = 0 then rotS s (d, a) n else s).sn = s.sn := by
 split
 ·exact ⟨by rw [rotS_len]; omega, rotS_dn _ _ _, rotS_sn _ _ _⟩
 ·exact ⟨by omega, rfl, rfl⟩
theorem loseI_len (s : RA) (d : Int) : (if isS s d then loseS s d true else s).waits.length ≤ s.waits.length + 1 ∧ (if isS s d then loseS s d true else s).dn = s.dn ∧ (if isS s d then loseS s d true else s).sn = s.sn := by
 split
 ·exact ⟨by have := stay_len d s.waits; show (stay d s.waits).length ≤ _; omega, rfl, rfl⟩
 ·exact ⟨by omega, rfl, rfl⟩
theorem replaceI_len (s : RA) (d : Int) : (if isS s d then replaceS s d else s).waits.length ≤ s.waits.length + 1 ∧ (if isS s d then replaceS s d else s).dn = s.dn ∧ (if isS s d then replaceS s d else s).sn = s.sn := by
 split
 ·exact ⟨by have := stay_len d s.waits; show (stay d s.waits).length ≤ _; omega, rfl, rfl⟩
 ·exact ⟨by omega, rfl, rfl⟩
end Go.Proofs.YtjeldcjchipdgaaGreatDoor
namespace Go.HL
open Go.RowKit
def CutG {σ : Type} (Q : Exit → Act → World → Prop) (N : Nat) (Ef : σ → Env) (I : σ → World → Prop) : Exit → Act → World → Prop := fun x a w => (x = .normal ∧ ∃ s, Holds N (Ef s) a ∧ I s w) ∨ Q x a w
section
variable {P : Program} {Q : Exit → Act → World → Prop} {N : Nat} {E : Env} {w : World} {σ : Type} {Ef : σ → Env} {I : σ → World → Prop} {c : Code}
theorem WC.cutG (Ef : σ → Env) (I : σ → World → Prop) (htail : ∀ s w', I s w' → WX Q .normal N (Ef s) w') (hbody : WC P c (CutG Q N Ef I) N E w) : WC P c Q N E w := fun a ha => by
 refine Code.wp_mono ?_ (hbody a ha)
 rintro x a' w' (⟨rfl, s, hs, hI⟩ | h)
 ·exact htail s w' hI a' hs
 ·exact h
theorem WX.ql (s : σ) (hs : Sub (Ef s) E) (hI : I s w) : WX (CutG Q N Ef I) .normal N E w := fun _ ha => .inl ⟨rfl, s, ha.sub hs, hI⟩
end
end Go.HL
namespace Go.Proofs.YtjeldcjchipdgaaGreatDoor
open Go.RowKit Go.HL
set_option maxRecDepth 100000
structure HH (S : Nat → Prop) (w : World) (R D : Nat) (s : RA) : Prop where
 ex : ∃ A B, H2 S w R D A B s s
section
variable {S M : Nat → Prop} {w w' : World} {R D : Nat} {s : RA}
theorem HH.pure (h : HH S w R D s) (k : Chg Nob w w') : HH S w' R D s := by
 obtain ⟨A, B, h⟩ := h.ex
 exact ⟨A, B, h.pure k⟩
theorem HH.chg (h : HH S w R D s) (k : Chg M w w') (hd : ∀ b, b < w.heap.size → S b → M b → False) : HH S w' R D s := by
 obtain ⟨A, B, h⟩ := h.ex
 exact ⟨A, B, h.chg k (fun x hx hm => by
  rcases hx with hx | hx
  ·exact hd x (h.a x hx).2 (h.a x hx).1 hm
  ·exact hd x (h.b x hx).2 (h.b x hx).1 hm)⟩
theorem HH.mono {S' : Nat → Prop} (h : HH S w R D s) (k : ∀ b, S b → S' b) : HH S' w R D s := by
 obtain ⟨A, B, h⟩ := h.ex
 exact ⟨A, B, h.mono (fun x hx _ => k x hx)⟩
theorem HH.old (h : HH S w R D s) : HH (fun b => S b ∧ b < w.heap.size) w R D s := by
 obtain ⟨A, B, h⟩ := h.ex
 exact ⟨A, B, h.mono (fun x hx hl => ⟨hx, hl⟩)⟩
theorem HH.r (h : HH S w R D s) : RK S w R s := by
 obtain ⟨A, B, h⟩ := h.ex
 exact h.r.mono (fun x hx => (h.a x hx).1)
theorem HH.d (h : HH S w R D s) : RD S w D s := by
 obtain ⟨A, B, h⟩ := h.ex
 exact h.d.mono (fun x hx => (h.b x hx).1)
end
theorem nilSectors_calls (w : World) : Calls Tryz.prog 70 [.pointer none].toArray w (Ret fun v w' => v = vi 0 ∧ Chg Nob w w') := by
 have hw := Chg.refl Nob w
 refine Calls.of_WC Tryz.func70 rfl Tryz.ntmps70 (by simp) ?_
 refine WC.sr (WL.assign rfl rfl (WL.t (WC.seq (WC.sr (WL.move rfl rfl (WL.ptrNil Tryz.underlying25 rfl rfl rfl ?_))))))
 refine WL.t (WC.qb rfl (WC.sr (WL.assign rfl rfl (WL.t (WC.ret (WX.qb (WX.qg (.inl rfl) Tryz.results70 rfl ?_)))))))
 exact ⟨_, rfl, rfl, hw⟩
theorem nilRight8_calls (w : World) : Calls Tryz.prog 47 [.pointer none].toArray w (Ret fun v w' => v = .bool false ∧ Chg Nob w w') := by
 have hw := Chg.refl Nob w
 refine Calls.of_WC Tryz.func47 rfl Tryz.ntmps47 (by simp) ?_
 refine WC.sr (WL.assign rfl rfl (WL.t (WC.sr (WL.move rfl rfl (WL.call eg_70 rfl rfl (nilSectors_calls _) ?_)))))
 rintro v w1 ⟨rfl, k1⟩
 replace hw := hw.pure k1
 refine WL.gtr rfl rfl rfl (WL.assign rfl rfl (WL.t (WC.ret (WX.qg (.inl rfl) Tryz.results47 rfl ?_))))
 exact ⟨_, rfl, rfl, hw⟩
theorem nilNewest8_calls (w : World) : Calls Tryz.prog 26 [.pointer none].toArray w (Ret fun v w' => v = .tuple #[.agg (eub.f zeroU).toArray, vi 1] ∧ Chg Nob w w') := by
 have hw := Chg.refl Nob w
 refine Calls.of_WC Tryz.func26 rfl Tryz.ntmps26 (by simp) ?_
 refine WC.sr (WL.alloc Tryz.zeroValue41 rfl ?_)
 intro g_1 w_1 hge_1 hlt_1 hb_1 k_1
 replace hw := hw.pure k_1
 refine WL.assign rfl rfl (WL.t (WC.seq (WC.sr (WL.move rfl rfl (WL.call eg_47 rfl rfl (nilRight8_calls _) ?_)))))
 rintro v w1 ⟨rfl, k1⟩
 replace hw := hw.pure k1
 replace hb_1 := hb_1.pure k1
 refine WL.not rfl rfl (WL.t (WC.qb rfl (WC.sr (WL.bld rfl (bld_41_z) rfl (?_)))))
 refine WL.qf Tryz.sizeOf41 hb_1 rfl rfl (by simp; done) (by simp [Value.oneCell']; done) (by simp [Value.cells]; done) rfl ?_
 intro w_2 hs_2 hn_2 k_2
 replace hw := hw.chg k_2 (by intro x h1 h2; have h3 : _ = _ := h2; exfalso; omega)
 replace hb_1 := hn_2
 refine WL.assign rfl rfl (WL.t (WC.ret (WX.qb (WX.qj (.inl rfl) Tryz.results26 Tryz.isAgg41 Tryz.sizeOf41 hb_1 rfl (by rfl) rfl ?_))))
 exact ⟨_, rfl, rfl, hw⟩
theorem nilWrite8_calls (w : World) (u : UbV) : Calls Tryz.prog 8 [.pointer none, .agg (eub.f u).toArray].toArray w (Ret fun v w' => v = .tuple #[vi 0, vi 1] ∧ Chg Nob w w') := by
 have hw := Chg.refl Nob w
 refine Calls.of_WC Tryz.func8 rfl Tryz.ntmps8 (by simp) ?_
 refine WC.sr (WL.box rfl rfl ?_)
 intro g_1 w_1 hge_1 hlt_1 hb_1 k_1
 replace hw := hw.pure k_1
 refine WL.assign rfl rfl (WL.assign rfl rfl (WL.t (WC.seq (WC.sr (WL.move rfl rfl (WL.call eg_47 rfl rfl (nilRight8_calls _) ?_))))))
 rintro v w1 ⟨rfl, k1⟩
 replace hw := hw.pure k1
 refine WL.not rfl rfl (WL.t (WC.qb rfl (WC.sr (WL.assign rfl rfl (WL.assign rfl rfl (WL.t (WC.ret (WX.qb (WX.qi (.inl rfl) Tryz.results8 rfl rfl ?_)))))))))
 exact ⟨_, rfl, rfl, hw⟩
theorem of8_calls (u : UbV) (w : World) : Calls Tryz.prog 28 [.agg (eub.f u).toArray].toArray w (Ret fun v w' => v = .agg (eub.f u).toArray ∧ Chg Nob w w') := by
 have hw := Chg.refl Nob w
 refine Calls.of_WC Tryz.func28 rfl Tryz.ntmps28 (by simp) ?_
 refine WC.sr (WL.box rfl rfl ?_)
 intro g_1 w_1 hge_1 hlt_1 hb_1 k_1
 replace hw := hw.pure k_1
 refine WL.alloc Tryz.zeroValue43 rfl ?_
 intro g_2 w_2 hge_2 hlt_2 hb_2 k_2
 replace hw := hw.pure k_2
 replace hb_1 := hb_1.pure k_2
 refine WL.t (WC.sr (WL.fieldAddr (fld_41_0) rfl rfl (WL.qd Tryz.isAgg3 hb_1 rfl rfl rfl (WL.fieldAddr (fld_41_1) rfl rfl (?_)))))
 have hb1 : Blk _ g_1 41 (eub.f u) := hb_1
 refine WL.qo (ept.f u.p) Tryz.isAgg38 Tryz.sizeOf38 rfl (fun j v hj => by rw [Nat.add_comm]; exact hb1.cell hj) rfl rfl ?_
 refine WL.bld rfl (bld_43_0_1 _ _ _ _ _) rfl (?_)
 refine WL.qf Tryz.sizeOf43 hb_2 rfl rfl (by simp; done) (by simp [Value.oneCell']; done) (by simp [Value.cells]; done) rfl ?_
 intro w_3 hs_3 hn_3 k_3
 replace hw := hw.chg k_3 (by intro x h1 h2; have h3 : _ = _ := h2; exfalso; omega)
 replace hb_2 := hn_3
 refine WL.t (WC.ret (WX.ret1c (.inl rfl) Tryz.results28 Tryz.isAgg43 Tryz.sizeOf43 hb_2 rfl (by rfl) ?_))
 exact ⟨_, rfl, rfl, hw⟩
theorem eqg_dub : Tryz.prog.eqGuardType Tryz.prog.depth 43 = false := by kernel_rfl
theorem eq_dub (a b : UbV) (w : World) : (Op.equalIn 10000 43 (.agg (eub.f a).toArray) (.agg (eub.f b).toArray)).run Tryz.prog w = .ok (decide (a = b)) w := by
 refine eqA_of (d := 9999) Tryz.underlying43 (by kernel_rfl) ?_
 have h3 : (decide (a.t = b.t) && (decide (a.p = b.p) && true)) = decide (a = b) := by
  have : decide (a = b) = decide (a.t = b.t ∧ a.p = b.p) := decide_eq_decide.2 (UbV.eq_iff a b).symm
  rw [this]
  simp [Bool.decide_and]
 rw [← h3]
 refine eqf_cons rfl (part1 Tryz.sizeOf3 Tryz.isAgg3 rfl) (part1 Tryz.sizeOf3 Tryz.isAgg3 rfl) (run_equalIn_int w 9998 _ _ _ _ _ Tryz.underlying3) (eqf_cons rfl (partN (ds := ept.f a.p) Tryz.sizeOf38 Tryz.isAgg38 rfl) (partN (ds := ept.f b.p) Tryz.sizeOf38 Tryz.isAgg38 rfl) (eq_ptr9 a.p b.p w) eqf_nil)
theorem ubV_wf0 {t n : Int} (h : 0 ≤ t ∧ t ≤ 1000000) : WfU (ubV t n) := ⟨by show _ ≤ t ∧ t ≤ _; omega, ptrV_wf n⟩
theorem lwS_len (s : RA) (u : UbV) : (lwS s u).waits.length ≤ s.waits.length + s.dn ∧ (lwS s u).dn = s.dn ∧ (lwS s u).sn = s.sn := by
 obtain ⟨a, b, c, d, e⟩ := lwR_dn s (u.t % 8) (encB u) s.dn
 unfold lwS
 split
 ·exact ⟨d, a, b⟩
 ·exact ⟨by omega, rfl, rfl⟩
end Go.Proofs.YtjeldcjchipdgaaGreatDoor
