import Derived.Test.YtjeldcjchipdgaaGreatDoorQIntentPlays8
namespace Go.Proofs.YtjeldcjchipdgaaGreatDoor
open Go.RowKit Go.HL
set_option maxRecDepth 100000
set_option maxHeartbeats 1000000 in
theorem dForget_calls {A : Nat → Prop} {w : World} {D : Nat} {s : RA} (h : RD A w D s) (hn : s.waits.length ≤ 1000000) (d : Int) :
 Calls Tryz.prog 57 [ptr D, vi d].toArray w (Ret fun v w' => v = .tuple #[] ∧ RD (fun x => A x ∨ w.heap.size ≤ x) w' D (forgetS s d) ∧ Chg A w w') := by
 have aD := h.aD
 have hok := forgetS_ok h.ok d
 have hwin := h.win
 replace h := h.old
 have hDw := h.lt
 obtain ⟨la, lc, ls, ga, gc, wa, wc, hB, hI⟩ := h.ex
 have hw := Chg.refl Nob w
 refine Calls.of_WC Tryz.func57 rfl Tryz.ntmps57 (by simp) ?_
 refine WC.sr (WL.assign rfl rfl (WL.t (WC.seq (WC.sr (WL.assign rfl rfl (WL.t (WC.block (?_))))))))
 refine WC.loop (σ := Nat × Option Addr × Nat) (fun q => [(0, ptr D), (1, vi d), (4, .slice q.2.1 (stay d (s.waits.take q.1)).length q.2.2), (5, vi q.1)])
  (fun q w' => q.1 ≤ s.waits.length ∧ Row (fun x => w.heap.size ≤ x) w' 104 ewt q.2.1 q.2.2 (stay d (s.waits.take q.1)) ∧ Blk w' D 87 (dcells s la s.dn lc ga gc wa wc) ∧ DI (fun b => A b ∧ b < w.heap.size) w' la lc ls ga gc wa wc s.dn s.sn (lf s) s.gone s.waits ∧ Chg Nob w w') (fun q => s.waits.length - q.1) (0, none, 0) ⟨rfl, rfl, rfl, rfl, trivial⟩ ⟨Nat.zero_le _, Row.nil _ _ _ _, hB, hI, hw⟩ ?_
 clear hB hI hw
 rintro ⟨i, ao, c⟩ w2 ⟨hi, hO, hB, hI, hw⟩
 simp only at hi hO
 dsimp only
 have hB0 := hB
 have hI0 := hI
 have hkD := Chg.refl (fun x => x = D) w2
 have hsl := stay_len d (s.waits.take i)
 have hst : (s.waits.take i).length ≤ 1000000 := by rw [List.length_take]; omega
 refine WC.seq (WC.sr (WL.move rfl rfl (WL.move rfl rfl (WL.nilCheck rfl rfl (WL.fieldAddr (fld_87_2) rfl rfl (WL.qb Tryz.isAgg85 hB rfl rfl rfl (WL.len Tryz.underlying85 rfl rfl (WL.qh rfl rfl rfl (fun h12 => ?_) (fun h12 => ?_)))))))))
 ·refine WL.t (WC.qb rfl (WC.skip (WX.qa (WC.seq (WC.block (WC.seq (WC.region (WL.move rfl rfl (WL.nilCheck rfl rfl (WL.fieldAddr (fld_87_2) rfl rfl (WL.qb Tryz.isAgg85 hB rfl rfl rfl (WL.move rfl rfl (?_)))))))))))))
  obtain ⟨⟨⟨x1, x2⟩, xb⟩, hx⟩ : ∃ x, s.waits[i]? = some x := ⟨_, List.getElem?_eq_getElem (by omega)⟩
  have hsn := stay_snoc (d := d) hx
  refine WL.qg Tryz.underlying85 Tryz.sizeOf104 hI.waits.rsl rfl rfl ⟨hx, rfl⟩ rfl ?_
  intro b_1 o_1 hc_1
  refine WL.fieldAddr (fld_104_0) rfl rfl (WL.load Tryz.isAgg3 rfl (hc_1 _ _ rfl) rfl (WL.move rfl rfl (WL.qo rfl rfl rfl (fun h24 => ?_) (fun h24 => ?_))))
  ·refine WL.t (WC.qb rfl (WC.region (WL.move rfl rfl (WL.move rfl rfl (WL.nilCheck rfl rfl (WL.fieldAddr (fld_87_2) rfl rfl (WL.qb Tryz.isAgg85 hB rfl rfl rfl (WL.move rfl rfl (WL.qg Tryz.underlying85 Tryz.sizeOf104 hI.waits.rsl rfl rfl ⟨hx, rfl⟩ rfl ?_)))))))))
   intro b_2 o_2 hc_2
   refine WL.qw _ Tryz.isAgg104 Tryz.sizeOf104 rfl hc_2 rfl rfl (?_)
   refine WL.build (e := ewt) [((x1, x2), xb)] Tryz.underlying85 Tryz.sizeOf104 Tryz.zeroValue104 rfl rfl rfl (by simp [Value.cells] <;> rfl) (by decide) rfl ?_
   intro a_b33 w_b33 b33 l_b33 z_b33 k_b33
   have zs_k_b33 := k_b33.size
   replace hO := hO.pure k_b33
   replace hB := hB.pure k_b33
   replace hI := hI.pure k_b33
   replace hw := hw.pure k_b33
   replace hkD := hkD.pure k_b33
   refine WL.append (e := ewt) (xs := stay d (s.waits.take i)) (S := fun x => w.heap.size ≤ x) info_104 rfl Tryz.underlying85 rfl rfl hO (b33.rsl.src Tryz.underlying85) (by constructor <;> (simp only [List.length_cons, List.length_nil]; omega)) (fun x hx => by have := hw.size; omega) rfl ?_
   intro a9 c9 w9 hO9 g9 n9
   have k9 := g9.chg
   replace hB := hB.chg k9 (fun hm => by have := hm.2; omega)
   replace hI := hI.chg k9 (fun b _ h1 h2 => by have := h1.2; have := h2.2; omega)
   replace hw := hw.chg k9 (fun x h1 h2 => by have := h2.2; omega)
   refine WL.assign rfl rfl (WL.nil (WX.qc (WX.qa (WC.region (WL.move rfl rfl (WL.qe rfl rfl (by omega) rfl (WL.assign rfl rfl (?_))))))))
   refine WL.nil (?_)
   rw [if_neg h24] at hsn
   have e9 : stay d (s.waits.take i) ++ [((x1, x2), xb)] = stay d (s.waits.take (i + 1)) := hsn.symm
   rw [e9] at hO9
   exact WX.qf (i + 1, a9, c9) ⟨rfl, rfl, by rw [e9]; rfl, rfl, trivial⟩ ⟨by show i + 1 ≤ _; omega, hO9, hB, hI, hw⟩ (by show s.waits.length - (i + 1) < s.waits.length - i; omega)
  ·refine WL.t (WC.qa rfl (WC.skip (WX.qc (WX.qa (WC.region (WL.move rfl rfl (WL.qe rfl rfl (by omega) rfl (WL.assign rfl rfl (WL.nil (?_))))))))))
   rw [if_pos h24] at hsn
   rw [← hsn] at hO ⊢
   exact WX.qf (i + 1, ao, c) ⟨rfl, rfl, rfl, rfl, trivial⟩ ⟨by show i + 1 ≤ _; omega, hO, hB, hI, hw⟩ (by show s.waits.length - (i + 1) < s.waits.length - i; omega)
 ·refine WL.t (WC.qa rfl (WC.exit (WX.qd (WX.qd (WX.qh (WX.qa (WC.region (?_))))))))
  have hil : i = s.waits.length := by omega
  rw [hil, List.take_length] at hO ⊢
  have hO0 := hO
  refine WL.move rfl rfl (WL.move rfl rfl (WL.nilCheck rfl rfl (WL.fieldAddr (fld_87_2) rfl rfl (WL.store Tryz.sizeOf85 hB rfl rfl rfl rfl ?_))))
  intro w_1 hs_1 hn_1 k_1
  replace hkD := hkD.chg k_1 (by intro x h1 h2; exact h2)
  replace hB := hn_1
  refine WL.nil (WX.ql (.inr rfl) Tryz.results57 ?_)
  have hwk := hkD.mono (M' := A) (fun x _ hx => by rw [show x = D from hx]; exact aD)
  refine ⟨_, rfl, rfl, ⟨.inl aD, hok, fun p hp => ?_, la, lc, ls, ga, gc, ao, c, ?_, ?_⟩, (hw.mono (M' := A) (fun _ _ h => h.elim)).trans hwk (fun _ _ h => h)⟩
  ·exact hwin p (List.mem_filter.1 hp).1
  ·exact hB
  ·have hI2 := hI0.own hB0 hkD
   refine ⟨hI2.ld.mono (fun x hx => .inl hx.1), hI2.gone.mono (fun x hx => .inl hx.1), ?_⟩
   have hne : ∀ b, b = D → kb w2 b ≠ some (some 104) := fun b e => by rw [e, hB0.kb]; decide
   exact (hO0.chgK hkD (fun b _ m => hne b m)).mono (fun x hx => .inr hx)
set_option maxHeartbeats 1000000 in
theorem dLose_calls {A : Nat → Prop} {w : World} {D : Nat} {s : RA} (h : RD A w D s) (hn : s.waits.length ≤ 1000000) (d : Int) :
 Calls Tryz.prog 16 [ptr D, vi d].toArray w (Ret fun v w' => v = vi (if isS s d then 0 else 1) ∧ RD (fun x => A x ∨ w.heap.size ≤ x) w' D (if isS s d then loseS s d true else s) ∧ Chg A w w') := by
 have aD := h.aD
 have hok := loseS_ok h.ok d true
 have hgl := h.ok.gl
 have hwin := h.win
 have hw := Chg.refl A w
 refine Calls.of_WC Tryz.func16 rfl Tryz.ntmps16 (by simp) ?_
 refine WC.sr (WL.assign rfl rfl (WL.t (WC.seq (WC.sr (WL.move rfl rfl (WL.move rfl rfl (WL.call eg_56 rfl rfl (dIs_calls h d) ?_)))))))
 rintro v w1 ⟨rfl, k1⟩
 have zs_k1 := k1.size
 replace h := h.pure k1
 replace hw := hw.pure k1
 by_cases h7 : isS s d
 ·rw [decide_eq_true h7]
  refine WL.not rfl rfl (WL.t (WC.qa rfl (WC.skip (WX.qa (WC.sr (WL.move rfl rfl (WL.move rfl rfl (WL.call eg_57 rfl rfl (dForget_calls h hn d) ?_))))))))
  rintro v w2 ⟨rfl, h2, k2⟩
  replace hw := hw.trans k2 (fun _ _ h => h)
  obtain ⟨la, lc, ls, ga, gc, wa, wc, hB, hI⟩ := h2.ex
  have hlt : d.toNat < s.gone.length := by rw [hgl]; have := h7.1; have := h7.2; omega
  obtain ⟨g, hg⟩ := hI.gone.place0 (j := d.toNat) hlt
  subst hg
  have hgA : A g ∨ w1.heap.size ≤ g := hI.gone.at_ _ rfl
  refine WL.t (WC.sr (WL.move rfl rfl (WL.nilCheck rfl rfl (WL.fieldAddr (fld_87_1) rfl rfl (WL.qb Tryz.isAgg84 hB rfl rfl rfl (WL.move rfl rfl (?_)))))))
  refine WL.index (sz := 1) (j := d.toNat) Tryz.underlying84 Tryz.sizeOf4 rfl rfl (by have := h7.1; omega) hlt rfl ?_
  refine WL.qx (z := true) d.toNat Tryz.sizeOf4 hI.gone rfl rfl rfl (by show 0 + d.toNat * 1 = d.toNat; omega) hlt rfl ?_
  intro w5 z5 hG5 k5
  have hI5 := hI.setGone hG5 k5
  have hB5 := hB.chg k5 (fun e => hI.neG hB ⟨_, rfl, e⟩)
  refine WL.t (WC.sr (WL.assign rfl rfl (WL.t (WC.ret (WX.qg (.inl rfl) Tryz.results16 rfl ?_)))))
  rw [if_pos h7, if_pos h7]
  refine ⟨_, rfl, rfl, ?_, ?_⟩
  ·have hR : RD (fun x => A x ∨ w1.heap.size ≤ x) w5 D (loseS s d true) := ⟨.inl aD, hok, (fun p hp => hwin p (List.mem_filter.1 hp).1), la, lc, ls, some ⟨g, 0, none⟩, gc, wa, wc, by
    show Blk w5 D 87 [.slice la s.dn lc, .slice (some ⟨g, 0, none⟩) (s.gone.set d.toNat true).length gc, _, _, _]
    rw [List.length_set]
    exact hB5, hI5⟩
   exact hR.mono (fun x hx => hx.imp id (fun h => by omega))
  ·refine hw.chg k5 (fun x h1 hx => ?_)
   rcases hgA with h3 | h3
   ·rw [show x = g from hx]; exact h3
   ·exfalso
    omega
 ·rw [decide_eq_false h7]
  refine WL.not rfl rfl (WL.t (WC.qb rfl (WC.sr (WL.assign rfl rfl (WL.nil (WX.qa (WC.ret (WX.qb (WX.qg (.inl rfl) Tryz.results16 rfl ?_)))))))))
  rw [if_neg h7, if_neg h7]
  exact ⟨_, rfl, rfl, h.mono (fun x hx => .inl hx), hw⟩
end Go.Proofs.YtjeldcjchipdgaaGreatDoor
namespace Go.Proofs.YtjeldcjchipdgaaGreatDoor
open Go.RowKit Go.HL
set_option maxRecDepth 100000
theorem blank_calls (w : World) (n : Nat) (hn : 1 ≤ n ∧ n ≤ 2000) :
 Calls Tryz.prog 46 [vi n].toArray w (Ret fun v w' => (∃ g c, v = .slice (some ⟨g, 0, none⟩) n c ∧ Row (· = g) w' 9 es (some ⟨g, 0, none⟩) c (List.replicate n (bs zeros)) ∧ w.heap.size ≤ g) ∧ Chg Nob w w') := by
 have hw := Chg.refl Nob w
 refine Calls.of_WC Tryz.func46 rfl Tryz.ntmps46 (by simp) ?_
 refine WC.sr (WL.assign rfl rfl (WL.t (WC.sr (WL.make (e := eb) (0 : UInt8) 128 128 Tryz.underlying51 info_5 rfl rfl rfl ⟨rfl, rfl, by decide⟩ (by decide) rfl ?_))))
 intro g1 w1 h1 k1 z1 e1
 replace hw := hw.pure k1
 refine WL.qp Tryz.underlying51 Tryz.underlying5 Tryz.underlying9 h1.rsl rfl rfl (WL.assign rfl rfl (WL.t (WC.sr (WL.assign rfl rfl (WL.t (WC.seq (WC.sr (WL.assign rfl rfl (WL.t (WC.block (?_)))))))))))
 obtain ⟨Z, hZ⟩ : ∃ Z, Z = bs zeros := ⟨_, rfl⟩
 refine WC.loop (σ := Nat × Option Addr × Nat) (fun q => [(0, vi n), (3, .string Z), (4, .slice q.2.1 (List.replicate q.1 Z).length q.2.2), (5, vi q.1)])
  (fun q w' => q.1 ≤ n ∧ Row (fun x => w.heap.size ≤ x) w' 9 es q.2.1 q.2.2 (List.replicate q.1 Z) ∧ Chg Nob w w') (fun q => n - q.1) (0, none, 0) ⟨rfl, by rw [hZ]; rfl, rfl, rfl, trivial⟩ ⟨Nat.zero_le _, Row.nil _ _ _ _, hw⟩ ?_
 clear hw h1
 rintro ⟨i, ao, c⟩ w2 ⟨hi, hO, hw⟩
 simp only at hi hO
 dsimp only
 refine WC.seq (WC.sr (WL.move rfl rfl (WL.move rfl rfl (WL.qh rfl rfl rfl (fun h10 => ?_) (fun h10 => ?_)))))
 ·refine WL.t (WC.qb rfl (WC.skip (WX.qa (WC.seq (WC.block (WC.region (WL.move rfl rfl (WL.move rfl rfl (?_)))))))))
  refine WL.build (e := es) [Z] Tryz.underlying70 Tryz.sizeOf9 Tryz.zeroValue9 rfl rfl rfl (by simp [Value.cells] <;> rfl) (by decide) rfl ?_
  intro a_b15 w_b15 b15 l_b15 z_b15 k_b15
  replace hO := hO.pure k_b15
  replace hw := hw.pure k_b15
  refine WL.append (e := es) (xs := List.replicate i Z) (S := fun x => w.heap.size ≤ x) info_9 rfl Tryz.underlying70 rfl rfl hO (b15.rsl.src Tryz.underlying70) (by constructor <;> (simp only [List.length_cons, List.length_nil, List.length_replicate]; omega)) (fun x hx => by have := hw.size; omega) rfl ?_
  intro a9 c9 w9 hO9 g9 n9
  have k9 := g9.chg
  replace hw := hw.chg k9 (fun x h1 h2 => by have := h2.2; omega)
  have e9 : List.replicate i Z ++ [Z] = List.replicate (i + 1) Z := by rw [List.replicate_succ']
  rw [e9] at hO9 ⊢
  refine WL.assign rfl rfl (WL.nil (WX.qc (WX.qa (WC.region (WL.move rfl rfl (WL.qe rfl rfl (by omega) rfl (WL.assign rfl rfl (?_))))))))
  refine WL.nil (?_)
  exact WX.qf (i + 1, a9, c9) ⟨rfl, rfl, rfl, rfl, trivial⟩ ⟨by show i + 1 ≤ _; omega, hO9, hw⟩ (by show n - (i + 1) < n - i; omega)
 ·refine WL.t (WC.qa rfl (WC.exit (WX.qd (WX.qd (WX.qh (WX.qa (WC.sr (WL.move rfl rfl (WL.assign rfl rfl (WL.t (WC.ret (WX.qg (.inl rfl) Tryz.results46 rfl ?_))))))))))))
  have hin : i = n := by omega
  subst hin
  obtain ⟨g, rfl⟩ := hO.place0 (j := 0) (by rw [List.length_replicate]; omega)
  refine ⟨_, rfl, ⟨g, c, by rw [List.length_replicate], ?_, hO.at_ _ rfl⟩, hw⟩
  rw [← hZ]
  exact ⟨fun a ea => by injection ea with ea; subst ea; rfl, hO.own⟩
theorem replace_lf {s : RA} (h : s.ok) {d : Int} (hd : 0 ≤ d) (d' a' : Nat) (ha : a' < s.sn) : lf (replaceS s d) d' a' = if d' = d.toNat then bs zeros else lf s d' a' := by
 rw [lf, lf, lastS, lastS, show (replaceS s d).last = delN s.last d s.sn from rfl, delN_get h.nd]
 by_cases e : d' = d.toNat
 ·rw [if_pos e, if_pos ⟨by show (d' : Int) = d; omega, by show (0 : Int) ≤ a'; omega, by show (a' : Int) < s.sn; omega⟩]
  rfl
 ·rw [if_neg e, if_neg (fun h => e (by have h1 : (d' : Int) = d := h.1; omega))]
set_option maxHeartbeats 2000000 in
theorem dReplace_calls {A : Nat → Prop} {w : World} {D : Nat} {s : RA} (h : RD A w D s) (hn : s.waits.length ≤ 1000000) (d : Int) :
 Calls Tryz.prog 18 [ptr D, vi d].toArray w (Ret fun v w' => v = vi (if isS s d then 0 else 1) ∧ RD (fun x => A x ∨ w.heap.size ≤ x) w' D (if isS s d then replaceS s d else s) ∧ Chg A w w') := by
 have aD := h.aD
 have hok0 := h.ok
 have hok := replaceS_ok h.ok d
 have hgl := h.ok.gl
 have hsn := h.ok.sn
 have hwin := h.win
 have hw := Chg.refl A w
 refine Calls.of_WC Tryz.func18 rfl Tryz.ntmps18 (by simp) ?_
 refine WC.sr (WL.assign rfl rfl (WL.t (WC.seq (WC.sr (WL.move rfl rfl (WL.move rfl rfl (WL.call eg_56 rfl rfl (dIs_calls h d) ?_)))))))
 rintro v w1 ⟨rfl, k1⟩
 have zs_k1 := k1.size
 replace h := h.pure k1
 replace hw := hw.pure k1
 by_cases h7 : isS s d
 ·rw [decide_eq_true h7]
  refine WL.not rfl rfl (WL.t (WC.qa rfl (WC.skip (WX.qa (WC.sr (WL.move rfl rfl (WL.move rfl rfl (WL.call eg_57 rfl rfl (dForget_calls h hn d) ?_))))))))
  rintro v w2 ⟨rfl, h2, k2⟩
  replace hw := hw.trans k2 (fun _ _ h => h)
  replace h2 := h2.old
  obtain ⟨la, lc, ls, ga, gc, wa, wc, hB, hI⟩ := h2.ex
  have hlen : ls.length = s.dn := hI.ld.len
  have hd0 := h7.1
  have hd1 := h7.2
  have hlt : d.toNat < s.gone.length := by rw [hgl]; omega
  obtain ⟨g, hg⟩ := hI.gone.place0 (j := d.toNat) hlt
  subst hg
  obtain ⟨hgA, hgw⟩ : (A g ∨ w1.heap.size ≤ g) ∧ g < w2.heap.size := hI.gone.at_ _ rfl
  have zk2 := k2.size
  refine WL.t (WC.sr (WL.move rfl rfl (WL.nilCheck rfl rfl (WL.fieldAddr (fld_87_1) rfl rfl (WL.qb Tryz.isAgg84 hB rfl rfl rfl (WL.move rfl rfl (WL.index (sz := 1) (j := d.toNat) Tryz.underlying84 Tryz.sizeOf4 rfl rfl (by omega) hlt rfl ?_)))))))
  refine WL.qx (z := false) d.toNat Tryz.sizeOf4 hI.gone rfl rfl rfl (by show 0 + d.toNat * 1 = d.toNat; omega) hlt rfl ?_
  intro w5 z5 hG5 k5
  replace hB := hB.chg k5 (fun e => hI.neG hB ⟨_, rfl, e⟩)
  replace hI := hI.setGone hG5 k5
  have hw5 : Chg A w w5 := hw.chg k5 (fun x h1 hx => by
   rcases hgA with h3 | h3
   ·rw [show x = g from hx]; exact h3
   ·exfalso
    omega)
  refine WL.t (WC.seq (?_))
  obtain ⟨⟨rao, rc, rxs⟩, hr⟩ : ∃ r, ls[d.toNat]? = some r := ⟨_, List.getElem?_eq_getElem (by omega)⟩
  have hrl : rxs.length = s.sn := hI.ld.rlen hr
  obtain ⟨go, hgo⟩ := hI.ld.outer.place0 (j := d.toNat) (by omega)
  subst hgo
  obtain ⟨hgoA, hgow⟩ : (A go ∨ w1.heap.size ≤ go) ∧ go < w2.heap.size := hI.ld.outer.at_ _ rfl
  have hDgo : D ≠ go := fun e => hI.neL hB ⟨_, rfl, e⟩
  have hrow : Row (fun x => x = go) w5 70 esr (some ⟨go, 0, none⟩) lc ls := ⟨fun a ea => by injection ea with ea; subst ea; rfl, hI.ld.outer.own⟩
  have hk6 := Chg.refl (fun x => x = go) w5
  refine WC.qc (fun x => x = go) [0, 1, 2, 3, 4, 5, 6, 7, 8, 9, 14] [10, 11, 12, 13, 15] mixed rfl rfl (fun wd_1 kd_1 zd_1 => ?_)
  replace hB := hB.pure kd_1
  replace hI := hI.pure kd_1
  replace hrow := hrow.pure kd_1
  replace hk6 := hk6.pure kd_1
  apply DQ.step [(0, _)] rfl ⟨rfl, trivial⟩ rfl (fun _ _ => WL.move rfl rfl  WL.q)
  apply DQ.step [(18, _)] rfl ⟨rfl, trivial⟩ rfl (fun _ _ => WL.nilCheck rfl rfl  WL.q)
  apply DQ.step [(19, _)] rfl ⟨rfl, trivial⟩ rfl (fun _ _ => WL.fieldAddr (fld_87_0) rfl rfl  WL.q)
  apply DQ.step [(20, _)] rfl ⟨rfl, trivial⟩ rfl
  ·intro wq_6 kq_6
   replace hB := hB.chg kq_6 (by intro h1; have h2 : _ = _ := h1; exfalso; omega)
   refine WL.qb Tryz.isAgg83 hB rfl rfl rfl (WL.q)
  apply DQ.step [(1, _)] rfl ⟨rfl, trivial⟩ rfl (fun _ _ => WL.move rfl rfl  WL.q)
  apply DQ.step [(0, _)] rfl ⟨rfl, trivial⟩ rfl (fun _ _ => WL.move rfl rfl  WL.q)
  apply DQ.step [(23, _)] rfl ⟨rfl, trivial⟩ rfl (fun _ _ => WL.nilCheck rfl rfl  WL.q)
  apply DQ.step [(24, _)] rfl ⟨rfl, trivial⟩ rfl (fun _ _ => WL.fieldAddr (fld_87_0) rfl rfl  WL.q)
  apply DQ.step [(25, _)] rfl ⟨rfl, trivial⟩ rfl
  ·intro wq_11 kq_11
   replace hB := hB.chg kq_11 (by intro h1; have h2 : _ = _ := h1; exfalso; omega)
   refine WL.qb Tryz.isAgg83 hB rfl rfl rfl (WL.q)
  apply DQ.step [(1, _)] rfl ⟨rfl, trivial⟩ rfl (fun _ _ => WL.move rfl rfl  WL.q)
  apply DQ.step [(21, _), (22, _)] rfl ⟨rfl, rfl, trivial⟩ rfl
  ·intro wq_13 kq_13
   refine WL.index (sz := 1) (j := d.toNat) Tryz.underlying83 Tryz.sizeOf70 rfl rfl (by omega) (show d.toNat < s.dn by omega) rfl ?_
   exact WL.q
  refine DQ.done (fun hd_2 => ?_)
  refine DL.step [(26, _), (27, _)] rfl ⟨rfl, rfl, trivial⟩ rfl (fun wq_14 kq_14 => ?_)
  have zs_kq_14 := kq_14.size
  replace hB := hB.pure kq_14
  replace hI := hI.pure kq_14
  replace hrow := hrow.pure kq_14
  replace hk6 := hk6.pure kq_14
  replace hd_2 := hd_2.pure kq_14
  refine WL.qf (e := esr) hI.ld.outer.rsl Tryz.underlying83 Tryz.sizeOf70 (by show some (Value.slice _ s.dn _) = some (Value.slice _ ls.length _); rw [hlen]) rfl ⟨hr, (Int.toNat_of_nonneg hd0).symm⟩ rfl ?_
  refine WL.nil (WX.one ⟨hd_2, ?_⟩)
  refine DL.step [(28, _)] rfl ⟨rfl, trivial⟩ rfl (fun wq_15 kq_15 => ?_)
  have zs_kq_15 := kq_15.size
  replace hB := hB.pure kq_15
  replace hI := hI.pure kq_15
  replace hrow := hrow.pure kq_15
  replace hk6 := hk6.pure kq_15
  replace hd_2 := hd_2.pure kq_15
  refine WL.load Tryz.isAgg70 rfl ((hI.ld.outer.rsl.cellsAt hr) 0 _ rfl) rfl ?_
  rw [show (⟨rao, rc, rxs⟩ : Sr).xs.length = s.sn from hrl]
  refine WL.nil (WX.one ⟨hd_2, ?_⟩)
  refine DL.step [(29, _)] rfl ⟨rfl, trivial⟩ rfl (fun wq_16 kq_16 => ?_)
  have zs_kq_16 := kq_16.size
  replace hB := hB.pure kq_16
  replace hI := hI.pure kq_16
  replace hrow := hrow.pure kq_16
  replace hk6 := hk6.pure kq_16
  replace hd_2 := hd_2.pure kq_16
  refine WL.len Tryz.underlying70 rfl rfl (WL.nil ?_)
  refine WX.one ⟨hd_2, ?_⟩
  refine DL.step [(30, _)] rfl ⟨rfl, trivial⟩ rfl (fun wq_17 kq_17 => ?_)
  have zs_kq_17 := kq_17.size
  replace hB := hB.pure kq_17
  replace hI := hI.pure kq_17
  replace hrow := hrow.pure kq_17
  replace hk6 := hk6.pure kq_17
  replace hd_2 := hd_2.pure kq_17
  refine WL.call eg_46 rfl rfl (blank_calls _ s.sn hsn) ?_
  rintro v w7 ⟨⟨gn, cn, rfl, hbl, hgn⟩, k7⟩
  replace hB := hB.pure k7
  replace hI := hI.pure k7
  replace hrow := hrow.pure k7
  replace hk6 := hk6.pure k7
  replace hd_2 := hd_2.pure k7
  refine WL.nil (WX.one ⟨hd_2, ?_⟩)
  refine DL.step [(32, _), (31, _)] rfl ⟨rfl, rfl, trivial⟩ rfl (fun wq_18 kq_18 => ?_)
  replace hB := hB.pure kq_18
  replace hI := hI.pure kq_18
  replace hrow := hrow.pure kq_18
  replace hk6 := hk6.pure kq_18
  replace hd_2 := hd_2.pure kq_18
  replace hbl := hbl.pure kq_18
  refine WL.qx (z := ⟨some ⟨gn, 0, none⟩, cn, List.replicate s.sn (bs zeros)⟩) d.toNat Tryz.sizeOf70 hrow rfl (by show [Value.slice (some ⟨gn, 0, none⟩) (List.replicate s.sn (bs zeros)).length cn] = _; rw [List.length_replicate]) rfl (by show 0 + d.toNat * 1 = d.toNat; omega) (by omega) rfl ?_
  intro w9 z9 hO9 k9
  have hL9 : LD (fun x => A x ∨ w.heap.size ≤ x) w9 (some ⟨go, 0, none⟩) lc (ls.set d.toNat ⟨some ⟨gn, 0, none⟩, cn, List.replicate s.sn (bs zeros)⟩) s.dn s.sn (lf (replaceS s d)) := by
   refine ((hI.ld.mono (S' := fun x => A x ∨ w.heap.size ≤ x) (fun x hx => hx.1.imp id (fun h => by omega))).put k9 (hO9.mono (fun x hx => by rw [show x = go from hx]; exact hgoA.imp id (fun h => by omega))) (.inr (by omega)) (fun e r he h9 => ?_) hbl (show d.toNat < s.dn by omega) (fun d' a' h1 h2 h3 => ?_) ?_)
   ·obtain ⟨g', e1, e2, e3⟩ := hI.ld.own e r he
    rw [e1] at h9
    injection h9 with h9
    injection h9 with h9
    have := e2.2
    omega
   ·rw [replace_lf hok0 hd0 d' a' h2, if_neg h3]
    rfl
   ·apply List.ext_getElem?
    intro j
    rcases Nat.lt_or_ge j s.sn with hj | hj
    ·rw [List.getElem?_replicate, if_pos hj, List.getElem?_map, List.getElem?_range (show j < (forgetS s d).sn from hj)]
     show _ = some (lf (replaceS s d) d.toNat j)
     rw [replace_lf hok0 hd0 d.toNat j hj, if_pos rfl]
    ·rw [List.getElem?_replicate, if_neg (by omega), List.getElem?_eq_none (by rw [List.length_map, List.length_range]; exact hj)]
  have hI9 : DI (fun x => A x ∨ w.heap.size ≤ x) w9 (some ⟨go, 0, none⟩) lc (ls.set d.toNat ⟨some ⟨gn, 0, none⟩, cn, List.replicate s.sn (bs zeros)⟩) (some ⟨g, 0, none⟩) gc wa wc s.dn s.sn (lf (replaceS s d)) (s.gone.set d.toNat false) (stay d s.waits) :=
   (hI.mono (S' := fun x => A x ∨ w.heap.size ≤ x) (fun x hx => hx.1.imp id (fun h => by omega))).setLd hL9 k9 (fun b hb e => .inr (by rw [show b = go from e]; exact (hI.ld.outer.kb.at_ _ rfl).2))
  replace hB := hB.chg k9 (by intro h1; have h2 : _ = _ := h1; exfalso; omega)
  replace hk6 := hk6.chg k9 (by intro x h1 h2; exact h2)
  replace hd_2 := hd_2.chg k9 (by intro x h1 h2; exact h2)
  refine WL.nil (WX.qk (v := undef) ⟨hd_2, ?_⟩)
  refine DL.done (fun we_19 ke_19 => ?_)
  replace hB := hB.pure ke_19
  replace hk6 := hk6.pure ke_19
  replace hI9 := hI9.pure ke_19
  refine WX.qa (WC.sr (WL.assign rfl rfl (WL.t (WC.ret (WX.qg (.inl rfl) Tryz.results18 rfl ?_)))))
  first
   |(rw [if_pos h7, if_pos h7]
     refine ⟨_, rfl, rfl, ⟨.inl aD, hok, (fun p hp => hwin p (List.mem_filter.1 hp).1), some ⟨go, 0, none⟩, lc, _, some ⟨g, 0, none⟩, gc, wa, wc, ?_, hI9⟩, hw5.chg hk6 (fun x h1 hx => ?_)⟩
     ·show Blk _ D 87 [.slice (some ⟨go, 0, none⟩) s.dn lc, .slice (some ⟨g, 0, none⟩) (s.gone.set d.toNat false).length gc, _, _, _]
      rw [List.length_set]
      exact hB
     ·rcases hgoA with h3 | h3
      ·rw [show x = go from hx]; exact h3
      ·exfalso
       omega)
   |(rw [if_neg h7, if_neg h7]
     exact ⟨_, rfl, rfl, h.mono (fun x hx => .inl hx), hw⟩)
 ·rw [decide_eq_false h7]
  refine WL.not rfl rfl (WL.t (WC.qb rfl (WC.sr (WL.assign rfl rfl (WL.nil (WX.qa (WC.ret (WX.qb (WX.qg (.inl rfl) Tryz.results18 rfl ?_)))))))))
  first
   |(rw [if_pos h7, if_pos h7]
     refine ⟨_, rfl, rfl, ⟨.inl aD, hok, (fun p hp => hwin p (List.mem_filter.1 hp).1), some ⟨go, 0, none⟩, lc, _, some ⟨g, 0, none⟩, gc, wa, wc, ?_, hI9⟩, hw5.chg hk6 (fun x h1 hx => ?_)⟩
     ·show Blk _ D 87 [.slice (some ⟨go, 0, none⟩) s.dn lc, .slice (some ⟨g, 0, none⟩) (s.gone.set d.toNat false).length gc, _, _, _]
      rw [List.length_set]
      exact hB
     ·rcases hgoA with h3 | h3
      ·rw [show x = go from hx]; exact h3
      ·exfalso
       have h4 : x = go := hx
       omega)
   |(rw [if_neg h7, if_neg h7]
     exact ⟨_, rfl, rfl, h.mono (fun x hx => .inl hx), hw⟩)
end Go.Proofs.YtjeldcjchipdgaaGreatDoor
namespace Go.Proofs.YtjeldcjchipdgaaGreatDoor
open Go.RowKit Go.HL
set_option maxRecDepth 100000
theorem rotten_calls (w : World) (b : List UInt8) (hb : b.length = 128) (n : Int) (hn : 0 ≤ n ∧ n ≤ 9223372036854775807) :
 Calls Tryz.prog 64 [.string (bs b), vi n].toArray w (Ret fun v w' => v = .string (bs (rotB b n)) ∧ Chg Nob w w') := by
 have hw := Chg.refl Nob w
 have hbd : (bs b).data.toList = b := rfl
 have hbz : (bs b).size = 128 := by rw [bs_size, hb]
 refine Calls.of_WC Tryz.func64 rfl Tryz.ntmps64 (by simp) ?_
 refine WC.sr (WL.assign rfl rfl (WL.t (WC.sr (WL.move rfl rfl (WL.toBytes Tryz.underlying9 Tryz.underlying51 Tryz.underlying5 rfl (by omega) rfl ?_)))))
 intro a_hq c_hq w_hq hq k_hq z_hq
 have zs_k_hq := k_hq.size
 replace hw := hw.pure k_hq
 rw [hbd] at hq ⊢
 obtain ⟨gq, rfl⟩ := hq.place0 (j := 0) (by omega)
 have hgq : w.heap.size ≤ gq := hq.at_ _ rfl
 refine WL.assign rfl rfl (WL.t (WC.sr (WL.move rfl rfl (WL.move rfl rfl (WL.rem64i rfl rfl (by constructor <;> omega) rfl (?_))))))
 refine WL.move rfl rfl (WL.move rfl rfl (WL.rem64i rfl rfl (by constructor <;> omega) rfl (?_)))
 obtain ⟨kk, hk⟩ : ∃ kk, b[(n % 128).toNat]? = some kk := ⟨_, List.getElem?_eq_getElem (by omega)⟩
 refine WL.qg (e := eb) Tryz.underlying51 Tryz.sizeOf5 hq.rsl rfl rfl ⟨hk, by omega⟩ rfl ?_
 intro bb oo hcc
 refine WL.load Tryz.isAgg5 rfl (hcc 0 _ rfl) rfl ?_
 refine WL.move rfl rfl (WL.quo64i rfl rfl (by refine ⟨?_, ?_, ?_⟩ <;> omega) rfl (WL.rem64i rfl rfl (by constructor <;> omega) rfl (WL.qe rfl rfl (by omega) rfl (WL.c_i64_u8 Tryz.underlying3 Tryz.underlying5 rfl rfl (WL.num rfl rfl (n_xor8 _ _ _ _) rfl (?_))))))
 refine WL.index (j := (n % 128).toNat) Tryz.underlying51 Tryz.sizeOf5 rfl rfl (by omega) (show (n % 128).toNat < b.length by omega) rfl ?_
 refine WL.qx (z := kk ^^^ B8 (1 + n / 128 % 255)) ((n % 128).toNat) Tryz.sizeOf5 hq rfl rfl rfl (by simp; done) (by omega) rfl ?_
 intro w_1 zs_1 nr_1 k_1
 replace hw := hw.chg k_1 (by intro x h1 h2; have h3 : _ = _ := h2; exfalso; omega)
 replace hq := nr_1
 refine WL.t (WC.sr (WL.move rfl rfl (?_)))
 refine WL.qp Tryz.underlying51 Tryz.underlying5 Tryz.underlying9 hq.rsl (by show some (Value.slice _ b.length _) = some (Value.slice _ (b.set _ _).length _); rw [List.length_set]) rfl ?_
 refine WL.assign rfl rfl (WL.t (WC.ret (WX.qg (.inl rfl) Tryz.results64 rfl ?_)))
 refine ⟨_, rfl, ?_, hw⟩
 rw [rotB, List.getD_eq_getElem?_getD, hk]
 rfl
theorem wt_set {ws : List (Pl × List UInt8)} {j : Nat} {x : Pl × List UInt8} (hx : ws[j]? = some x) (r : List UInt8) : (ewt.all ws).take (0 + j * 3 + 2) ++ [.string (bs r)] ++ (ewt.all ws).drop (0 + j * 3 + 2 + 1) = ewt.all (ws.set j (x.1, r)) := by
 have hj := (List.getElem?_eq_some_iff.1 hx).1
 have hl : (ewt.all (ws.take j)).length = j * 3 := by
  rw [Enc.all_len, List.length_take, Nat.min_eq_left (Nat.le_of_lt hj)]
  rfl
 have e1 : ewt.all ws = ewt.all (ws.take j) ++ ([vi x.1.1, vi x.1.2, .string (bs x.2)] ++ ewt.all (ws.drop (j + 1))) := by
  conv => lhs; rw [split_at hx]
  rw [Enc.all_append, Enc.all_append, List.append_assoc]
  rfl
 have e2 : ewt.all (ws.set j (x.1, r)) = ewt.all (ws.take j) ++ ([vi x.1.1, vi x.1.2, .string (bs r)] ++ ewt.all (ws.drop (j + 1))) := by
  rw [List.set_eq_take_append_cons_drop, if_pos hj, Enc.all_append]
  rfl
 rw [e1, e2, Nat.zero_add, ← hl]
 exact splice3 _ _ _ _ _ _
theorem rot_lf {s : RA} {d a : Int} (hd : 0 ≤ d) (ha : 0 ≤ a) {n : Int} (hw : newV s.waits (d, a) = none) (d' a' : Nat) : lf (rotS s (d, a) n) d' a' = if d' = d.toNat ∧ a' = a.toNat then bs (rotB (heldS s (d, a)) n) else lf s d' a' := by
 have e : rotS s (d, a) n = putLast s (d, a) (rotB (heldS s (d, a)) n) := by
  unfold rotS putLast
  rw [hw]
 rw [e, putLast_lf d a hd ha]
theorem rot_waits {s : RA} {d a : Int} {n : Int} {i : Nat} {x : Pl × List UInt8} (hx : s.waits[i]? = some x) (hp : x.1 = (d, a)) (h : ∀ j y, i < j → s.waits[j]? = some y → y.1 ≠ (d, a)) : rotS s (d, a) n = { s with waits := s.waits.set i (x.1, rotB (heldS s (d, a)) n) } := by
 unfold rotS
 rw [newV_some hx hp h]
 show ({ s with waits := putW s.waits (d, a) (rotB (heldS s (d, a)) n) } : RA) = _
 rw [putW_some hx hp h, hp]
set_option maxHeartbeats 2000000 in
theorem dRot_calls {A : Nat → Prop} {w : World} {D : Nat} {s : RA} (h : RD A w D s) (hwl : s.waits.length ≤ 1000000) (d a n : Int) (hn : n ≤ 9223372036854775807) :
 Calls Tryz.prog 20 [ptr D, vi d, vi a, vi n].toArray w (Ret fun v w' => v = vi (rotE s d a n) ∧ RD A w' D (if rotE s d a n = 0 then rotS s (d, a) n else s) ∧ Chg A w w') := by
 have aD := h.aD
 have hok := h.ok
 have hrok := rotS_ok hok (d, a) n
 have hwin := h.win
 have hhl := heldS_len hok (d, a)
 have hw := Chg.refl A w
 refine Calls.of_WC Tryz.func20 rfl Tryz.ntmps20 (by simp) ?_
 refine WC.sr (WL.assign rfl rfl (WL.t (WC.seq (WC.sr (WL.move rfl rfl (WL.move rfl rfl (WL.move rfl rfl (WL.call eg_62 rfl rfl (dIn_calls h d a) ?_))))))))
 rintro v w1 ⟨rfl, k1⟩
 have zs_k1 := k1.size
 replace h := h.pure k1
 replace hw := hw.pure k1
 by_cases h12 : inS s d a
 ·rw [decide_eq_true h12]
  have hd0 := h12.1
  have hd1 := h12.2.1
  have ha0 := h12.2.2.1
  have ha1 := h12.2.2.2
  refine WL.not rfl rfl (WL.move rfl rfl (WL.qa rfl rfl rfl (WL.move rfl rfl (WL.qa rfl rfl rfl (?_)))))
  by_cases h17 : n < 0
  ·have hE : rotE s d a n = 1 := by simp [rotE, h17]
   refine WL.lssT rfl rfl rfl (by omega) ?_
   refine WL.qc rfl rfl rfl (WL.t (WC.qb rfl (WC.sr (WL.assign rfl rfl (WL.nil (WX.qa (WC.ret (WX.qb (WX.qg (.inl rfl) Tryz.results20 rfl ?_)))))))))
   rw [hE]
   exact ⟨_, rfl, rfl, h, hw⟩
  ·refine WL.lssF rfl rfl rfl (by omega) ?_
   refine WL.qc rfl rfl rfl (WL.t (WC.qa rfl (WC.skip (WX.qa (WC.seq (WC.seq (WC.region (WL.move rfl rfl (WL.nilCheck rfl rfl (WL.fieldAddr (fld_87_1) rfl rfl (?_)))))))))))
   obtain ⟨la, lc, ls, ga, gc, wa, wc, hB, hI⟩ := h.ex
   refine WL.qb Tryz.isAgg84 hB rfl rfl rfl (WL.move rfl rfl (?_))
   have hgd := goneS_at hok (d := d) ⟨h12.1, h12.2.1⟩
   refine WL.qg (e := ebool) Tryz.underlying84 Tryz.sizeOf4 hI.gone.rsl rfl rfl ⟨hgd, by omega⟩ rfl ?_
   intro bb oo hcc
   refine WL.load Tryz.isAgg4 rfl (hcc 0 _ rfl) rfl ?_
   rcases hg : goneS s d with _ | _
   ·clear hB hI hcc
    refine WL.t (WC.qa rfl (WC.skip (WX.qa (WC.sr (WL.move rfl rfl (WL.move rfl rfl (WL.move rfl rfl (?_))))))))
    have hE : rotE s d a n = 0 := by simp [rotE, h12, h17, hg]
    refine WL.call eg_63 rfl rfl (dNewest_calls h hwl d a) ?_
    rintro v w2 ⟨⟨k, rfl, hk⟩, k2⟩
    have zs_k2 := k2.size
    replace h := h.pure k2
    replace hw := hw.pure k2
    replace h := h.old
    have hDw := h.lt
    obtain ⟨la, lc, ls, ga, gc, wa, wc, hB, hI⟩ := h.ex
    have hlen := hI.ld.len
    have hB0 := hB
    refine WL.assign rfl rfl (WL.t (WC.seq (WC.sr (WL.move rfl rfl (?_)))))
    rcases hk with ⟨h1, h2⟩ | ⟨i, x, h1, h2, h3, h4⟩
    ·refine WL.geqF rfl rfl rfl (by omega) ?_
     refine WL.t (WC.qa rfl (?_))
     obtain ⟨⟨rao, rc, rxs⟩, hr⟩ : ∃ r, ls[d.toNat]? = some r := ⟨_, List.getElem?_eq_getElem (by omega)⟩
     have hrl : rxs.length = s.sn := hI.ld.rlen hr
     have hra : rxs[a.toNat]? = some (lf s d.toNat a.toNat) := hI.ld.at hr (by omega)
     have hlfh : lf s d.toNat a.toNat = bs (heldS s (d, a)) := by
      rw [heldS_eq, newV_none h2, lf, show ((d.toNat : Int)) = d from by omega, show ((a.toNat : Int)) = a from by omega]
     rw [hlfh] at hra
     obtain ⟨g, hg', ⟨hgA, hgw⟩, hrow⟩ := hI.ld.own _ _ hr
     have hg2 : rao = some ⟨g, 0, none⟩ := hg'
     subst hg2
     have hkg : kb w2 g = some (some 9) := (hrow.kb.at_ _ rfl).2
     have hDg : D ≠ g := fun e => by
      have h1 := hB.kb
      rw [e, hkg] at h1
      exact absurd h1 (by decide)
     obtain ⟨go, hgo⟩ := hI.ld.outer.place0 (j := d.toNat) (by omega)
     subst hgo
     have hkgo : kb w2 go = some (some 70) := (hI.ld.outer.kb.at_ _ rfl).2
     have hgog : go ≠ g := fun e => by
      rw [e, hkg] at hkgo
      exact absurd hkgo (by decide)
     have hOo : RSl (fun x => x ≠ g) w2 esr (some ⟨go, 0, none⟩) lc ls := ⟨fun _ a ea => by injection ea with ea; subst ea; exact hgog, hI.ld.outer.rsl.cap, hI.ld.outer.rsl.sl⟩
     have hk6 := Chg.refl (fun x => x = g) w2
     replace hrow : Row (fun x => x = g) w2 9 es (some ⟨g, 0, none⟩) rc rxs := hrow
     refine WC.qc (fun x => x = g) [0, 1, 2, 3, 4, 5, 6, 7, 8, 9, 10, 11, 12, 13, 14, 15, 18, 20] [16, 17, 19, 21] mixed rfl rfl (fun wd_1 kd_1 zd_1 => ?_)
     have zs_kd_1 := kd_1.size
     replace hB := hB.pure kd_1
     replace hOo := hOo.pure kd_1
     replace hrow := hrow.pure kd_1
     replace hk6 := hk6.pure kd_1
     apply DQ.step [(0, _)] rfl ⟨rfl, trivial⟩ rfl (fun _ _ => WL.move rfl rfl  WL.q)
     apply DQ.step [(49, _)] rfl ⟨rfl, trivial⟩ rfl (fun _ _ => WL.nilCheck rfl rfl  WL.q)
     apply DQ.step [(50, _)] rfl ⟨rfl, trivial⟩ rfl (fun _ _ => WL.fieldAddr (fld_87_0) rfl rfl  WL.q)
     apply DQ.step [(51, _)] rfl ⟨rfl, trivial⟩ rfl
     ·intro wq_6 kq_6
      replace hB := hB.chg kq_6 (by intro h1; have h2 : _ = _ := h1; exfalso; omega)
      refine WL.qb Tryz.isAgg83 hB rfl rfl rfl (WL.q)
     apply DQ.step [(1, _)] rfl ⟨rfl, trivial⟩ rfl (fun _ _ => WL.move rfl rfl  WL.q)
     apply DQ.step [(52, _), (53, _)] rfl ⟨rfl, rfl, trivial⟩ rfl
     ·intro wq_8 kq_8
      replace hOo := hOo.chg kq_8 (by intro x h1 h2; exact h2)
      refine WL.qf (e := esr) hOo Tryz.underlying83 Tryz.sizeOf70 (by show some (Value.slice _ s.dn _) = some (Value.slice _ ls.length _); rw [hlen]) rfl ⟨hr, by omega⟩ rfl ?_
      exact WL.q
     apply DQ.step [(54, _)] rfl ⟨rfl, trivial⟩ rfl
     ·intro wq_9 kq_9
      replace hOo := hOo.chg kq_9 (by intro x h1 h2; exact h2)
      refine WL.load Tryz.isAgg70 rfl ((hOo.cellsAt hr) 0 _ rfl) rfl (WL.q)
     apply DQ.step [(2, _)] rfl ⟨rfl, trivial⟩ rfl (fun _ _ => WL.move rfl rfl  WL.q)
     apply DQ.step [(0, _)] rfl ⟨rfl, trivial⟩ rfl (fun _ _ => WL.move rfl rfl  WL.q)
     apply DQ.step [(57, _)] rfl ⟨rfl, trivial⟩ rfl (fun _ _ => WL.nilCheck rfl rfl  WL.q)
     apply DQ.step [(58, _)] rfl ⟨rfl, trivial⟩ rfl (fun _ _ => WL.fieldAddr (fld_87_0) rfl rfl  WL.q)
     apply DQ.step [(59, _)] rfl ⟨rfl, trivial⟩ rfl
     ·intro wq_14 kq_14
      replace hB := hB.chg kq_14 (by intro h1; have h2 : _ = _ := h1; exfalso; omega)
      refine WL.qb Tryz.isAgg83 hB rfl rfl rfl (WL.q)
     apply DQ.step [(1, _)] rfl ⟨rfl, trivial⟩ rfl (fun _ _ => WL.move rfl rfl  WL.q)
     apply DQ.step [(60, _), (61, _)] rfl ⟨rfl, rfl, trivial⟩ rfl
     ·intro wq_16 kq_16
      replace hOo := hOo.chg kq_16 (by intro x h1 h2; exact h2)
      refine WL.qf (e := esr) hOo Tryz.underlying83 Tryz.sizeOf70 (by show some (Value.slice _ s.dn _) = some (Value.slice _ ls.length _); rw [hlen]) rfl ⟨hr, by omega⟩ rfl ?_
      exact WL.q
     apply DQ.step [(62, _)] rfl ⟨rfl, trivial⟩ rfl
     ·intro wq_17 kq_17
      replace hOo := hOo.chg kq_17 (by intro x h1 h2; exact h2)
      refine WL.load Tryz.isAgg70 rfl ((hOo.cellsAt hr) 0 _ rfl) rfl (WL.q)
     apply DQ.step [(2, _)] rfl ⟨rfl, trivial⟩ rfl (fun _ _ => WL.move rfl rfl  WL.q)
     apply DQ.step [(3, _)] rfl ⟨rfl, trivial⟩ rfl (fun _ _ => WL.move rfl rfl  WL.q)
     apply DQ.step [(55, _), (56, _)] rfl ⟨rfl, rfl, trivial⟩ rfl
     ·intro wq_20 kq_20
      refine WL.index (sz := 1) (j := a.toNat) Tryz.underlying70 Tryz.sizeOf9 rfl rfl (by omega) (by show a.toNat < rxs.length; omega) rfl ?_
      exact WL.q
     refine DQ.done (fun hd_2 => ?_)
     refine DL.step [(63, _), (64, _)] rfl ⟨rfl, rfl, trivial⟩ rfl (fun wq_21 kq_21 => ?_)
     have zs_kq_21 := kq_21.size
     replace hB := hB.pure kq_21
     replace hOo := hOo.pure kq_21
     replace hrow := hrow.pure kq_21
     replace hk6 := hk6.pure kq_21
     replace hd_2 := hd_2.pure kq_21
     refine WL.qf (e := es) hrow.rsl Tryz.underlying70 Tryz.sizeOf9 rfl rfl ⟨hra, by omega⟩ rfl ?_
     refine WL.nil (WX.one ⟨hd_2, ?_⟩)
     refine DL.step [(65, _)] rfl ⟨rfl, trivial⟩ rfl (fun wq_22 kq_22 => ?_)
     have zs_kq_22 := kq_22.size
     replace hB := hB.pure kq_22
     replace hOo := hOo.pure kq_22
     replace hrow := hrow.pure kq_22
     replace hk6 := hk6.pure kq_22
     replace hd_2 := hd_2.pure kq_22
     refine WL.load Tryz.isAgg9 rfl ((hrow.rsl.cellsAt hra) 0 _ rfl) rfl (WL.nil ?_)
     refine WX.one ⟨hd_2, ?_⟩
     refine DL.step [(66, _), (67, _)] rfl ⟨rfl, rfl, trivial⟩ rfl (fun wq_23 kq_23 => ?_)
     have zs_kq_23 := kq_23.size
     replace hB := hB.pure kq_23
     replace hOo := hOo.pure kq_23
     replace hrow := hrow.pure kq_23
     replace hk6 := hk6.pure kq_23
     replace hd_2 := hd_2.pure kq_23
     refine WL.call eg_64 rfl rfl (rotten_calls _ _ hhl n (by omega)) ?_
     rintro v w3 ⟨rfl, k3⟩
     have zs_k3 := k3.size
     replace hB := hB.pure k3
     replace hOo := hOo.pure k3
     replace hrow := hrow.pure k3
     replace hk6 := hk6.pure k3
     replace hd_2 := hd_2.pure k3
     refine WL.nil (WX.one ⟨hd_2, ?_⟩)
     refine DL.step [(69, _), (68, _)] rfl ⟨rfl, rfl, trivial⟩ rfl (fun wq_24 kq_24 => ?_)
     have zs_kq_24 := kq_24.size
     replace hB := hB.pure kq_24
     replace hOo := hOo.pure kq_24
     replace hrow := hrow.pure kq_24
     replace hk6 := hk6.pure kq_24
     replace hd_2 := hd_2.pure kq_24
     refine WL.qx (z := bs (rotB (heldS s (d, a)) n)) (a.toNat) Tryz.sizeOf9 hrow rfl rfl rfl (by simp; done) (by omega) rfl ?_
     intro w_25 zs_25 nr_25 k_25
     have zs_k_25 := k_25.size
     replace hB := hB.chg k_25 (by intro h1; have h2 : _ = _ := h1; exfalso; omega)
     replace hOo := hOo.chg k_25 (by intro x h1 h2; exact h2)
     replace hk6 := hk6.chg k_25 (by intro x h1 h2; exact h2)
     replace hd_2 := hd_2.chg k_25 (by intro x h1 h2; exact h2)
     replace hrow := nr_25
     refine WL.nil (WX.qk (v := undef) ⟨hd_2, ?_⟩)
     refine DL.done (fun we_26 ke_26 => ?_)
     have zs_ke_26 := ke_26.size
     replace hB := hB.pure ke_26
     replace hOo := hOo.pure ke_26
     replace hrow := hrow.pure ke_26
     replace hk6 := hk6.pure ke_26
     replace hd_2 := hd_2.pure ke_26
     refine WX.qa (WC.sr (WL.assign rfl rfl (WL.t (WC.ret (WX.qg (.inl rfl) Tryz.results20 rfl ?_)))))
     rw [hE, if_pos rfl]
     have hrw : (rotS s (d, a) n).waits = s.waits := by
      unfold rotS
      rw [newV_none h2]
     have hL := hI.ld.set (f' := lf (rotS s (d, a) n)) hr hk6 hkg hrow (fun d' a' _ _ => rot_lf hd0 ha0 (newV_none h2) d' a')
     have hI2 := (hI.setLd hL hk6 (fun b' _ e => .inl (by rw [show b' = g from e]; exact hkg))).mono (S' := A) (fun x hx => hx.1)
     have hcells : rotS s (d, a) n = putLast s (d, a) (rotB (heldS s (d, a)) n) := by
      unfold rotS putLast
      rw [newV_none h2]
     refine ⟨_, rfl, rfl, ?_, hw.chg hk6 (fun x _ hx => by rw [show x = g from hx]; exact hgA)⟩
     rw [hcells] at hI2 hrok ⊢
     exact ⟨aD, hrok, hwin, some ⟨go, 0, none⟩, lc, ls.set d.toNat ⟨some ⟨g, 0, none⟩, rc, rxs.set a.toNat (bs (rotB (heldS s (d, a)) n))⟩, ga, gc, wa, wc, hB, hI2⟩
    ·refine WL.geqT rfl rfl rfl (by omega) ?_
     refine WL.t (WC.qb rfl (?_))
     subst h1
     have hxl := (List.getElem?_eq_some_iff.1 h2).1
     obtain ⟨gw, hgw⟩ := hI.waits.place0 (j := i) hxl
     subst hgw
     obtain ⟨hgwA, hgww⟩ : A gw ∧ gw < w2.heap.size := hI.waits.at_ _ rfl
     have hx2 : x.2 = heldS s (d, a) := by rw [heldS_eq, newV_some h2 h3 h4]
     have hDg : D ≠ gw := fun e => hI.neW hB ⟨_, rfl, e⟩
     have hrow : Row (fun x => x = gw) w2 104 ewt (some ⟨gw, 0, none⟩) wc s.waits := ⟨fun a ea => by injection ea with ea; subst ea; rfl, hI.waits.own⟩
     have hk6 := Chg.refl (fun x => x = gw) w2
     refine WC.qc (fun x => x = gw) [0, 1, 2, 3, 4, 5, 6, 7, 8, 9, 13, 15, 16] [10, 11, 12, 14, 17] mixed rfl rfl (fun wd_1 kd_1 zd_1 => ?_)
     have zs_kd_1 := kd_1.size
     replace hB := hB.pure kd_1
     replace hrow := hrow.pure kd_1
     replace hk6 := hk6.pure kd_1
     apply DQ.step [(0, _)] rfl ⟨rfl, trivial⟩ rfl (fun _ _ => WL.move rfl rfl  WL.q)
     apply DQ.step [(32, _)] rfl ⟨rfl, trivial⟩ rfl (fun _ _ => WL.nilCheck rfl rfl  WL.q)
     apply DQ.step [(33, _)] rfl ⟨rfl, trivial⟩ rfl (fun _ _ => WL.fieldAddr (fld_87_2) rfl rfl  WL.q)
     apply DQ.step [(34, _)] rfl ⟨rfl, trivial⟩ rfl
     ·intro wq_6 kq_6
      replace hB := hB.chg kq_6 (by intro h1; have h2 : _ = _ := h1; exfalso; omega)
      refine WL.qb Tryz.isAgg85 hB rfl rfl rfl (WL.q)
     apply DQ.step [(9, _)] rfl ⟨rfl, trivial⟩ rfl (fun _ _ => WL.move rfl rfl  WL.q)
     apply DQ.step [(0, _)] rfl ⟨rfl, trivial⟩ rfl (fun _ _ => WL.move rfl rfl  WL.q)
     apply DQ.step [(37, _)] rfl ⟨rfl, trivial⟩ rfl (fun _ _ => WL.nilCheck rfl rfl  WL.q)
     apply DQ.step [(38, _)] rfl ⟨rfl, trivial⟩ rfl (fun _ _ => WL.fieldAddr (fld_87_2) rfl rfl  WL.q)
     apply DQ.step [(39, _)] rfl ⟨rfl, trivial⟩ rfl
     ·intro wq_11 kq_11
      replace hB := hB.chg kq_11 (by intro h1; have h2 : _ = _ := h1; exfalso; omega)
      refine WL.qb Tryz.isAgg85 hB rfl rfl rfl (WL.q)
     apply DQ.step [(9, _)] rfl ⟨rfl, trivial⟩ rfl (fun _ _ => WL.move rfl rfl  WL.q)
     apply DQ.step [(3, _)] rfl ⟨rfl, trivial⟩ rfl (fun _ _ => WL.move rfl rfl  WL.q)
     apply DQ.step [(35, _), (36, _)] rfl ⟨rfl, rfl, trivial⟩ rfl
     ·intro wq_14 kq_14
      refine WL.index (sz := 3) (j := i) Tryz.underlying85 Tryz.sizeOf104 rfl rfl rfl hxl rfl (WL.q)
     apply DQ.step [(47, _)] rfl ⟨rfl, trivial⟩ rfl (fun _ _ => WL.fieldAddr (fld_104_2) rfl rfl  WL.q)
     refine DQ.done (fun hd_2 => ?_)
     refine DL.step [(40, _), (41, _)] rfl ⟨rfl, rfl, trivial⟩ rfl (fun wq_16 kq_16 => ?_)
     have zs_kq_16 := kq_16.size
     replace hB := hB.pure kq_16
     replace hrow := hrow.pure kq_16
     replace hk6 := hk6.pure kq_16
     replace hd_2 := hd_2.pure kq_16
     refine WL.qf hrow.rsl Tryz.underlying85 Tryz.sizeOf104 rfl rfl ⟨h2, rfl⟩ rfl (WL.nil ?_)
     refine WX.one ⟨hd_2, ?_⟩
     refine DL.step [(42, _)] rfl ⟨rfl, trivial⟩ rfl (fun wq_17 kq_17 => ?_)
     have zs_kq_17 := kq_17.size
     replace hB := hB.pure kq_17
     replace hrow := hrow.pure kq_17
     replace hk6 := hk6.pure kq_17
     replace hd_2 := hd_2.pure kq_17
     refine WL.fieldAddr (fld_104_2) rfl rfl (WL.nil ?_)
     refine WX.one ⟨hd_2, ?_⟩
     refine DL.step [(43, _)] rfl ⟨rfl, trivial⟩ rfl (fun wq_18 kq_18 => ?_)
     have zs_kq_18 := kq_18.size
     replace hB := hB.pure kq_18
     replace hrow := hrow.pure kq_18
     replace hk6 := hk6.pure kq_18
     replace hd_2 := hd_2.pure kq_18
     refine WL.load Tryz.isAgg9 rfl ((hrow.rsl.cellsAt h2) 2 _ rfl) rfl (WL.nil ?_)
     refine WX.one ⟨hd_2, ?_⟩
     refine DL.step [(44, _), (45, _)] rfl ⟨rfl, rfl, trivial⟩ rfl (fun wq_19 kq_19 => ?_)
     have zs_kq_19 := kq_19.size
     replace hB := hB.pure kq_19
     replace hrow := hrow.pure kq_19
     replace hk6 := hk6.pure kq_19
     replace hd_2 := hd_2.pure kq_19
     rw [hx2]
     refine WL.call eg_64 rfl rfl (rotten_calls _ _ hhl n (by omega)) ?_
     rintro v w3 ⟨rfl, k3⟩
     have zs_k3 := k3.size
     replace hB := hB.pure k3
     replace hrow := hrow.pure k3
     replace hk6 := hk6.pure k3
     replace hd_2 := hd_2.pure k3
     refine WL.nil (WX.one ⟨hd_2, ?_⟩)
     refine DL.step [(48, _), (46, _)] rfl ⟨rfl, rfl, trivial⟩ rfl (fun wq_20 kq_20 => ?_)
     have zs_kq_20 := kq_20.size
     replace hB := hB.pure kq_20
     replace hrow := hrow.pure kq_20
     replace hk6 := hk6.pure kq_20
     replace hd_2 := hd_2.pure kq_20
     refine WL.storeF (ys := s.waits.set i (x.1, rotB (heldS s (d, a)) n)) Tryz.sizeOf9 hrow rfl rfl rfl (by show 0 + i * 3 + 2 + 1 ≤ s.waits.length * 3; omega) List.length_set (wt_set h2 _) ?_
     intro w5 z5 hW5 k5
     have zs_k5 := k5.size
     replace hB := hB.chg k5 (by intro h1; have h2 : _ = _ := h1; exfalso; omega)
     replace hk6 := hk6.chg k5 (by intro x h1 h2; exact h2)
     replace hd_2 := hd_2.chg k5 (by intro x h1 h2; exact h2)
     refine WL.nil (WX.qk (v := undef) ⟨hd_2, ?_⟩)
     refine DL.done (fun we_21 ke_21 => ?_)
     have zs_ke_21 := ke_21.size
     replace hB := hB.pure ke_21
     replace hk6 := hk6.pure ke_21
     replace hd_2 := hd_2.pure ke_21
     replace hW5 := hW5.pure ke_21
     refine WX.qa (WC.sr (WL.assign rfl rfl (WL.t (WC.ret (WX.qg (.inl rfl) Tryz.results20 rfl ?_)))))
     have hR := rot_waits (n := n) h2 h3 h4
     rw [hE, if_pos rfl]
     refine ⟨_, rfl, rfl, ?_, hw.chg hk6 (fun x _ hx => by rw [show x = gw from hx]; exact hgwA)⟩
     rw [hR] at hrok ⊢
     have hI5 := hI.setWaits (hW5.mono (fun b e => by rw [show b = gw from e]; exact ⟨hgwA, hgww⟩)) hk6 (fun b e => ⟨_, rfl, e⟩)
     refine ⟨aD, hrok, fun p hp => ?_, la, lc, ls, ga, gc, some ⟨gw, 0, none⟩, wc, ?_, hI5.mono (fun x hx => hx.1)⟩
     ·rcases List.mem_or_eq_of_mem_set hp with h5 | h5
      ·exact hwin p h5
      ·rw [h5]
       exact hwin x (List.mem_of_getElem? h2)
     ·show Blk _ D 87 [_, _, .slice _ (s.waits.set i _).length wc, _, _]
      rw [List.length_set]
      exact hB
   ·have hE : rotE s d a n = 3 := by simp [rotE, h12, h17, hg]
    refine WL.t (WC.qb rfl (WC.sr (WL.assign rfl rfl (WL.t (WC.ret (WX.qb (WX.qg (.inl rfl) Tryz.results20 rfl ?_)))))))
    rw [hE]
    exact ⟨_, rfl, rfl, h, hw⟩
 ·have hE : rotE s d a n = 1 := by simp [rotE, h12]
  rw [decide_eq_false h12]
  refine WL.not rfl rfl (WL.move rfl rfl (WL.pass rfl rfl rfl rfl (WL.pass rfl rfl rfl rfl (WL.qd rfl rfl rfl (WL.t (WC.qb rfl (WC.sr (WL.assign rfl rfl (WL.t (WC.ret (WX.qb (WX.qg (.inl rfl) Tryz.results20 rfl ?_))))))))))))
  rw [hE]
  exact ⟨_, rfl, rfl, h, hw⟩
end Go.Proofs.YtjeldcjchipdgaaGreatDoor
namespace Go.Proofs.YtjeldcjchipdgaaGreatDoor
open Go.RowKit Go.HL
set_option maxRecDepth 100000
theorem LD.snoc {S M : Nat → Prop} {w w' : World} {la la2 : Option Addr} {lc lc2 : Nat} {ls : List Sr} {i sn g cr : Nat} {f : Nat → Nat → ByteArray} {xs : List ByteArray} (h : LD S w la lc ls i sn f) (hr : Row (· = g) w 9 es (some ⟨g, 0, none⟩) cr xs) (hx : xs = (List.range sn).map (f i)) (hg : S g) (hnew : ∀ (e : Nat) (r : Sr), ls[e]? = some r → r.ao ≠ some ⟨g, 0, none⟩)
 (ho : Row S w' 70 esr la2 lc2 (ls ++ [⟨some ⟨g, 0, none⟩, cr, xs⟩])) (k : Chg M w w') (hM : ∀ b, M b → Eqb la b) : LD S w' la2 lc2 (ls ++ [⟨some ⟨g, 0, none⟩, cr, xs⟩]) (i + 1) sn f := by
 have hlen := h.len
 have hne : ∀ b, b < w.heap.size → M b → kb w b ≠ some (some 9) := fun b _ m => by
  have h1 := (h.outer.kb.at_.eqb (hM b m)).2
  rw [h1]
  decide
 have hat : ∀ {d : Nat} {r : Sr}, (ls ++ [⟨some ⟨g, 0, none⟩, cr, xs⟩])[d]? = some r → ls[d]? = some r ∨ d = i ∧ r = ⟨some ⟨g, 0, none⟩, cr, xs⟩ := by
  intro d r hd
  rcases Nat.lt_or_ge d ls.length with h1 | h1
  ·rw [List.getElem?_append_left h1] at hd; exact .inl hd
  ·rw [List.getElem?_append_right h1] at hd
   have h2 := (List.getElem?_eq_some_iff.1 hd).1
   simp at h2
   have h3 : d - ls.length = 0 := by omega
   rw [h3] at hd
   injection hd with hd
   exact .inr ⟨by omega, hd.symm⟩
 refine ⟨by rw [List.length_append, hlen]; rfl, ho, fun d r hd => ?_, fun d r hd => ?_, fun d e r q g' h1 h2 h3 h4 => ?_⟩
 ·rcases hat hd with h1 | ⟨h1, h2⟩
  ·exact h.vals d r h1
  ·rw [h2, h1]; exact hx
 ·rcases hat hd with h1 | ⟨h1, h2⟩
  ·obtain ⟨g', e1, e2, e3⟩ := h.own d r h1
   exact ⟨g', e1, e2, e3.chgK k hne⟩
  ·rw [h2]
   exact ⟨g, rfl, hg, hr.chgK k hne⟩
 ·rcases hat h1 with h5 | ⟨h5, h6⟩ <;> rcases hat h2 with h7 | ⟨h7, h8⟩
  ·exact h.apart d e r q g' h5 h7 h3 h4
  ·rw [h8] at h4
   injection h4 with h4
   injection h4 with h4
   rw [← h4] at h3
   exact absurd h3 (hnew d r h5)
  ·rw [h6] at h3
   injection h3 with h3
   injection h3 with h3
   rw [← h3] at h4
   exact absurd h4 (hnew e q h7)
  ·omega
set_option maxHeartbeats 2000000 in
theorem dNew_calls (w : World) {dn sn : Nat} (hd : 1 ≤ dn ∧ dn ≤ 16) (hs : 1 ≤ sn ∧ sn ≤ 2000) :
 Calls Tryz.prog 7 [vi dn, vi sn].toArray w (Ret fun v w' => (∃ D, v = .tuple #[ptr D, vi 0] ∧ RD (w.heap.size ≤ ·) w' D (newS dn sn)) ∧ Chg Nob w w') := by
 have hw := Chg.refl Nob w
 have hok := newS_ok hd hs
 refine Calls.of_WC Tryz.func7 rfl Tryz.ntmps7 (by simp) ?_
 refine WC.sr (WL.assign rfl rfl (WL.assign rfl rfl (WL.t (WC.seq (WC.seq (WC.region (WL.move rfl rfl (WL.qh rfl rfl rfl (fun h9 => ?_) (fun h9 => ?_)))))))))
 ·refine WL.move rfl rfl (WL.pass rfl rfl rfl rfl (WL.pass rfl rfl rfl rfl (WL.qd rfl rfl rfl (WL.move rfl rfl (WL.pass rfl rfl rfl rfl (WL.pass rfl rfl rfl rfl (WL.qd rfl rfl rfl (WL.move rfl rfl (WL.pass rfl rfl rfl rfl (WL.pass rfl rfl rfl rfl (WL.qd rfl rfl rfl (WL.t (WC.qb rfl (WC.seq (WC.region (WL.assign rfl rfl (WL.assign rfl rfl (WL.t (WC.ret (WX.qb (WX.qi (.inl rfl) Tryz.results7 rfl rfl ?_)))))))))))))))))))))
  exfalso; omega
 ·refine WL.move rfl rfl (WL.qa rfl rfl rfl (WL.move rfl rfl (WL.qa rfl rfl rfl (WL.qn rfl rfl rfl (fun h12 => ?_) (fun h12 => ?_)))))
  ·refine WL.qc rfl rfl rfl (WL.move rfl rfl (WL.pass rfl rfl rfl rfl (WL.pass rfl rfl rfl rfl (WL.qd rfl rfl rfl (WL.move rfl rfl (WL.pass rfl rfl rfl rfl (WL.pass rfl rfl rfl rfl (WL.qd rfl rfl rfl (WL.t (WC.qb rfl (WC.sr (WL.assign rfl rfl (WL.assign rfl rfl (WL.t (WC.ret (WX.qb (WX.qi (.inl rfl) Tryz.results7 rfl rfl ?_)))))))))))))))))
   exfalso; omega
  ·refine WL.qc rfl rfl rfl (WL.move rfl rfl (WL.qa rfl rfl rfl (WL.move rfl rfl (WL.qa rfl rfl rfl (WL.qh rfl rfl rfl (fun h16 => ?_) (fun h16 => ?_))))))
   ·refine WL.qc rfl rfl rfl (WL.move rfl rfl (WL.pass rfl rfl rfl rfl (WL.pass rfl rfl rfl rfl (WL.qd rfl rfl rfl (WL.t (WC.qb rfl (WC.sr (WL.assign rfl rfl (WL.assign rfl rfl (WL.t (WC.ret (WX.qb (WX.qi (.inl rfl) Tryz.results7 rfl rfl ?_)))))))))))))
    exfalso; omega
   ·refine WL.qc rfl rfl rfl (WL.move rfl rfl (WL.qa rfl rfl rfl (WL.move rfl rfl (WL.qa rfl rfl rfl (WL.qn rfl rfl rfl (fun h20 => ?_) (fun h20 => ?_))))))
    ·refine WL.qc rfl rfl rfl (WL.t (WC.qb rfl (WC.sr (WL.assign rfl rfl (WL.assign rfl rfl (WL.t (WC.ret (WX.qb (WX.qi (.inl rfl) Tryz.results7 rfl rfl ?_)))))))))
     exfalso; omega
    ·refine WL.qc rfl rfl rfl (WL.t (WC.qa rfl (WC.skip (WX.qa (WC.sr (WL.move rfl rfl (?_)))))))
     refine WL.make (e := ebool) false dn dn Tryz.underlying84 info_4 rfl rfl rfl ⟨rfl, rfl, Nat.le_refl _⟩ (by constructor <;> omega) rfl ?_
     intro g w1 hG0 k1 z1 eg
     rw [List.length_replicate]
     have hG : Row (fun b => w.heap.size ≤ b) w1 4 ebool (some ⟨g, 0, none⟩) dn (List.replicate dn false) := ⟨(fun a ea => by injection ea with ea; subst ea; show w.heap.size ≤ g; omega), hG0.own⟩
     clear hG0
     replace hw := hw.pure k1
     refine WL.bld rfl (bld_87_1_4 _ _ _ _) rfl (WL.box rfl rfl ?_)
     intro g_1 w_1 hge_1 hlt_1 hb_1 k_1
     replace hw := hw.pure k_1
     replace hG := hG.pure k_1
     refine WL.assign rfl rfl (WL.t (WC.seq (WC.sr (WL.assign rfl rfl (WL.nil (WX.qa (WC.block (?_))))))))
     have hB : Blk w_1 g_1 87 [.slice none 0 0, .slice (some ⟨g, 0, none⟩) dn dn, .slice none 0 0, .bool false, vi (-1)] := hb_1
     have hL : LD (fun b => w.heap.size ≤ b) w_1 none 0 [] 0 sn (fun _ _ => bs zeros) := ⟨rfl, Row.nil _ _ _ _, (fun d r h => by cases h), (fun d r h => by cases h), (fun d e r q g h => by cases h)⟩
     have hgw : w.heap.size ≤ g_1 := by omega
     refine WC.loop (σ := Nat × Option Addr × Nat × List Sr) (fun q => [(0, vi dn), (1, vi sn), (6, ptr g_1), (7, vi q.1)])
      (fun q w' => q.1 ≤ dn ∧ Blk w' g_1 87 [.slice q.2.1 q.1 q.2.2.1, .slice (some ⟨g, 0, none⟩) dn dn, .slice none 0 0, .bool false, vi (-1)] ∧ LD (fun b => w.heap.size ≤ b) w' q.2.1 q.2.2.1 q.2.2.2 q.1 sn (fun _ _ => bs zeros) ∧ Row (fun b => w.heap.size ≤ b) w' 4 ebool (some ⟨g, 0, none⟩) dn (List.replicate dn false) ∧ Chg Nob w w') (fun q => dn - q.1) (0, none, 0, []) ⟨rfl, rfl, rfl, rfl, trivial⟩ ⟨Nat.zero_le _, hB, hL, hG, hw⟩ ?_
     clear hB hL hG hw hb_1
     rintro ⟨i, la, lc, ls⟩ w2 ⟨hi, hB, hL, hG, hw⟩
     simp only at hi hB hL
     dsimp only
     have hlen := hL.len
     refine WC.seq (WC.sr (WL.move rfl rfl (WL.move rfl rfl (WL.qh rfl rfl rfl (fun h28 => ?_) (fun h28 => ?_)))))
     ·refine WL.t (WC.qb rfl (WC.skip (WX.qa (WC.seq (WC.block (?_))))))
      have zw2 := hw.size
      refine WC.drawM ((fun x => w.heap.size ≤ x)) [0, 1, 2, 3, 5, 9, 10] [4, 6, 7, 8, 11] mixed rfl rfl (fun wd_2 kd_2 zd_2 => ?_)
      replace hB := hB.pure kd_2
      replace hL := hL.pure kd_2
      replace hG := hG.pure kd_2
      replace hw := hw.pure kd_2
      apply DQT.step (E' := [(6, _)])
      case ho => rfl
      case hs => exact ⟨rfl, trivial⟩
      case hk => rfl
      case h1 =>
       intro wq_4 kq_4
       refine WL.move rfl rfl (WL.q)
      apply DQT.step (E' := [(6, _)])
      case ho => rfl
      case hs => exact ⟨rfl, trivial⟩
      case hk => rfl
      case h1 =>
       intro wq_5 kq_5
       refine WL.move rfl rfl (WL.q)
      apply DQT.step (E' := [(32, _)])
      case ho => rfl
      case hs => exact ⟨rfl, trivial⟩
      case hk => rfl
      case h1 =>
       intro wq_6 kq_6
       refine WL.nilCheck rfl rfl (WL.q)
      apply DQT.step (E' := [(33, _)])
      case ho => rfl
      case hs => exact ⟨rfl, trivial⟩
      case hk => rfl
      case h1 =>
       intro wq_7 kq_7
       refine WL.fieldAddr (fld_87_0) rfl rfl (WL.q)
      apply DQT.step (E' := [(1, _)])
      case ho => rfl
      case hs => exact ⟨rfl, trivial⟩
      case hk => rfl
      case h1 =>
       intro wq_8 kq_8
       refine WL.move rfl rfl (WL.q)
      apply DQT.step (E' := [(31, _)])
      case ho => rfl
      case hs => exact ⟨rfl, trivial⟩
      case hk => rfl
      case h1 =>
       intro wq_9 kq_9
       refine WL.nilCheck rfl rfl (WL.q)
      apply DQT.step (E' := [(40, _)])
      case ho => rfl
      case hs => exact ⟨rfl, trivial⟩
      case hk => rfl
      case h1 =>
       intro wq_10 kq_10
       refine WL.fieldAddr (fld_87_0) rfl rfl (WL.q)
      refine DQT.done (fun hd_3 => ?_)
      refine ⟨?_, ?_, trivial, trivial, trivial, trivial⟩
      refine DT.step [(34, _)] rfl ⟨rfl, trivial⟩ rfl (fun wq_11 kq_11 => ?_)
      have zs_kq_11 := kq_11.size
      replace hB := hB.pure kq_11
      replace hL := hL.pure kq_11
      replace hG := hG.pure kq_11
      replace hw := hw.pure kq_11
      replace hd_3 := hd_3.pure kq_11
      refine WL.qb Tryz.isAgg83 hB rfl rfl rfl (WL.nil (WX.one ⟨hd_3, ?_⟩))
      refine ⟨?_, trivial, trivial, trivial, trivial⟩
      refine DT.step [(36, _)] rfl ⟨rfl, trivial⟩ rfl (fun wq_12 kq_12 => ?_)
      have zs_kq_12 := kq_12.size
      replace hB := hB.pure kq_12
      replace hL := hL.pure kq_12
      replace hG := hG.pure kq_12
      replace hw := hw.pure kq_12
      replace hd_3 := hd_3.pure kq_12
      refine WL.call eg_46 rfl rfl (blank_calls _ sn hs) ?_
      rintro v w7 ⟨⟨gn, cn, rfl, hbl, hgn⟩, k7⟩
      have hgnl : gn < w7.heap.size := hbl.own.lt _ rfl
      have hgno : ∀ (e : Nat) (r : Sr), ls[e]? = some r → r.ao ≠ some ⟨gn, 0, none⟩ := fun e r he h9 => by
       obtain ⟨g', e1, _, e3⟩ := hL.own e r he
       rw [e1] at h9
       injection h9 with h9
       injection h9 with h9
       have h10 := e3.own.lt _ rfl
       dsimp only at h10
       omega
      replace hB := hB.pure k7
      replace hL := hL.pure k7
      replace hG := hG.pure k7
      replace hw := hw.pure k7
      replace hd_3 := hd_3.pure k7
      refine WL.nil (WX.one ⟨hd_3, ?_⟩)
      refine ⟨?_, trivial, trivial, trivial⟩
      refine DT.step [(37, _)] rfl ⟨rfl, trivial⟩ rfl (fun wq_13 kq_13 => ?_)
      have zs_kq_13 := kq_13.size
      replace hB := hB.pure kq_13
      replace hL := hL.pure kq_13
      replace hG := hG.pure kq_13
      replace hw := hw.pure kq_13
      replace hd_3 := hd_3.pure kq_13
      replace hbl := hbl.pure kq_13
      obtain ⟨Z, hZ⟩ : ∃ Z, Z = List.replicate sn (bs zeros) := ⟨_, rfl⟩
      have hZl : Z.length = sn := by rw [hZ, List.length_replicate]
      rw [← hZ] at hbl
      rw [show Value.slice (some ⟨gn, 0, none⟩) sn cn = Value.slice (some ⟨gn, 0, none⟩) Z.length cn from by rw [hZl]]
      refine WL.build (e := esr) [⟨some ⟨gn, 0, none⟩, cn, Z⟩] Tryz.underlying83 Tryz.sizeOf70 Tryz.zeroValue70 rfl rfl rfl (by simp [Value.cells] <;> rfl) (by decide) rfl ?_
      intro a_b38 w_b38 b38 l_b38 z_b38 k_b38
      replace hB := hB.pure k_b38
      replace hL := hL.pure k_b38
      replace hG := hG.pure k_b38
      replace hw := hw.pure k_b38
      replace hd_3 := hd_3.pure k_b38
      replace hbl := hbl.pure k_b38
      refine WL.nil (WX.one ⟨hd_3, ?_⟩)
      refine ⟨?_, trivial, trivial⟩
      refine DT.step [(35, _), (38, _)] rfl ⟨rfl, rfl, trivial⟩ rfl (fun wq_14 kq_14 => ?_)
      have zs_kq_14 := kq_14.size
      replace hB := hB.pure kq_14
      replace hL := hL.pure kq_14
      replace hG := hG.pure kq_14
      replace hw := hw.pure kq_14
      replace hd_3 := hd_3.pure kq_14
      replace hbl := hbl.pure kq_14
      replace b38 := b38.pure kq_14
      refine WL.append (e := esr) (xs := ls) (S := fun x => w.heap.size ≤ x) info_70 rfl Tryz.underlying83 (by show some (Value.slice la i lc) = some (Value.slice la ls.length lc); rw [hlen]) rfl hL.outer (b38.rsl.src Tryz.underlying83) (by rw [hlen]; constructor <;> (simp only [List.length_cons, List.length_nil]; omega)) (fun x hx => by omega) rfl ?_
      intro a9 c9 w9 hO9 g9 n9
      have k9 := g9.chg
      have hL9 := hL.snoc hbl (by
       rw [hZ]
       apply List.ext_getElem?
       intro j
       rw [List.getElem?_map]
       rcases Nat.lt_or_ge j sn with hj | hj
       ·rw [List.getElem?_replicate, if_pos hj, List.getElem?_range hj]; rfl
       ·rw [List.getElem?_replicate, if_neg (by omega), List.getElem?_eq_none (by rw [List.length_range]; exact hj)]; rfl) (by omega) hgno hO9 k9 (fun b e => e.1)
      have hkl : ∀ b, Eqb la b → kb _ b = some (some 70) := fun b e => (hL.outer.kb.at_.eqb e).2
      have hG9 := hG.chgK k9 (fun b _ e => by rw [hkl b e.1]; decide)
      have hB9 := hB.chg k9 (fun e => by have h1 := hkl _ e.1; rw [hB.kb] at h1; exact absurd h1 (by decide))
      have k9' := k9.mono (M' := fun x => w.heap.size ≤ x) (fun x _ e => e.2)
      have e10 : (ls ++ [(⟨some ⟨gn, 0, none⟩, cn, Z⟩ : Sr)]).length = i + 1 := hL9.len
      rw [e10]
      replace hw := hw.chg k9' (by intros; exfalso; (try dsimp only at *); omega)
      replace hd_3 := hd_3.chg k9' (by intro x h1 h2; exact h2)
      refine WL.nil (WX.one ⟨hd_3, ?_⟩)
      refine ⟨?_, trivial⟩
      refine DT.step [(41, _), (39, _)] rfl ⟨rfl, rfl, trivial⟩ rfl (fun wq_15 kq_15 => ?_)
      replace hw := hw.pure kq_15
      replace hd_3 := hd_3.pure kq_15
      replace hL9 := hL9.pure kq_15
      replace hG9 := hG9.pure kq_15
      replace hB9 := hB9.pure kq_15
      refine WL.store Tryz.sizeOf83 hB9 rfl rfl rfl rfl ?_
      intro w11 z11 hB11 k11
      have hL11 := hL9.chgK k11 (fun b _ e => by rw [show b = g_1 from e, hB9.kb]; exact ⟨by decide, by decide⟩)
      have hG11 := hG9.chgK k11 (fun b _ e => by rw [show b = g_1 from e, hB9.kb]; decide)
      have k11' := k11.mono (M' := fun x => w.heap.size ≤ x) (fun x _ e => by rw [show x = g_1 from e]; exact hgw)
      replace hw := hw.chg k11' (by intros; exfalso; (try dsimp only at *); omega)
      replace hd_3 := hd_3.chg k11' (by intro x h1 h2; exact h2)
      refine WL.nil (WX.qk (v := undef) ⟨hd_3, ?_⟩)
      refine DT.done (fun we_16 ke_16 => ?_) _
      replace hw := hw.pure ke_16
      replace hL11 := hL11.pure ke_16
      replace hG11 := hG11.pure ke_16
      replace hB11 := hB11.pure ke_16
      rotate_left
      refine DT.step [(36, _)] rfl ⟨rfl, trivial⟩ rfl (fun wq_11 kq_11 => ?_)
      have zs_kq_11 := kq_11.size
      replace hB := hB.pure kq_11
      replace hL := hL.pure kq_11
      replace hG := hG.pure kq_11
      replace hw := hw.pure kq_11
      replace hd_3 := hd_3.pure kq_11
      refine WL.call eg_46 rfl rfl (blank_calls _ sn hs) ?_
      rintro v w7 ⟨⟨gn, cn, rfl, hbl, hgn⟩, k7⟩
      have hgnl : gn < w7.heap.size := hbl.own.lt _ rfl
      have hgno : ∀ (e : Nat) (r : Sr), ls[e]? = some r → r.ao ≠ some ⟨gn, 0, none⟩ := fun e r he h9 => by
       obtain ⟨g', e1, _, e3⟩ := hL.own e r he
       rw [e1] at h9
       injection h9 with h9
       injection h9 with h9
       have h10 := e3.own.lt _ rfl
       dsimp only at h10
       omega
      replace hB := hB.pure k7
      replace hL := hL.pure k7
      replace hG := hG.pure k7
      replace hw := hw.pure k7
      replace hd_3 := hd_3.pure k7
      refine WL.nil (WX.one ⟨hd_3, ?_⟩)
      refine ⟨?_, ?_, trivial, trivial, trivial⟩
      refine DT.step [(34, _)] rfl ⟨rfl, trivial⟩ rfl (fun wq_12 kq_12 => ?_)
      have zs_kq_12 := kq_12.size
      replace hB := hB.pure kq_12
      replace hL := hL.pure kq_12
      replace hG := hG.pure kq_12
      replace hw := hw.pure kq_12
      replace hd_3 := hd_3.pure kq_12
      replace hbl := hbl.pure kq_12
      refine WL.qb Tryz.isAgg83 hB rfl rfl rfl (WL.nil (WX.one ⟨hd_3, ?_⟩))
      refine ⟨?_, trivial, trivial, trivial⟩
      refine DT.step [(37, _)] rfl ⟨rfl, trivial⟩ rfl (fun wq_13 kq_13 => ?_)
      have zs_kq_13 := kq_13.size
      replace hB := hB.pure kq_13
      replace hL := hL.pure kq_13
      replace hG := hG.pure kq_13
      replace hw := hw.pure kq_13
      replace hd_3 := hd_3.pure kq_13
      replace hbl := hbl.pure kq_13
      obtain ⟨Z, hZ⟩ : ∃ Z, Z = List.replicate sn (bs zeros) := ⟨_, rfl⟩
      have hZl : Z.length = sn := by rw [hZ, List.length_replicate]
      rw [← hZ] at hbl
      rw [show Value.slice (some ⟨gn, 0, none⟩) sn cn = Value.slice (some ⟨gn, 0, none⟩) Z.length cn from by rw [hZl]]
      refine WL.build (e := esr) [⟨some ⟨gn, 0, none⟩, cn, Z⟩] Tryz.underlying83 Tryz.sizeOf70 Tryz.zeroValue70 rfl rfl rfl (by simp [Value.cells] <;> rfl) (by decide) rfl ?_
      intro a_b38 w_b38 b38 l_b38 z_b38 k_b38
      replace hB := hB.pure k_b38
      replace hL := hL.pure k_b38
      replace hG := hG.pure k_b38
      replace hw := hw.pure k_b38
      replace hd_3 := hd_3.pure k_b38
      replace hbl := hbl.pure k_b38
      refine WL.nil (WX.one ⟨hd_3, ?_⟩)
      refine ⟨?_, trivial, trivial⟩
      refine DT.step [(35, _), (38, _)] rfl ⟨rfl, rfl, trivial⟩ rfl (fun wq_14 kq_14 => ?_)
      have zs_kq_14 := kq_14.size
      replace hB := hB.pure kq_14
      replace hL := hL.pure kq_14
      replace hG := hG.pure kq_14
      replace hw := hw.pure kq_14
      replace hd_3 := hd_3.pure kq_14
      replace hbl := hbl.pure kq_14
      replace b38 := b38.pure kq_14
      refine WL.append (e := esr) (xs := ls) (S := fun x => w.heap.size ≤ x) info_70 rfl Tryz.underlying83 (by show some (Value.slice la i lc) = some (Value.slice la ls.length lc); rw [hlen]) rfl hL.outer (b38.rsl.src Tryz.underlying83) (by rw [hlen]; constructor <;> (simp only [List.length_cons, List.length_nil]; omega)) (fun x hx => by omega) rfl ?_
      intro a9 c9 w9 hO9 g9 n9
      have k9 := g9.chg
      have hL9 := hL.snoc hbl (by
       rw [hZ]
       apply List.ext_getElem?
       intro j
       rw [List.getElem?_map]
       rcases Nat.lt_or_ge j sn with hj | hj
       ·rw [List.getElem?_replicate, if_pos hj, List.getElem?_range hj]; rfl
       ·rw [List.getElem?_replicate, if_neg (by omega), List.getElem?_eq_none (by rw [List.length_range]; exact hj)]; rfl) (by omega) hgno hO9 k9 (fun b e => e.1)
      have hkl : ∀ b, Eqb la b → kb _ b = some (some 70) := fun b e => (hL.outer.kb.at_.eqb e).2
      have hG9 := hG.chgK k9 (fun b _ e => by rw [hkl b e.1]; decide)
      have hB9 := hB.chg k9 (fun e => by have h1 := hkl _ e.1; rw [hB.kb] at h1; exact absurd h1 (by decide))
      have k9' := k9.mono (M' := fun x => w.heap.size ≤ x) (fun x _ e => e.2)
      have e10 : (ls ++ [(⟨some ⟨gn, 0, none⟩, cn, Z⟩ : Sr)]).length = i + 1 := hL9.len
      rw [e10]
      replace hw := hw.chg k9' (by intros; exfalso; (try dsimp only at *); omega)
      replace hd_3 := hd_3.chg k9' (by intro x h1 h2; exact h2)
      refine WL.nil (WX.one ⟨hd_3, ?_⟩)
      refine ⟨?_, trivial⟩
      refine DT.step [(41, _), (39, _)] rfl ⟨rfl, rfl, trivial⟩ rfl (fun wq_15 kq_15 => ?_)
      replace hw := hw.pure kq_15
      replace hd_3 := hd_3.pure kq_15
      replace hL9 := hL9.pure kq_15
      replace hG9 := hG9.pure kq_15
      replace hB9 := hB9.pure kq_15
      refine WL.store Tryz.sizeOf83 hB9 rfl rfl rfl rfl ?_
      intro w11 z11 hB11 k11
      have hL11 := hL9.chgK k11 (fun b _ e => by rw [show b = g_1 from e, hB9.kb]; exact ⟨by decide, by decide⟩)
      have hG11 := hG9.chgK k11 (fun b _ e => by rw [show b = g_1 from e, hB9.kb]; decide)
      have k11' := k11.mono (M' := fun x => w.heap.size ≤ x) (fun x _ e => by rw [show x = g_1 from e]; exact hgw)
      replace hw := hw.chg k11' (by intros; exfalso; (try dsimp only at *); omega)
      replace hd_3 := hd_3.chg k11' (by intro x h1 h2; exact h2)
      refine WL.nil (WX.qk (v := undef) ⟨hd_3, ?_⟩)
      refine DT.done (fun we_16 ke_16 => ?_) _
      replace hw := hw.pure ke_16
      replace hL11 := hL11.pure ke_16
      replace hG11 := hG11.pure ke_16
      replace hB11 := hB11.pure ke_16
      rotate_left
      refine DT.step [(37, _)] rfl ⟨rfl, trivial⟩ rfl (fun wq_12 kq_12 => ?_)
      have zs_kq_12 := kq_12.size
      replace hB := hB.pure kq_12
      replace hL := hL.pure kq_12
      replace hG := hG.pure kq_12
      replace hw := hw.pure kq_12
      replace hd_3 := hd_3.pure kq_12
      replace hbl := hbl.pure kq_12
      obtain ⟨Z, hZ⟩ : ∃ Z, Z = List.replicate sn (bs zeros) := ⟨_, rfl⟩
      have hZl : Z.length = sn := by rw [hZ, List.length_replicate]
      rw [← hZ] at hbl
      rw [show Value.slice (some ⟨gn, 0, none⟩) sn cn = Value.slice (some ⟨gn, 0, none⟩) Z.length cn from by rw [hZl]]
      refine WL.build (e := esr) [⟨some ⟨gn, 0, none⟩, cn, Z⟩] Tryz.underlying83 Tryz.sizeOf70 Tryz.zeroValue70 rfl rfl rfl (by simp [Value.cells] <;> rfl) (by decide) rfl ?_
      intro a_b38 w_b38 b38 l_b38 z_b38 k_b38
      replace hB := hB.pure k_b38
      replace hL := hL.pure k_b38
      replace hG := hG.pure k_b38
      replace hw := hw.pure k_b38
      replace hd_3 := hd_3.pure k_b38
      replace hbl := hbl.pure k_b38
      refine WL.nil (WX.one ⟨hd_3, ?_⟩)
      refine ⟨?_, trivial, trivial, trivial⟩
      refine DT.step [(34, _)] rfl ⟨rfl, trivial⟩ rfl (fun wq_13 kq_13 => ?_)
      have zs_kq_13 := kq_13.size
      replace hB := hB.pure kq_13
      replace hL := hL.pure kq_13
      replace hG := hG.pure kq_13
      replace hw := hw.pure kq_13
      replace hd_3 := hd_3.pure kq_13
      replace hbl := hbl.pure kq_13
      replace b38 := b38.pure kq_13
      refine WL.qb Tryz.isAgg83 hB rfl rfl rfl (WL.nil (WX.one ⟨hd_3, ?_⟩))
      refine ⟨?_, trivial, trivial⟩
      refine DT.step [(35, _), (38, _)] rfl ⟨rfl, rfl, trivial⟩ rfl (fun wq_14 kq_14 => ?_)
      have zs_kq_14 := kq_14.size
      replace hB := hB.pure kq_14
      replace hL := hL.pure kq_14
      replace hG := hG.pure kq_14
      replace hw := hw.pure kq_14
      replace hd_3 := hd_3.pure kq_14
      replace hbl := hbl.pure kq_14
      replace b38 := b38.pure kq_14
      refine WL.append (e := esr) (xs := ls) (S := fun x => w.heap.size ≤ x) info_70 rfl Tryz.underlying83 (by show some (Value.slice la i lc) = some (Value.slice la ls.length lc); rw [hlen]) rfl hL.outer (b38.rsl.src Tryz.underlying83) (by rw [hlen]; constructor <;> (simp only [List.length_cons, List.length_nil]; omega)) (fun x hx => by omega) rfl ?_
      intro a9 c9 w9 hO9 g9 n9
      have k9 := g9.chg
      have hL9 := hL.snoc hbl (by
       rw [hZ]
       apply List.ext_getElem?
       intro j
       rw [List.getElem?_map]
       rcases Nat.lt_or_ge j sn with hj | hj
       ·rw [List.getElem?_replicate, if_pos hj, List.getElem?_range hj]; rfl
       ·rw [List.getElem?_replicate, if_neg (by omega), List.getElem?_eq_none (by rw [List.length_range]; exact hj)]; rfl) (by omega) hgno hO9 k9 (fun b e => e.1)
      have hkl : ∀ b, Eqb la b → kb _ b = some (some 70) := fun b e => (hL.outer.kb.at_.eqb e).2
      have hG9 := hG.chgK k9 (fun b _ e => by rw [hkl b e.1]; decide)
      have hB9 := hB.chg k9 (fun e => by have h1 := hkl _ e.1; rw [hB.kb] at h1; exact absurd h1 (by decide))
      have k9' := k9.mono (M' := fun x => w.heap.size ≤ x) (fun x _ e => e.2)
      have e10 : (ls ++ [(⟨some ⟨gn, 0, none⟩, cn, Z⟩ : Sr)]).length = i + 1 := hL9.len
      rw [e10]
      replace hw := hw.chg k9' (by intros; exfalso; (try dsimp only at *); omega)
      replace hd_3 := hd_3.chg k9' (by intro x h1 h2; exact h2)
      refine WL.nil (WX.one ⟨hd_3, ?_⟩)
      refine ⟨?_, trivial⟩
      refine DT.step [(41, _), (39, _)] rfl ⟨rfl, rfl, trivial⟩ rfl (fun wq_15 kq_15 => ?_)
      replace hw := hw.pure kq_15
      replace hd_3 := hd_3.pure kq_15
      replace hL9 := hL9.pure kq_15
      replace hG9 := hG9.pure kq_15
      replace hB9 := hB9.pure kq_15
      refine WL.store Tryz.sizeOf83 hB9 rfl rfl rfl rfl ?_
      intro w11 z11 hB11 k11
      have hL11 := hL9.chgK k11 (fun b _ e => by rw [show b = g_1 from e, hB9.kb]; exact ⟨by decide, by decide⟩)
      have hG11 := hG9.chgK k11 (fun b _ e => by rw [show b = g_1 from e, hB9.kb]; decide)
      have k11' := k11.mono (M' := fun x => w.heap.size ≤ x) (fun x _ e => by rw [show x = g_1 from e]; exact hgw)
      replace hw := hw.chg k11' (by intros; exfalso; (try dsimp only at *); omega)
      replace hd_3 := hd_3.chg k11' (by intro x h1 h2; exact h2)
      refine WL.nil (WX.qk (v := undef) ⟨hd_3, ?_⟩)
      refine DT.done (fun we_16 ke_16 => ?_) _
      replace hw := hw.pure ke_16
      replace hL11 := hL11.pure ke_16
      replace hG11 := hG11.pure ke_16
      replace hB11 := hB11.pure ke_16
      rotate_left
      all_goals
       refine WX.qc (WX.qa (WC.region (WL.move rfl rfl (WL.qe rfl rfl (by omega) rfl (WL.assign rfl rfl (WL.nil (?_)))))))
       exact WX.qf (i + 1, a9, c9, ls ++ [(⟨some ⟨gn, 0, none⟩, cn, Z⟩ : Sr)]) ⟨rfl, rfl, rfl, rfl, trivial⟩ ⟨by show i + 1 ≤ _; omega, hB11, hL11, hG11, hw⟩ (by show dn - (i + 1) < dn - i; omega)
     ·refine WL.t (WC.qa rfl (WC.exit (WX.qd (WX.qd (WX.qh (WX.qa (WC.sr (WL.move rfl rfl (WL.assign rfl rfl (WL.assign rfl rfl (WL.t (WC.ret (WX.qi (.inl rfl) Tryz.results7 rfl rfl ?_)))))))))))))
      have hid : i = dn := by omega
      subst hid
      refine ⟨_, rfl, ⟨g_1, rfl, hgw, hok, (fun p hp => by cases hp), la, lc, ls, some ⟨g, 0, none⟩, i, none, 0, ?_, hL.congr (fun _ _ _ _ => rfl), hG, Row.nil _ _ _ _⟩, hw⟩
      show Blk w2 g_1 87 [.slice la i lc, .slice (some ⟨g, 0, none⟩) (List.replicate i false).length i, .slice none 0 0, .bool false, vi (-1)]
      rw [List.length_replicate]
      exact hB
end Go.Proofs.YtjeldcjchipdgaaGreatDoor
namespace Go.Proofs.YtjeldcjchipdgaaGreatDoor
open Go.RowKit Go.HL
set_option maxRecDepth 100000
theorem stF_dpc {s : RA} {f b n d : Int} (h : errS s d (f + n) = 0) : stF s f b n d = (0, dpc (heldS s (d, f + n)) b n) := by
 rw [stF, if_neg (by omega), if_neg (fun x => x h), dpc]
 cases pcD (heldS s (d, f + n)) with
 |none => rfl
 |some p =>
  dsimp only
  split <;> rfl
set_option maxHeartbeats 2000000 in
theorem dat_calls {A : Nat → Prop} {w : World} {D L : Nat} {s : RA} {l : LgV} (h : RD A w D s) (hn9 : s.waits.length ≤ 1000000) (hL : Blk w L 81 (lgC D l)) (hl : l.ok s.sn) (n : Nat) (hn : (n : Int) < l.c)
 (hno : ∀ d : Nat, d < s.dn → errS s d (l.f + n) ≠ 16) :
 Calls Tryz.prog 75 [ptr L, vi n].toArray w (Ret fun v w' => (∃ (t : ByteArray) (la : Bool), v = .tuple #[.string t, .bool la, .bool (findP s l.f l.b n).isSome] ∧
  ∀ p, findP s l.f l.b n = some p → t = p.text ∧ la = decide (p.last = 1)) ∧ Chg Nob w w') := by
 have hw := Chg.refl Nob w
 have hdn := h.ok.dn
 have lf := hl.f
 have lc := hl.c
 have lb := hl.b
 have lin := hl.in_
 have hsn := h.ok.sn
 have hLl := hL.lt
 have h128 : ∀ p, (heldS s p).length = 128 := fun p => heldS_len h.ok _
 replace h : RD (fun x => x < w.heap.size) w D s := h.old.mono (fun x hx => hx.2)
 refine Calls.of_WC Tryz.func75 rfl Tryz.ntmps75 (by simp) ?_
 refine WC.sr (WL.assign rfl rfl (WL.assign rfl rfl (WL.assign rfl rfl (WL.t (WC.seq (WC.sr (WL.assign rfl rfl (WL.t (WC.block (?_))))))))))
 refine WC.loop (σ := Nat) (fun k => [(0, ptr L), (1, vi n), (7, vi (k : Int))])
  (fun k w' => k ≤ s.dn ∧ fdR s l.f l.b n k = (0, none) ∧ RD (fun x => x < w.heap.size) w' D s ∧ Blk w' L 81 (lgC D l) ∧ Chg Nob w w') (fun k => s.dn - k) 0 ⟨rfl, rfl, rfl, trivial⟩
  ⟨Nat.zero_le _, rfl, h, hL, hw⟩ ?_
 clear h hL hw
 rintro k w3 ⟨hk, hF, h, hL, hw⟩
 obtain ⟨la, lc2, ls, ga, gc, wa, wc, hB, hI⟩ := h.ex
 have hlen := hI.ld.len
 refine WC.seq (WC.sr (WL.move rfl rfl (WL.move rfl rfl (WL.nilCheck rfl rfl (WL.fieldAddr (fld_81_0) rfl rfl (WL.qb Tryz.isAgg29 hL rfl rfl rfl (WL.nilCheck rfl rfl ?_)))))))
 refine WL.fieldAddr (fld_87_0) rfl rfl (WL.qb Tryz.isAgg83 hB rfl rfl rfl (WL.len Tryz.underlying83 rfl rfl ?_))
 refine WL.qh rfl rfl rfl (fun h22 => ?_) (fun h22 => ?_)
 ·refine WL.t (WC.qb rfl (WC.skip (WX.qa (WC.seq (WC.block (WC.seq (WC.drawP (Nob) [0, 1, 2, 3, 4, 5, 6, 7, 8, 9, 10] [(11, [12, 13, 14, 15, 16])] mixed rfl rfl (fun wd_1 kd_1 zd_1 => ?_))))))))
  have zs_kd_1 := kd_1.size
  replace h := h.pure kd_1
  replace hL := hL.pure kd_1
  replace hw := hw.pure kd_1
  replace hB := hB.pure kd_1
  apply DPQ.step (E' := [(0, _)])
  case ho => rfl
  case hs => exact ⟨rfl, trivial⟩
  case hk => rfl
  case h1 =>
   intro wq_2 kq_2
   refine WL.move rfl rfl (WL.q)
  apply DPQ.step (E' := [(26, _)])
  case ho => rfl
  case hs => exact ⟨rfl, trivial⟩
  case hk => rfl
  case h1 =>
   intro wq_3 kq_3
   refine WL.nilCheck rfl rfl (WL.q)
  apply DPQ.step (E' := [(27, _)])
  case ho => rfl
  case hs => exact ⟨rfl, trivial⟩
  case hk => rfl
  case h1 =>
   intro wq_4 kq_4
   refine WL.fieldAddr (fld_81_0) rfl rfl (WL.q)
  apply DPQ.step (E' := [(28, _)])
  case ho => rfl
  case hs => exact ⟨rfl, trivial⟩
  case hk => rfl
  case h1 =>
   intro wq_5 kq_5
   have zs_kq_5 := kq_5.size
   replace h := h.pure kq_5
   replace hL := hL.pure kq_5
   replace hw := hw.pure kq_5
   replace hB := hB.pure kq_5
   refine WL.qb Tryz.isAgg29 hL rfl rfl rfl (WL.q)
  apply DPQ.step (E' := [(7, _)])
  case ho => rfl
  case hs => exact ⟨rfl, trivial⟩
  case hk => rfl
  case h1 =>
   intro wq_6 kq_6
   refine WL.move rfl rfl (WL.q)
  apply DPQ.step (E' := [(0, _)])
  case ho => rfl
  case hs => exact ⟨rfl, trivial⟩
  case hk => rfl
  case h1 =>
   intro wq_7 kq_7
   refine WL.move rfl rfl (WL.q)
  apply DPQ.step (E' := [(31, _)])
  case ho => rfl
  case hs => exact ⟨rfl, trivial⟩
  case hk => rfl
  case h1 =>
   intro wq_8 kq_8
   refine WL.nilCheck rfl rfl (WL.q)
  apply DPQ.step (E' := [(32, _)])
  case ho => rfl
  case hs => exact ⟨rfl, trivial⟩
  case hk => rfl
  case h1 =>
   intro wq_9 kq_9
   refine WL.fieldAddr (fld_81_1) rfl rfl (WL.q)
  apply DPQ.step (E' := [(33, _)])
  case ho => rfl
  case hs => exact ⟨rfl, trivial⟩
  case hk => rfl
  case h1 =>
   intro wq_10 kq_10
   have zs_kq_10 := kq_10.size
   replace h := h.pure kq_10
   replace hL := hL.pure kq_10
   replace hw := hw.pure kq_10
   replace hB := hB.pure kq_10
   refine WL.qb Tryz.isAgg3 hL rfl rfl rfl (WL.q)
  apply DPQ.step (E' := [(1, _)])
  case ho => rfl
  case hs => exact ⟨rfl, trivial⟩
  case hk => rfl
  case h1 =>
   intro wq_11 kq_11
   refine WL.move rfl rfl (WL.q)
  apply DPQ.step (E' := [(34, _), (35, _)])
  case ho => rfl
  case hs => exact ⟨rfl, rfl, trivial⟩
  case hk => rfl
  case h1 =>
   intro wq_12 kq_12
   refine WL.qe rfl rfl (by omega) rfl (?_)
   exact WL.q
  refine DPQ.done (DPR.step [(29, _), (30, _), (36, _)] rfl ⟨rfl, rfl, rfl, trivial⟩ rfl (fun wq_13 kq_13 => ?_))
  have zs_kq_13 := kq_13.size
  replace h := h.pure kq_13
  replace hL := hL.pure kq_13
  replace hw := hw.pure kq_13
  replace hB := hB.pure kq_13
  have hd_13 := Chg.refl (Nob) wq_13
  refine WL.call eg_88 rfl rfl (dRead_calls h hn9 k (l.f + n)) ?_
  rintro v w5 ⟨rfl, k5⟩
  have zs_k5 := k5.size
  replace h := h.pure k5
  replace hL := hL.pure k5
  replace hw := hw.pure k5
  replace hB := hB.pure k5
  replace hd_13 := hd_13.pure k5
  refine WL.nil (WX.one ⟨hd_13, ?_⟩)
  apply DPQ.step (E' := [(37, _)])
  case ho => rfl
  case hs => exact ⟨rfl, trivial⟩
  case hk => rfl
  case h1 =>
   intro wq_14 kq_14
   refine WL.move rfl rfl (WL.q)
  apply DPQ.step (E' := [(25, _)])
  case ho => rfl
  case hs => exact ⟨rfl, trivial⟩
  case hk => rfl
  case h1 =>
   intro wq_15 kq_15
   refine WL.extract rfl rfl rfl (WL.q)
  apply DPQ.step (E' := [(25, _)])
  case ho => rfl
  case hs => exact ⟨rfl, trivial⟩
  case hk => rfl
  case h1 =>
   intro wq_16 kq_16
   refine WL.extract rfl rfl rfl (WL.q)
  apply DPQ.step (E' := [(38, _)])
  case ho => rfl
  case hs => exact ⟨rfl, trivial⟩
  case hk => rfl
  case h1 =>
   intro wq_17 kq_17
   refine WL.assign rfl rfl (WL.q)
  apply DPQ.step (E' := [(39, _)])
  case ho => rfl
  case hs => exact ⟨rfl, trivial⟩
  case hk => rfl
  case h1 =>
   intro wq_18 kq_18
   refine WL.assign rfl rfl (WL.q)
  refine DPQ.done (DPR.done (fun we_19 ke_19 => ?_))
  have zs_ke_19 := ke_19.size
  replace h := h.pure ke_19
  replace hL := hL.pure ke_19
  replace hw := hw.pure ke_19
  replace hB := hB.pure ke_19
  refine WX.qa (WC.seq (WC.sr (WL.move rfl rfl (WL.qo rfl rfl rfl (fun h41 => ?_) (fun h41 => ?_)))))
  ·refine WL.t (WC.qb rfl (WC.exit (WX.qd (WX.qh (WX.qa (WC.region (WL.move rfl rfl (WL.qe rfl rfl (by omega) rfl (WL.assign rfl rfl (WL.nil (?_)))))))))))
   have hF2 := fdR_go hF
   have hz : errS s k (l.f + n) ≠ 0 := h41
   have hz2 := hno k (by omega)
   have e3 : stF s l.f l.b n k = (0, none) := by rw [stF, if_neg hz2, if_pos hz]
   rw [e3] at hF2
   exact WX.qf (k + 1) ⟨rfl, rfl, rfl, trivial⟩ ⟨by omega, hF2, h, hL, hw⟩ (by show _ - _ < _ - _; omega)
  ·refine WL.t (WC.qa rfl (WC.skip (WX.qa (WC.sr (WL.move rfl rfl (WL.move rfl rfl (WL.nilCheck rfl rfl (WL.fieldAddr (fld_81_3) rfl rfl (WL.qb Tryz.isAgg3 hL rfl rfl rfl (WL.move rfl rfl (?_)))))))))))
   have hz : errS s k (l.f + n) = 0 := h41
   have hst := stF_dpc (b := l.b) hz
   rw [if_pos hz]
   refine WL.call eg_93 rfl rfl (dpiece_calls (bs (heldS s ((k : Int), l.f + n))) l.b n _ (by rw [bs_size, h128]; decide) lb (by omega)) ?_
   rintro v w6 ⟨⟨t, la', rfl, ht⟩, k6⟩
   rw [show (bs (heldS s ((k : Int), l.f + n))).data.toList = heldS s ((k : Int), l.f + n) from rfl] at ht ⊢
   obtain ⟨r, er⟩ : ∃ r, r = dpc (heldS s ((k : Int), l.f + n)) l.b n := ⟨_, rfl⟩
   rw [← er] at ht hst ⊢
   have zs_k6 := k6.size
   replace h := h.pure k6
   replace hL := hL.pure k6
   replace hw := hw.pure k6
   replace hB := hB.pure k6
   cases r
   ·refine WL.move rfl rfl (WL.extract rfl rfl rfl (WL.extract rfl rfl rfl (WL.extract rfl rfl rfl (WL.assign rfl rfl (WL.assign rfl rfl (WL.assign rfl rfl (WL.nil (WX.qa (WC.sr (WL.move rfl rfl (WL.t (WC.qa rfl (WC.skip (WX.qc (WX.qa (WC.region (WL.move rfl rfl (WL.qe rfl rfl (by omega) rfl (WL.assign rfl rfl (WL.nil (?_)))))))))))))))))))))
    have hF2 := fdR_go hF
    rw [hst] at hF2
    exact WX.qf (k + 1) ⟨rfl, rfl, rfl, trivial⟩ ⟨by omega, hF2, h, hL, hw⟩ (by show _ - _ < _ - _; omega)
   ·rename_i q
    refine WL.move rfl rfl (WL.extract rfl rfl rfl (WL.extract rfl rfl rfl (WL.extract rfl rfl rfl (WL.assign rfl rfl (WL.assign rfl rfl (WL.assign rfl rfl (WL.nil (WX.qa (WC.sr (WL.move rfl rfl (WL.t (WC.qb rfl (WC.seq (WC.region (WL.move rfl rfl (WL.move rfl rfl (WL.assign rfl rfl (WL.assign rfl rfl (WL.assign rfl rfl (WL.t (WC.ret (WX.qe (WX.qb (WX.qb (WX.qe (WX.qb (WX.qj (.inl rfl) Tryz.results75 rfl rfl rfl ?_)))))))))))))))))))))))))))
    have hF2 := fdR_hit (n := n) hF hst (by rintro ⟨_, h2⟩; cases h2) (by omega)
    have e2 : findP s l.f l.b n = some q := by rw [findP, hF2]
    obtain ⟨t1, t2⟩ := ht q rfl
    rw [e2]
    exact ⟨_, rfl, ⟨_, _, rfl, fun p hp => by injection hp with hp; subst hp; exact ⟨t1, t2⟩⟩, hw⟩
 ·refine WL.t (WC.qa rfl (WC.exit (WX.qd (WX.qd (WX.qh (WX.qa (WC.sr (WL.assign rfl rfl (WL.assign rfl rfl (WL.assign rfl rfl (WL.t (WC.ret (WX.qj (.inl rfl) Tryz.results75 rfl rfl rfl ?_)))))))))))))
  have hkd : k = s.dn := by omega
  have e2 : findP s l.f l.b n = none := by rw [findP, ← hkd, hF]
  rw [e2]
  exact ⟨_, rfl, ⟨_, _, rfl, fun p hp => by cases hp⟩, hw⟩
end Go.Proofs.YtjeldcjchipdgaaGreatDoor
namespace Go.Proofs.YtjeldcjchipdgaaGreatDoor
open Go.RowKit Go.HL
set_option maxRecDepth 100000
theorem lroom_calls {w : World} {R L : Nat} {l : LgV} {sn : Nat} (hL : Blk w L 125 (lgC R l)) (hl : l.ok sn) :
 Calls Tryz.prog 33 [ptr L].toArray w (Ret fun v w' => v = vi (l.c - l.nx) ∧ Chg Nob w w') := by
 have hw := Chg.refl Nob w
 have hc := hl.c
 have hx := hl.nx
 refine Calls.of_WC Tryz.func33 rfl Tryz.ntmps33 (by simp) ?_
 refine WC.sr (WL.assign rfl rfl (WL.t (WC.seq (WC.sr (WL.move rfl rfl (WL.qq Tryz.underlying66 rfl rfl rfl ?_))))))
 refine WL.t (WC.qa rfl (WC.skip (WX.qa (WC.seq (WC.qc (Nob) [0, 1, 2, 3, 4, 5, 6, 7, 8, 9] [] mixed rfl rfl (fun wd_1 kd_1 zd_1 => ?_))))))
 have zs_kd_1 := kd_1.size
 replace hL := hL.pure kd_1
 replace hw := hw.pure kd_1
 apply DQ.step [(0, _)] rfl ⟨rfl, trivial⟩ rfl (fun _ _ => WL.move rfl rfl  WL.q)
 apply DQ.step [(5, _)] rfl ⟨rfl, trivial⟩ rfl (fun _ _ => WL.nilCheck rfl rfl  WL.q)
 apply DQ.step [(6, _)] rfl ⟨rfl, trivial⟩ rfl (fun _ _ => WL.fieldAddr (fld_125_2) rfl rfl  WL.q)
 apply DQ.step [(7, _)] rfl ⟨rfl, trivial⟩ rfl
 ·intro wq_5 kq_5
  have zs_kq_5 := kq_5.size
  replace hL := hL.pure kq_5
  replace hw := hw.pure kq_5
  refine WL.qb Tryz.isAgg3 hL rfl rfl rfl (WL.q)
 apply DQ.step [(0, _)] rfl ⟨rfl, trivial⟩ rfl (fun _ _ => WL.move rfl rfl  WL.q)
 apply DQ.step [(9, _)] rfl ⟨rfl, trivial⟩ rfl (fun _ _ => WL.nilCheck rfl rfl  WL.q)
 apply DQ.step [(10, _)] rfl ⟨rfl, trivial⟩ rfl (fun _ _ => WL.fieldAddr (fld_125_4) rfl rfl  WL.q)
 apply DQ.step [(11, _)] rfl ⟨rfl, trivial⟩ rfl
 ·intro wq_9 kq_9
  have zs_kq_9 := kq_9.size
  replace hL := hL.pure kq_9
  replace hw := hw.pure kq_9
  refine WL.qb Tryz.isAgg3 hL rfl rfl rfl (WL.q)
 apply DQ.step [(8, _), (12, _)] rfl ⟨rfl, rfl, trivial⟩ rfl (fun _ _ => WL.qj rfl rfl (by omega) rfl  WL.q)
 apply DQ.step [(13, _)] rfl ⟨rfl, trivial⟩ rfl (fun _ _ => WL.assign rfl rfl  WL.q)
 refine DQ.done (fun _ => ?_)
 refine DL.done (fun we_12 ke_12 => ?_)
 have zs_ke_12 := ke_12.size
 replace hL := hL.pure ke_12
 replace hw := hw.pure ke_12
 refine WX.qa (WC.ret (WX.qg (.inl rfl) Tryz.results33 rfl ?_))
 exact ⟨_, rfl, rfl, hw⟩
theorem lbase_calls {w : World} {R L : Nat} {l : LgV} (hL : Blk w L 125 (lgC R l)) :
 Calls Tryz.prog 44 [ptr L].toArray w (Ret fun v w' => v = vi l.b ∧ Chg Nob w w') := by
 have hw := Chg.refl Nob w
 refine Calls.of_WC Tryz.func44 rfl Tryz.ntmps44 (by simp) ?_
 refine WC.sr (WL.assign rfl rfl (WL.t (WC.seq (WC.sr (WL.move rfl rfl (WL.qq Tryz.underlying66 rfl rfl rfl ?_))))))
 refine WL.t (WC.qa rfl (WC.skip (WX.qa (WC.sr (WL.move rfl rfl (WL.nilCheck rfl rfl (WL.fieldAddr (fld_125_3) rfl rfl (WL.qb Tryz.isAgg3 hL rfl rfl rfl (WL.assign rfl rfl (WL.t (WC.ret (WX.qg (.inl rfl) Tryz.results44 rfl ?_))))))))))))
 exact ⟨_, rfl, rfl, hw⟩
theorem opA_at {s : RA} {f b : Int} {k : Nat} {e : Int} {p : Option PcV} (h : (opA s f b k).stop = false) (h0 : (opA s f b k).err = 0) (he : findE s f b k = e) (hp : findP s f b k = p) :
 (e ≠ 0 → (opA s f b (k + 1)).stop = true ∧ (opA s f b (k + 1)).err = e) ∧
 (e = 0 → p = none → (opA s f b (k + 1)).stop = true ∧ (opA s f b (k + 1)).err = 0 ∧ (opA s f b (k + 1)).out = (opA s f b k).out ∧ (opA s f b (k + 1)).next = (opA s f b k).next) ∧
 (∀ q, e = 0 → p = some q → q.last = 1 → opA s f b (k + 1) = ⟨false, 0, [], (opA s f b k).out ++ [bs ((opA s f b k).acc ++ q.text.data.toList)], k + 1⟩) ∧
 (∀ q, e = 0 → p = some q → q.last ≠ 1 → opA s f b (k + 1) = ⟨false, 0, (opA s f b k).acc ++ q.text.data.toList, (opA s f b k).out, (opA s f b k).next⟩) := by
 have e1 : opA s f b (k + 1) = stA s f b k (opA s f b k) := by rw [opA, if_neg (by rw [h]; decide)]
 subst he; subst hp
 refine ⟨fun h1 => ?_, fun h1 h2 => ?_, fun q h1 h2 h3 => ?_, fun q h1 h2 h3 => ?_⟩
 ·rw [e1, stA, if_pos h1]
  exact ⟨rfl, rfl⟩
 ·rw [e1, stA, if_neg (fun x => x h1), h2]
  exact ⟨rfl, h0, rfl, rfl⟩
 ·rw [e1, stA, if_neg (fun x => x h1), h2]
  dsimp only
  rw [if_pos h3, h, h0]
 ·rw [e1, stA, if_neg (fun x => x h1), h2]
  dsimp only
  rw [if_neg h3, h, h0]
theorem open_end {s : RA} {f c b : Int} (h : opOk s f c b) {k : Nat} (hk : k ≤ c.toNat) (hs : (opA s f b k).stop = true ∨ k = c.toNat) : openE s f c b = (opA s f b k).err ∧ openN s f c b = (opA s f b k).next ∧ (openE s f c b = 0 → openL s f c b = (opA s f b k).out) := by
 have e : opA s f b c.toNat = opA s f b k := by
  rcases hs with h1 | h1
  ·have := opA_stuck h1 (c.toNat - k)
   rw [show k + (c.toNat - k) = c.toNat from by omega] at this
   exact this
  ·rw [h1]
 have e1 : openE s f c b = (opA s f b k).err := by rw [openE, if_pos h, e]
 refine ⟨e1, by rw [openN, e], fun h0 => by rw [openL, if_pos h0, e]⟩
theorem open_no {s : RA} {f c b : Int} (h : ¬ opOk s f c b) : openE s f c b = 1 := by rw [openE, if_neg h]
theorem Bd.kbs {S : Nat → Prop} {w : World} {B : Nat} {acc : List UInt8} (h : Bd S w B acc) : Bd (fun x => S x ∧ (kb w x = some (some 131) ∨ kb w x = some (some 5))) w B acc := by
 obtain ⟨pa, ao, c, h1, h2, h3⟩ := h.ex
 exact ⟨⟨h.sB, .inl h1.kb⟩, pa, ao, c, h1, h2, h3.kb.mono (fun b hb => ⟨⟨hb.1.1, .inr hb.2⟩, hb.1.2⟩)⟩
theorem Bd.lt {S : Nat → Prop} {w : World} {B : Nat} {acc : List UInt8} (h : Bd S w B acc) : B < w.heap.size := by
 obtain ⟨pa, ao, c, h1, h2, h3⟩ := h.ex
 exact h1.lt
theorem openL_no {s : RA} {f c b : Int} (h : openE s f c b ≠ 0) : openL s f c b = [] := by rw [openL, if_neg h]
set_option maxHeartbeats 4000000 in
theorem iopen_calls {A : Nat → Prop} {w : World} {R : Nat} {s : RA} (h : RK A w R s) (f c b : Int) (hf : i64R f) (hc : i64R c) :
 Calls Tryz.prog 36 [ptr R, vi f, vi c, vi b].toArray w (Ret fun v w' => (∃ (pl ao : Option Addr) (cp : Nat), v = .tuple #[.pointer pl, .slice ao (openL s f c b).length cp, vi (openE s f c b)] ∧ Row (w.heap.size ≤ ·) w' 9 es ao cp (openL s f c b) ∧
  (openE s f c b ≠ 0 → pl = none) ∧ (openE s f c b = 0 → ∃ L, pl = some ⟨L, 0, none⟩ ∧ w.heap.size ≤ L ∧ (∀ q, ao = some q → q.block ≠ L) ∧ Blk w' L 125 (lgC R ⟨f, c, b, openN s f c b⟩) ∧ (⟨f, c, b, openN s f c b⟩ : LgV).ok s.sn)) ∧ Chg Nob w w') := by
 have hw := Chg.refl Nob w
 obtain ⟨f0, f9⟩ := hf
 obtain ⟨c0, c9⟩ := hc
 have hsn := h.ok.sn
 replace h : RK (fun x => x < w.heap.size) w R s := h.old.mono (fun x hx => hx.2)
 refine Calls.of_WC Tryz.func36 rfl Tryz.ntmps36 (by simp) ?_
 refine WC.sr (WL.assign rfl rfl (WL.assign rfl rfl (WL.assign rfl rfl (WL.t (WC.seq (WC.sr (WL.move rfl rfl (WL.qh rfl rfl rfl (fun h19 => ?_) (fun h19 => ?_)))))))))
 ·refine WL.move rfl rfl (WL.pass rfl rfl rfl rfl (WL.pass rfl rfl rfl rfl (WL.qd rfl rfl rfl (WL.move rfl rfl (WL.pass rfl rfl rfl rfl (WL.pass rfl rfl rfl rfl (WL.qd rfl rfl rfl (WL.move rfl rfl (WL.pass rfl rfl rfl rfl (WL.pass rfl rfl rfl rfl (WL.pass rfl rfl rfl rfl (WL.pass rfl rfl rfl rfl (WL.pass rfl rfl rfl rfl (WL.pass rfl rfl rfl rfl (WL.qd rfl rfl rfl (WL.move rfl rfl (WL.pass rfl rfl rfl rfl (WL.pass rfl rfl rfl rfl (WL.qd rfl rfl rfl (WL.move rfl rfl (WL.pass rfl rfl rfl rfl (WL.pass rfl rfl rfl rfl (WL.qd rfl rfl rfl (WL.t (WC.qb rfl (WC.sr (WL.assign rfl rfl (WL.assign rfl rfl (WL.assign rfl rfl (WL.t (WC.ret (WX.qb (WX.qj (.inl rfl) Tryz.results36 rfl rfl rfl ?_)))))))))))))))))))))))))))))))))
  have hno : ¬ opOk s f c b := by
   rintro ⟨o1, o2, o3, o4, o5, o6⟩
   omega
  have d1 := open_no hno
  rw [d1, openL_no (by rw [d1]; decide)]
  exact ⟨_, rfl, ⟨none, none, 0, rfl, Row.nil _ _ _ _, fun _ => rfl, fun h9 => absurd h9 (by decide)⟩, hw⟩
 ·refine WL.move rfl rfl (WL.qa rfl rfl rfl (WL.move rfl rfl (WL.qa rfl rfl rfl (WL.qh rfl rfl rfl (fun h22 => ?_) (fun h22 => ?_)))))
  ·refine WL.qc rfl rfl rfl (WL.move rfl rfl (WL.pass rfl rfl rfl rfl (WL.pass rfl rfl rfl rfl (WL.qd rfl rfl rfl (WL.move rfl rfl (WL.pass rfl rfl rfl rfl (WL.pass rfl rfl rfl rfl (WL.pass rfl rfl rfl rfl (WL.pass rfl rfl rfl rfl (WL.pass rfl rfl rfl rfl (WL.pass rfl rfl rfl rfl (WL.qd rfl rfl rfl (WL.move rfl rfl (WL.pass rfl rfl rfl rfl (WL.pass rfl rfl rfl rfl (WL.qd rfl rfl rfl (WL.move rfl rfl (WL.pass rfl rfl rfl rfl (WL.pass rfl rfl rfl rfl (WL.qd rfl rfl rfl (WL.t (WC.qb rfl (WC.sr (WL.assign rfl rfl (WL.assign rfl rfl (WL.assign rfl rfl (WL.t (WC.ret (WX.qb (WX.qj (.inl rfl) Tryz.results36 rfl rfl rfl ?_))))))))))))))))))))))))))))))
   have hno : ¬ opOk s f c b := by
    rintro ⟨o1, o2, o3, o4, o5, o6⟩
    omega
   have d1 := open_no hno
   rw [d1, openL_no (by rw [d1]; decide)]
   exact ⟨_, rfl, ⟨none, none, 0, rfl, Row.nil _ _ _ _, fun _ => rfl, fun h9 => absurd h9 (by decide)⟩, hw⟩
  ·refine WL.qc rfl rfl rfl (WL.move rfl rfl (WL.qa rfl rfl rfl (WL.move rfl rfl (WL.qa rfl rfl rfl (WL.qn rfl rfl rfl (fun h26 => ?_) (fun h26 => ?_))))))
   ·refine WL.qc rfl rfl rfl (WL.move rfl rfl (WL.pass rfl rfl rfl rfl (WL.pass rfl rfl rfl rfl (WL.pass rfl rfl rfl rfl (WL.pass rfl rfl rfl rfl (WL.pass rfl rfl rfl rfl (WL.pass rfl rfl rfl rfl (WL.qd rfl rfl rfl (WL.move rfl rfl (WL.pass rfl rfl rfl rfl (WL.pass rfl rfl rfl rfl (WL.qd rfl rfl rfl (WL.move rfl rfl (WL.pass rfl rfl rfl rfl (WL.pass rfl rfl rfl rfl (WL.qd rfl rfl rfl (WL.t (WC.qb rfl (WC.sr (WL.assign rfl rfl (WL.assign rfl rfl (WL.assign rfl rfl (WL.t (WC.ret (WX.qb (WX.qj (.inl rfl) Tryz.results36 rfl rfl rfl ?_))))))))))))))))))))))))))
    have hno : ¬ opOk s f c b := by
     rintro ⟨o1, o2, o3, o4, o5, o6⟩
     omega
    have d1 := open_no hno
    rw [d1, openL_no (by rw [d1]; decide)]
    exact ⟨_, rfl, ⟨none, none, 0, rfl, Row.nil _ _ _ _, fun _ => rfl, fun h9 => absurd h9 (by decide)⟩, hw⟩
   ·refine WL.qc rfl rfl rfl (WL.move rfl rfl (WL.qa rfl rfl rfl (WL.move rfl rfl (WL.qa rfl rfl rfl (WL.move rfl rfl (WL.qa rfl rfl rfl (WL.call eg_70 rfl rfl (Sectors_calls h) ?_)))))))
    rintro v w1 ⟨rfl, k1⟩
    have zs_k1 := k1.size
    replace h := h.pure k1
    replace hw := hw.pure k1
    refine WL.qa rfl rfl rfl (WL.move rfl rfl (WL.qa rfl rfl rfl (WL.qj rfl rfl (by omega) rfl (WL.qa rfl rfl rfl (?_)))))
    refine WL.qn rfl rfl rfl (fun h34 => ?_) (fun h34 => ?_)
    ·refine WL.qc rfl rfl rfl (WL.move rfl rfl (WL.pass rfl rfl rfl rfl (WL.pass rfl rfl rfl rfl (WL.qd rfl rfl rfl (WL.move rfl rfl (WL.pass rfl rfl rfl rfl (WL.pass rfl rfl rfl rfl (WL.qd rfl rfl rfl (WL.t (WC.qb rfl (WC.sr (WL.assign rfl rfl (WL.assign rfl rfl (WL.assign rfl rfl (WL.t (WC.ret (WX.qb (WX.qj (.inl rfl) Tryz.results36 rfl rfl rfl ?_))))))))))))))))))
     have hno : ¬ opOk s f c b := by
      rintro ⟨o1, o2, o3, o4, o5, o6⟩
      omega
     have d1 := open_no hno
     rw [d1, openL_no (by rw [d1]; decide)]
     exact ⟨_, rfl, ⟨none, none, 0, rfl, Row.nil _ _ _ _, fun _ => rfl, fun h9 => absurd h9 (by decide)⟩, hw⟩
    ·refine WL.qc rfl rfl rfl (WL.move rfl rfl (WL.qa rfl rfl rfl (WL.move rfl rfl (WL.qa rfl rfl rfl (WL.qh rfl rfl rfl (fun h38 => ?_) (fun h38 => ?_))))))
     ·refine WL.qc rfl rfl rfl (WL.move rfl rfl (WL.pass rfl rfl rfl rfl (WL.pass rfl rfl rfl rfl (WL.qd rfl rfl rfl (WL.t (WC.qb rfl (WC.sr (WL.assign rfl rfl (WL.assign rfl rfl (WL.assign rfl rfl (WL.t (WC.ret (WX.qb (WX.qj (.inl rfl) Tryz.results36 rfl rfl rfl ?_))))))))))))))
      have hno : ¬ opOk s f c b := by
       rintro ⟨o1, o2, o3, o4, o5, o6⟩
       omega
      have d1 := open_no hno
      rw [d1, openL_no (by rw [d1]; decide)]
      exact ⟨_, rfl, ⟨none, none, 0, rfl, Row.nil _ _ _ _, fun _ => rfl, fun h9 => absurd h9 (by decide)⟩, hw⟩
     ·refine WL.qc rfl rfl rfl (WL.move rfl rfl (WL.qa rfl rfl rfl (WL.move rfl rfl (WL.qa rfl rfl rfl (WL.qn rfl rfl rfl (fun h42 => ?_) (fun h42 => ?_))))))
      ·refine WL.qc rfl rfl rfl (WL.t (WC.qb rfl (WC.sr (WL.assign rfl rfl (WL.assign rfl rfl (WL.assign rfl rfl (WL.t (WC.ret (WX.qb (WX.qj (.inl rfl) Tryz.results36 rfl rfl rfl ?_))))))))))
       have hno : ¬ opOk s f c b := by
        rintro ⟨o1, o2, o3, o4, o5, o6⟩
        omega
       have d1 := open_no hno
       rw [d1, openL_no (by rw [d1]; decide)]
       exact ⟨_, rfl, ⟨none, none, 0, rfl, Row.nil _ _ _ _, fun _ => rfl, fun h9 => absurd h9 (by decide)⟩, hw⟩
      ·refine WL.qc rfl rfl rfl (WL.t (WC.qa rfl (WC.skip (WX.qa (WC.sr (WL.move rfl rfl (WL.move rfl rfl (WL.move rfl rfl (WL.move rfl rfl (WL.bld rfl (bld_125_0_1_2_3 _ _ _ _) rfl (WL.box rfl rfl ?_)))))))))))
       intro g_1 w_1 hge_1 hlt_1 hb_1 k_1
       have zs_k_1 := k_1.size
       replace h := h.pure k_1
       replace hw := hw.pure k_1
       refine WL.assign rfl rfl (WL.t (WC.sr (WL.assign rfl rfl (WL.t (WC.sr (WL.alloc Tryz.zeroValue131 rfl ?_))))))
       intro g_2 w_2 hge_2 hlt_2 hb_2 k_2
       have zs_k_2 := k_2.size
       replace h := h.pure k_2
       replace hw := hw.pure k_2
       replace hb_1 := hb_1.pure k_2
       refine WL.t (WC.seq (WC.sr (WL.move rfl rfl (WL.move rfl rfl (WL.nil (WX.qa (WC.block (?_))))))))
       have hO : opOk s f c b := ⟨by omega, by omega, by omega, by omega, by omega, by omega⟩
       obtain ⟨n1, en1⟩ : ∃ n1, n1 = w1.heap.size := ⟨_, rfl⟩
       have hzw : w.heap.size ≤ n1 := by omega
       have hg1 : n1 ≤ g_1 ∧ g_1 < g_2 := by omega
       have hBd := (Bd.new (Blk.eqc (cs' := [.pointer none, .slice none 0 0]) hb_2 rfl)).mono (S' := fun x => n1 ≤ x ∧ x ≠ g_1) (fun x hx => by have : x = g_2 := hx; omega)
       refine WC.loop (σ := Nat × Option Addr × Nat) (fun q => [(11, ptr g_1), (12, .slice q.2.1 (opA s f b q.1).out.length q.2.2), (13, ptr g_2), (50, vi c), (51, vi (q.1 : Int))])
        (fun q w' => q.1 ≤ c.toNat ∧ (opA s f b q.1).stop = false ∧ (opA s f b q.1).err = 0 ∧ Blk w' g_1 125 (lgC R ⟨f, c, b, (opA s f b q.1).next⟩) ∧ Bd (fun x => n1 ≤ x ∧ x ≠ g_1) w' g_2 (opA s f b q.1).acc ∧ Row (fun x => n1 ≤ x ∧ x ≠ g_1) w' 9 es q.2.1 q.2.2 (opA s f b q.1).out ∧ RK (fun x => x < w.heap.size) w' R s ∧ Chg Nob w w') (fun q => c.toNat - q.1) (0, none, 0) ⟨rfl, rfl, rfl, rfl, rfl, trivial⟩
        ⟨Nat.zero_le _, rfl, rfl, Blk.eqc hb_1 rfl, hBd, Row.nil _ _ _ _, h, hw⟩ ?_
       clear hBd hb_1 hb_2 h hw
       rintro ⟨k, ao, cp⟩ w3 ⟨hk, hS, hE0, hb1, hBd, hout, h, hw⟩
       dsimp only at hk hS hE0 hb1 hBd hout ⊢
       replace hBd := hBd.old
       replace hout := hout.lt
       obtain ⟨x1, x2, x3⟩ := opA_next (s := s) (f := f) (b := b) k
       have hlk : (⟨f, c, b, (opA s f b k).next⟩ : LgV).ok s.sn := ⟨by show 0 ≤ f; omega, by show 1 ≤ c ∧ c ≤ 500; omega, by show 0 ≤ b ∧ b ≤ _; omega, by show 0 ≤ ((opA s f b k).next : Int) ∧ ((opA s f b k).next : Int) ≤ c; omega, by show f + c ≤ _; omega⟩
       have lg1 := hb1.lt
       have lg2 := hBd.lt
       have hoA := @opA_at s f b k _ _ hS hE0 rfl rfl
       obtain ⟨a1, a2, a3, a4⟩ := hoA
       refine WC.sr (WL.qh rfl rfl rfl (fun h52 => ?_) (fun h52 => ?_))
       ·refine WL.t (WC.seq (WC.qb rfl (WC.skip (WX.qa (WC.seq (WC.block (WC.sr (WL.move rfl rfl (WL.assign rfl rfl (WL.t (WC.sr (WL.move rfl rfl (WL.move rfl rfl (?_))))))))))))))
        have hkc : (k : Int) < c := by omega
        refine WL.call eg_71 rfl rfl (find_calls h hb1 hlk k hkc) ?_
        rintro v w5 ⟨⟨p, rfl, hp⟩, k5⟩
        have zs_k5 := k5.size
        replace hb1 := hb1.pure k5
        replace hBd := hBd.pure k5
        replace hout := hout.pure k5
        replace h := h.pure k5
        replace hw := hw.pure k5
        dsimp only at hp
        cases hP : findP s f b k
        ·refine WL.move rfl rfl (WL.extract rfl rfl rfl (WL.extract rfl rfl rfl (WL.extract rfl rfl rfl (WL.alloc Tryz.zeroValue127 rfl ?_))))
         intro g_3 w_3 hge_3 hlt_3 hb_3 k_3
         have zs_k_3 := k_3.size
         replace hb1 := hb1.pure k_3
         replace hBd := hBd.pure k_3
         replace hout := hout.pure k_3
         replace h := h.pure k_3
         replace hw := hw.pure k_3
         refine WL.ql Tryz.sizeOf127 hb_3 rfl rfl (by rfl) (by exact Enc.one _ _) (by exact Nat.le_of_ble_eq_true rfl) rfl ?_
         intro w_4 hs_4 hn_4 k_4
         have zs_k_4 := k_4.size
         replace hb1 := hb1.chg k_4 (by intro h1; have h2 : _ = _ := h1; exfalso; omega)
         replace hBd := hBd.chg k_4 (by intro b h1 h2 h3; have h4 : _ = _ := h3; (try dsimp only at h2); exfalso; omega)
         replace hout := hout.chg k_4 (by intro b h1 h2 h3; have h4 : _ = _ := h3; (try dsimp only at h2); exfalso; omega)
         replace h := h.chg k_4 (by intro b h1 h2 h3; have h4 : _ = _ := h3; (try dsimp only at h2); exfalso; omega)
         replace hw := hw.chg k_4 (by intro x h1 h2; have h3 : _ = _ := h2; exfalso; omega)
         replace hb_3 := hn_4
         refine WL.assign rfl rfl (WL.assign rfl rfl (WL.t (WC.seq (WC.sr (WL.move rfl rfl (WL.qo rfl rfl rfl (fun h62 => ?_) (fun h62 => ?_)))))))
         ·refine WL.t (WC.qb rfl (WC.sr (WL.move rfl rfl (WL.assign rfl rfl (WL.assign rfl rfl (WL.assign rfl rfl (WL.t (WC.ret (WX.qb (WX.qe (WX.qb (WX.qb (WX.qe (WX.qb (WX.qj (.inl rfl) Tryz.results36 rfl rfl rfl ?_)))))))))))))))
          have hk2 : findE s f b k ≠ 0 := h62
          obtain ⟨b1, b2⟩ := a1 hk2
          obtain ⟨d1, d2, d3⟩ := open_end hO (k := k + 1) (by omega) (.inl b1)
          rw [b2] at d1
          rw [d1, openL_no (by rw [d1]; exact hk2)]
          exact ⟨_, rfl, ⟨none, none, 0, rfl, Row.nil _ _ _ _, fun _ => rfl, fun h9 => absurd h9 hk2⟩, hw⟩
         ·refine WL.t (WC.qa rfl (WC.skip (WX.qa (WC.seq (WC.sr (WL.move rfl rfl (WL.not rfl rfl (WL.t (WC.qb rfl (WC.exit (WX.qd (WX.block_on rfl (WX.qd (WX.qd (WX.qh (WX.qa (WC.sr (WL.move rfl rfl (WL.move rfl rfl (WL.assign rfl rfl (WL.assign rfl rfl (WL.assign rfl rfl (WL.t (WC.ret (WX.qj (.inl rfl) Tryz.results36 rfl rfl rfl ?_)))))))))))))))))))))))))
          have hk2 : findE s f b k = 0 := h62
          obtain ⟨b1, b2, b3, b4⟩ := a2 hk2 hP
          obtain ⟨d1, d2, d3⟩ := open_end hO (k := k + 1) (by omega) (.inl b1)
          rw [b2] at d1
          have d4 := d3 d1
          rw [b3] at d4
          rw [b4] at d2
          rw [d1, d4, d2]
          exact ⟨_, rfl, ⟨some ⟨g_1, 0, none⟩, ao, cp, rfl, hout.mono (fun x hx => by omega), fun h9 => absurd rfl h9, fun _ => ⟨g_1, rfl, by omega, fun q hq => (hout.at_ q hq).1.2, hb1, hlk⟩⟩, hw⟩
        ·rename_i q
         obtain rfl := hp q hP
         have hpt := (findP_text hP).1
         refine WL.move rfl rfl (WL.extract rfl rfl rfl (WL.extract rfl rfl rfl (WL.extract rfl rfl rfl (WL.alloc Tryz.zeroValue127 rfl ?_))))
         intro g_3 w_3 hge_3 hlt_3 hb_3 k_3
         have zs_k_3 := k_3.size
         replace hb1 := hb1.pure k_3
         replace hBd := hBd.pure k_3
         replace hout := hout.pure k_3
         replace h := h.pure k_3
         replace hw := hw.pure k_3
         refine WL.ql Tryz.sizeOf127 hb_3 rfl rfl (by rfl) (by exact Enc.one _ _) (by exact Nat.le_of_ble_eq_true rfl) rfl ?_
         intro w_4 hs_4 hn_4 k_4
         have zs_k_4 := k_4.size
         replace hb1 := hb1.chg k_4 (by intro h1; have h2 : _ = _ := h1; exfalso; omega)
         replace hBd := hBd.chg k_4 (by intro b h1 h2 h3; have h4 : _ = _ := h3; (try dsimp only at h2); exfalso; omega)
         replace hout := hout.chg k_4 (by intro b h1 h2 h3; have h4 : _ = _ := h3; (try dsimp only at h2); exfalso; omega)
         replace h := h.chg k_4 (by intro b h1 h2 h3; have h4 : _ = _ := h3; (try dsimp only at h2); exfalso; omega)
         replace hw := hw.chg k_4 (by intro x h1 h2; have h3 : _ = _ := h2; exfalso; omega)
         replace hb_3 := hn_4
         refine WL.assign rfl rfl (WL.assign rfl rfl (WL.t (WC.seq (WC.sr (WL.move rfl rfl (WL.qo rfl rfl rfl (fun h62 => ?_) (fun h62 => ?_)))))))
         ·refine WL.t (WC.qb rfl (WC.sr (WL.move rfl rfl (WL.assign rfl rfl (WL.assign rfl rfl (WL.assign rfl rfl (WL.t (WC.ret (WX.qb (WX.qe (WX.qb (WX.qb (WX.qe (WX.qb (WX.qj (.inl rfl) Tryz.results36 rfl rfl rfl ?_)))))))))))))))
          have hk2 : findE s f b k ≠ 0 := h62
          obtain ⟨b1, b2⟩ := a1 hk2
          obtain ⟨d1, d2, d3⟩ := open_end hO (k := k + 1) (by omega) (.inl b1)
          rw [b2] at d1
          rw [d1, openL_no (by rw [d1]; exact hk2)]
          exact ⟨_, rfl, ⟨none, none, 0, rfl, Row.nil _ _ _ _, fun _ => rfl, fun h9 => absurd h9 hk2⟩, hw⟩
         ·refine WL.t (WC.qa rfl (WC.skip (WX.qa (WC.seq (WC.sr (WL.move rfl rfl (WL.not rfl rfl (WL.t (WC.qa rfl (WC.skip (WX.qa (WC.seq (WC.region (WL.fieldAddr (fld_127_3) rfl rfl (?_)))))))))))))))
          have hb15 := Blk.eqc (cs' := epc.f p) hb_3 rfl
          have hg3 : w3.heap.size ≤ g_3 := by omega
          refine WL.qb Tryz.isAgg9 hb15 rfl rfl rfl ?_
          have hzz := hw.size
          replace hBd := hBd.kbs
          refine WL.call eg_72 rfl rfl (bwrite_calls hBd p.text (by omega)) ?_
          rintro v w6 ⟨rfl, hBd6, k6⟩
          replace hb1 := hb1.chg k6 (fun x => x.1.1.2 rfl)
          replace hout := hout.chgK k6 (fun x _ m => by rcases m.2 with e | e <;> rw [e] <;> decide)
          replace h := h.chg k6 (fun x _ h1 m => by have := m.1.1.1; omega)
          replace hw := hw.chg k6 (fun x h1 m => by have := m.1.1.1; omega)
          replace hb15 := hb15.chg k6 (fun m => by have := m.1.2; omega)
          replace hBd6 := hBd6.mono (S' := fun x => n1 ≤ x ∧ x ≠ g_1 ∧ x ≠ g_3) (fun x hx => by rcases hx with hx | hx; exact ⟨hx.1.1.1, hx.1.1.2, by have := hx.1.2; omega⟩; exact ⟨by omega, by omega, by have := hb15.lt; omega⟩)
          have z6 := k6.size
          refine WL.t (WC.sr (WL.fieldAddr (fld_127_2) rfl rfl (WL.qb Tryz.isAgg3 hb15 rfl rfl rfl (WL.qi rfl rfl rfl (fun h71 => ?_) (fun h71 => ?_)))))
          ·refine WL.t (WC.qb rfl (WC.sr (WL.move rfl rfl (?_))))
           replace hBd6 := hBd6.kbs
           refine WL.call eg_73 rfl rfl (bstring_calls hBd6 (by simp; omega)) ?_
           rintro v w7 ⟨rfl, ⟨u7, v7, hB7⟩, k7⟩
           replace hb1 := hb1.chg k7 (fun x => x.1.2.1 rfl)
           replace hout := hout.chgK k7 (fun x _ m => by rcases m.2 with e | e <;> rw [e] <;> decide)
           replace h := h.chg k7 (fun x _ h1 m => by have := m.1.1; omega)
           replace hw := hw.chg k7 (fun x h1 m => by have := m.1.1; omega)
           have z7 := k7.size
           have hzz7 := hw.size
           refine WL.build (e := es) [bs ((opA s f b k).acc ++ p.text.data.toList)] Tryz.underlying70 Tryz.sizeOf9 Tryz.zeroValue9 rfl rfl rfl (by simp [Value.cells] <;> rfl) (by decide) rfl ?_
           intro a_hn w_hn hn l_hn z_hn k_hn
           have zs_k_hn := k_hn.size
           replace hb1 := hb1.pure k_hn
           replace hB7 := hB7.pure k_hn
           replace hout := hout.pure k_hn
           replace h := h.pure k_hn
           replace hw := hw.pure k_hn
           replace hout := hout.kb.mono (S' := fun x => n1 ≤ x ∧ x ≠ g_1 ∧ x ≠ g_2) (fun x hx => ⟨hx.1.1.1, hx.1.1.2, fun e => by have h1 := hx.2; rw [e, hB7.kb] at h1; exact absurd h1 (by decide)⟩)
           refine WL.append (e := es) info_9 rfl Tryz.underlying70 rfl rfl hout (hn.rsl.src Tryz.underlying70) (by (try simp only [List.length_append, List.length_cons, List.length_nil] at *); omega) (by intro b hb; first | (apply hS; omega) | ((try dsimp only); omega)) rfl ?_
           intro a_hout2 c_hout2 w_hout2 hout2 g_hout2 n_hout2
           have z_hout2 := g_hout2.chg.size
           have zs_g_hout2_chg := g_hout2.chg.size
           replace hb1 := hb1.chg g_hout2.chg (by intro h1; exfalso; have h4 := h1.2; (try dsimp only at *); omega)
           replace hB7 := hB7.chg g_hout2.chg (by intro h1; exfalso; have h4 := h1.2; (try dsimp only at *); omega)
           replace h := h.chg g_hout2.chg (by intros; exfalso; (try dsimp only at *); omega)
           replace hw := hw.chg g_hout2.chg (by intros; exfalso; (try dsimp only at *); omega)
           refine WL.assign rfl rfl (WL.t (WC.sr (WL.call eg_74 rfl rfl (breset_calls hB7) ?_)))
           rintro v w8 ⟨rfl, hBd8, k8⟩
           have zs_k8 := k8.size
           replace hb1 := hb1.chg k8 (by intro h1; have h2 : _ = _ := h1; exfalso; omega)
           replace h := h.chg k8 (by intro b h1 h2 h3; have h4 : _ = _ := h3; (try dsimp only at h2); exfalso; omega)
           replace hw := hw.chg k8 (by intro x h1 h2; have h3 : _ = _ := h2; exfalso; omega)
           replace hout2 := hout2.chg k8 (by intro b h1 h2 h3; have h4 : _ = _ := h3; (try dsimp only at h2); exfalso; omega)
           refine WL.t (WC.region (WL.move rfl rfl (WL.move rfl rfl (WL.qe rfl rfl (by omega) rfl (WL.nilCheck rfl rfl (WL.fieldAddr (fld_125_4) rfl rfl (?_)))))))
           refine WL.store Tryz.sizeOf3 hb1 rfl rfl rfl rfl ?_
           intro w_5 hs_5 hn_5 k_5
           have zs_k_5 := k_5.size
           replace h := h.chg k_5 (by intro b h1 h2 h3; have h4 : _ = _ := h3; (try dsimp only at h2); exfalso; omega)
           replace hw := hw.chg k_5 (by intro x h1 h2; have h3 : _ = _ := h2; exfalso; omega)
           replace hout2 := hout2.chg k_5 (by intro b h1 h2 h3; have h4 : _ = _ := h3; (try dsimp only at h2); exfalso; omega)
           replace hBd8 := hBd8.chg k_5 (by intro b h1 h2 h3; have h4 : _ = _ := h3; (try dsimp only at h2); exfalso; omega)
           replace hb1 := hn_5
           refine WL.nil (WX.qc (WX.qa (WC.region (WL.qe rfl rfl (by omega) rfl (WL.move rfl rfl (WL.nil (?_)))))))
           have hk2 : findE s f b k = 0 := h62
           have hl1 : p.last = 1 := h71
           have e1 := a3 p hk2 hP hl1
           refine WX.qf (k + 1, a_hout2, c_hout2) ⟨rfl, ?_, rfl, rfl, rfl, trivial⟩ ⟨by show k + 1 ≤ c.toNat; omega, by rw [e1], by rw [e1], ?_, ?_, ?_, h, hw⟩ (by show c.toNat - (k + 1) < c.toNat - k; omega)
           ·dsimp only
            rw [e1]
            rfl
           ·rw [e1]
            exact Blk.eqc hb1 rfl
           ·rw [e1]
            exact hBd8.mono (fun x hx => by have : x = g_2 := hx; omega)
           ·dsimp only
            rw [e1]
            exact hout2.mono (fun x hx => ⟨hx.1, hx.2.1⟩)
          ·refine WL.t (WC.qa rfl (WC.skip (WX.qc (WX.qa (WC.region (WL.qe rfl rfl (by omega) rfl (?_)))))))
           refine WL.move rfl rfl (WL.nil (?_))
           have hk2 : findE s f b k = 0 := h62
           have hl1 : p.last ≠ 1 := h71
           have e1 := a4 p hk2 hP hl1
           refine WX.qf (k + 1, ao, cp) ⟨rfl, ?_, rfl, rfl, rfl, trivial⟩ ⟨by show k + 1 ≤ c.toNat; omega, by rw [e1], by rw [e1], ?_, ?_, ?_, h, hw⟩ (by show c.toNat - (k + 1) < c.toNat - k; omega)
           ·dsimp only
            rw [e1]
            rfl
           ·rw [e1]
            exact hb1
           ·rw [e1]
            exact hBd6.mono (fun x hx => ⟨hx.1, hx.2.1⟩)
           ·dsimp only
            rw [e1]
            exact hout.mono (fun x hx => hx.1)
       ·refine WL.t (WC.seq (WC.qa rfl (WC.exit (WX.qd (WX.qd (WX.qh (WX.qa (WC.sr (WL.move rfl rfl (WL.move rfl rfl (WL.assign rfl rfl (WL.assign rfl rfl (WL.assign rfl rfl (WL.t (WC.ret (WX.qj (.inl rfl) Tryz.results36 rfl rfl rfl ?_))))))))))))))))
        have hkc : k = c.toNat := by omega
        obtain ⟨d1, d2, d3⟩ := open_end hO (k := k) (by omega) (.inr hkc)
        rw [hE0] at d1
        rw [d1, d3 d1, d2]
        exact ⟨_, rfl, ⟨some ⟨g_1, 0, none⟩, ao, cp, rfl, hout.mono (fun x hx => by omega), fun h9 => absurd rfl h9, fun _ => ⟨g_1, rfl, by omega, fun q hq => (hout.at_ q hq).1.2, hb1, hlk⟩⟩, hw⟩
end Go.Proofs.YtjeldcjchipdgaaGreatDoor
namespace Go.Proofs.YtjeldcjchipdgaaGreatDoor
open Go.RowKit Go.HL
set_option maxRecDepth 100000
theorem bs_app (a : List UInt8) (t : ByteArray) : bs a ++ t = bs (a ++ t.data.toList) := by
 apply ByteArray.ext
 apply Array.ext'
 simp [bs]
theorem inS_log {s : RA} {f c b : Int} (h : opOk s f c b) {d k : Nat} (hd : d < s.dn) (hk : (k : Int) < c) : inS s (d : Int) (f + k) := by
 obtain ⟨h1, h2, h3, h4, h5, h6⟩ := h
 refine ⟨by omega, by omega, by omega, by omega⟩
theorem errS_on {s : RA} {d a : Int} (h : inS s d a) (ho : s.off = true → goneS s d = true) : errS s d a ≠ 16 := by
 unfold errS
 rw [if_neg (fun x => x h)]
 split
 ·decide
 ·rename_i hg
  split
  ·rename_i h1
   exact absurd (ho h1) hg
  ·decide
theorem findE_up {s : RA} {f b n : Int} (hno : ∀ d : Nat, d < s.dn → errS s d (f + n) ≠ 16) : findE s f b n = 0 := by
 have h1 : ∀ k, k ≤ s.dn → (fdR s f b n k).1 = 0 := by
  intro k
  induction k with
  |zero => intro _; rfl
  |succ k ih =>
   intro hk
   have h2 := ih (by omega)
   rw [fdR]
   split
   ·rw [stF, if_neg (hno k (by omega))]
    split
    ·rfl
    ·cases pcD (heldS s ((k : Int), f + n)) with
     |none => rfl
     |some p =>
      dsimp only
      split <;> rfl
   ·exact h2
 exact h1 s.dn (Nat.le_refl _)
theorem open_off {s : RA} {f c b : Int} (h : opOk s f c b) (ho : s.off = true) {d : Nat} (hd : d < s.dn) (hg : goneS s d = false) : openE s f c b = 16 := by
 have hc : 1 ≤ c := h.2.1
 have hst : ∀ k : Nat, k < s.dn → stF s f b (0 : Nat) k = if goneS s k = true then (0, none) else (16, none) := by
  intro k hk
  have hin := inS_log h hk (k := 0) (by omega)
  have he : errS s k (f + (0 : Nat)) = if goneS s k = true then 3 else 16 := by
   unfold errS
   rw [if_neg (fun x => x hin), if_pos ho]
  rw [stF, he]
  split
  ·rw [if_neg (by decide), if_pos (by decide)]
  ·rw [if_pos rfl]
 have h1 : ∀ m, m ≤ s.dn → fdR s f b (0 : Nat) m = (0, none) ∧ (∀ j : Nat, j < m → goneS s j = true) ∨ fdR s f b (0 : Nat) m = (16, none) := by
  intro m
  induction m with
  |zero => intro _; exact .inl ⟨rfl, fun j hj => absurd hj (Nat.not_lt_zero j)⟩
  |succ m ih =>
   intro hm
   rcases ih (by omega) with ⟨h2, h3⟩ | h2
   ·rw [fdR_go h2, hst m (by omega)]
    by_cases hgm : goneS s (m : Nat) = true
    ·rw [if_pos hgm]
     refine .inl ⟨rfl, fun j hj => ?_⟩
     rcases Nat.lt_or_ge j m with h4 | h4
     ·exact h3 j h4
     ·obtain rfl : j = m := by omega
      exact hgm
    ·rw [if_neg hgm]
     exact .inr rfl
   ·refine .inr ?_
    rw [fdR, h2, if_neg (by rintro ⟨h5, _⟩; exact absurd h5 (by decide))]
 have hE : findE s f b (0 : Nat) = 16 := by
  rcases h1 s.dn (Nat.le_refl _) with ⟨_, h3⟩ | h3
  ·rw [h3 d hd] at hg
   cases hg
  ·rw [findE, h3]
 obtain ⟨a1, a2, _, _⟩ := @opA_at s f b 0 _ _ rfl rfl hE rfl
 obtain ⟨a1, a2⟩ := a1 (by decide)
 obtain ⟨d1, _, _⟩ := open_end h (k := 0 + 1) (by omega) (.inl a1)
 rw [d1, a2]
set_option maxHeartbeats 4000000 in
theorem dopen_calls {A : Nat → Prop} {w : World} {D : Nat} {s : RA} (h : RD A w D s) (hn9 : s.waits.length ≤ 1000000) (f c b : Int) (hf : i64R f) (hc : i64R c) :
 Calls Tryz.prog 37 [ptr D, vi f, vi c, vi b].toArray w (Ret fun v w' => (∃ (pl ao : Option Addr) (cp : Nat), v = .tuple #[.pointer pl, .slice ao (openL s f c b).length cp, vi (openE s f c b)] ∧ Row (w.heap.size ≤ ·) w' 9 es ao cp (openL s f c b) ∧
  (openE s f c b ≠ 0 → pl = none) ∧ (openE s f c b = 0 → ∃ L, pl = some ⟨L, 0, none⟩ ∧ w.heap.size ≤ L ∧ (∀ q, ao = some q → q.block ≠ L) ∧ Blk w' L 81 (lgC D ⟨f, c, b, openN s f c b⟩) ∧ (⟨f, c, b, openN s f c b⟩ : LgV).ok s.sn)) ∧ Chg Nob w w') := by
 have hw := Chg.refl Nob w
 obtain ⟨f0, f9⟩ := hf
 obtain ⟨c0, c9⟩ := hc
 have hok := h.ok
 have hsn := h.ok.sn
 have hdn := h.ok.dn
 replace h : RD (fun x => x < w.heap.size) w D s := h.old.mono (fun x hx => hx.2)
 obtain ⟨la, lc, ls, ga, gc, wa, wc, hB, hI⟩ := h.ex
 have hlen := hI.ld.len
 refine Calls.of_WC Tryz.func37 rfl Tryz.ntmps37 (by simp) ?_
 refine WC.sr (WL.assign rfl rfl (WL.assign rfl rfl (WL.assign rfl rfl (WL.t (WC.seq (WC.sr (WL.move rfl rfl (WL.qq Tryz.underlying29 rfl rfl rfl ?_))))))))
 refine WL.move rfl rfl (WL.qa rfl rfl rfl (WL.move rfl rfl (WL.qa rfl rfl rfl (WL.qh rfl rfl rfl (fun h23 => ?_) (fun h23 => ?_)))))
 ·refine WL.qc rfl rfl rfl (WL.move rfl rfl (WL.pass rfl rfl rfl rfl (WL.pass rfl rfl rfl rfl (WL.qd rfl rfl rfl (WL.move rfl rfl (WL.pass rfl rfl rfl rfl (WL.pass rfl rfl rfl rfl (WL.qd rfl rfl rfl (WL.move rfl rfl (WL.pass rfl rfl rfl rfl (WL.pass rfl rfl rfl rfl (WL.pass rfl rfl rfl rfl (WL.pass rfl rfl rfl rfl (WL.pass rfl rfl rfl rfl (WL.pass rfl rfl rfl rfl (WL.pass rfl rfl rfl rfl (WL.pass rfl rfl rfl rfl (WL.pass rfl rfl rfl rfl (WL.pass rfl rfl rfl rfl (WL.pass rfl rfl rfl rfl (WL.qd rfl rfl rfl (WL.move rfl rfl (WL.pass rfl rfl rfl rfl (WL.pass rfl rfl rfl rfl (WL.qd rfl rfl rfl (WL.move rfl rfl (WL.pass rfl rfl rfl rfl (WL.pass rfl rfl rfl rfl (WL.qd rfl rfl rfl (WL.t (WC.qb rfl (WC.sr (WL.assign rfl rfl (WL.assign rfl rfl (WL.assign rfl rfl (WL.t (WC.ret (WX.qb (WX.qj (.inl rfl) Tryz.results37 rfl rfl rfl ?_)))))))))))))))))))))))))))))))))))))))
  have hno : ¬ opOk s f c b := by
   rintro ⟨o1, o2, o3, o4, o5, o6⟩
   omega
  have d1 := open_no hno
  rw [d1, openL_no (by rw [d1]; decide)]
  exact ⟨_, rfl, ⟨none, none, 0, rfl, Row.nil _ _ _ _, fun _ => rfl, fun h9 => absurd h9 (by decide)⟩, hw⟩
 ·refine WL.qc rfl rfl rfl (WL.move rfl rfl (WL.qa rfl rfl rfl (WL.move rfl rfl (WL.qa rfl rfl rfl (WL.qh rfl rfl rfl (fun h27 => ?_) (fun h27 => ?_))))))
  ·refine WL.qc rfl rfl rfl (WL.move rfl rfl (WL.pass rfl rfl rfl rfl (WL.pass rfl rfl rfl rfl (WL.qd rfl rfl rfl (WL.move rfl rfl (WL.pass rfl rfl rfl rfl (WL.pass rfl rfl rfl rfl (WL.pass rfl rfl rfl rfl (WL.pass rfl rfl rfl rfl (WL.pass rfl rfl rfl rfl (WL.pass rfl rfl rfl rfl (WL.pass rfl rfl rfl rfl (WL.pass rfl rfl rfl rfl (WL.pass rfl rfl rfl rfl (WL.pass rfl rfl rfl rfl (WL.pass rfl rfl rfl rfl (WL.qd rfl rfl rfl (WL.move rfl rfl (WL.pass rfl rfl rfl rfl (WL.pass rfl rfl rfl rfl (WL.qd rfl rfl rfl (WL.move rfl rfl (WL.pass rfl rfl rfl rfl (WL.pass rfl rfl rfl rfl (WL.qd rfl rfl rfl (WL.t (WC.qb rfl (WC.sr (WL.assign rfl rfl (WL.assign rfl rfl (WL.assign rfl rfl (WL.t (WC.ret (WX.qb (WX.qj (.inl rfl) Tryz.results37 rfl rfl rfl ?_)))))))))))))))))))))))))))))))))))
   have hno : ¬ opOk s f c b := by
    rintro ⟨o1, o2, o3, o4, o5, o6⟩
    omega
   have d1 := open_no hno
   rw [d1, openL_no (by rw [d1]; decide)]
   exact ⟨_, rfl, ⟨none, none, 0, rfl, Row.nil _ _ _ _, fun _ => rfl, fun h9 => absurd h9 (by decide)⟩, hw⟩
  ·refine WL.qc rfl rfl rfl (WL.move rfl rfl (WL.qa rfl rfl rfl (WL.move rfl rfl (WL.qa rfl rfl rfl (WL.qn rfl rfl rfl (fun h31 => ?_) (fun h31 => ?_))))))
   ·refine WL.qc rfl rfl rfl (WL.move rfl rfl (WL.pass rfl rfl rfl rfl (WL.pass rfl rfl rfl rfl (WL.pass rfl rfl rfl rfl (WL.pass rfl rfl rfl rfl (WL.pass rfl rfl rfl rfl (WL.pass rfl rfl rfl rfl (WL.pass rfl rfl rfl rfl (WL.pass rfl rfl rfl rfl (WL.pass rfl rfl rfl rfl (WL.pass rfl rfl rfl rfl (WL.pass rfl rfl rfl rfl (WL.qd rfl rfl rfl (WL.move rfl rfl (WL.pass rfl rfl rfl rfl (WL.pass rfl rfl rfl rfl (WL.qd rfl rfl rfl (WL.move rfl rfl (WL.pass rfl rfl rfl rfl (WL.pass rfl rfl rfl rfl (WL.qd rfl rfl rfl (WL.t (WC.qb rfl (WC.sr (WL.assign rfl rfl (WL.assign rfl rfl (WL.assign rfl rfl (WL.t (WC.ret (WX.qb (WX.qj (.inl rfl) Tryz.results37 rfl rfl rfl ?_)))))))))))))))))))))))))))))))
    have hno : ¬ opOk s f c b := by
     rintro ⟨o1, o2, o3, o4, o5, o6⟩
     omega
    have d1 := open_no hno
    rw [d1, openL_no (by rw [d1]; decide)]
    exact ⟨_, rfl, ⟨none, none, 0, rfl, Row.nil _ _ _ _, fun _ => rfl, fun h9 => absurd h9 (by decide)⟩, hw⟩
   ·refine WL.qc rfl rfl rfl (WL.move rfl rfl (WL.qa rfl rfl rfl (WL.move rfl rfl (WL.qa rfl rfl rfl (WL.move rfl rfl (WL.qa rfl rfl rfl (WL.nilCheck rfl rfl (WL.qa rfl rfl rfl (WL.fieldAddr (fld_87_0) rfl rfl (WL.qa rfl rfl rfl (WL.qb Tryz.isAgg83 hB rfl rfl rfl (WL.qa rfl rfl rfl (?_)))))))))))))
    obtain ⟨r0, hr0⟩ : ∃ r, ls[0]? = some r := ⟨_, List.getElem?_eq_getElem (by omega)⟩
    have hrl := hI.ld.rlen hr0
    refine WL.qg (e := esr) Tryz.underlying83 Tryz.sizeOf70 hI.ld.outer.rsl (by show some (Value.slice la s.dn lc) = some (Value.slice la ls.length lc); rw [hlen]) rfl ⟨hr0, rfl⟩ rfl ?_
    intro bb oo hcc
    refine WL.qa rfl rfl rfl (WL.load Tryz.isAgg70 rfl (hcc 0 _ rfl) rfl ?_)
    refine WL.qa rfl rfl rfl (WL.len Tryz.underlying70 rfl rfl (WL.qa rfl rfl rfl (WL.move rfl rfl (WL.qa rfl rfl rfl (WL.qj rfl rfl (by omega) rfl (WL.qa rfl rfl rfl (?_)))))))
    refine WL.qn rfl rfl rfl (fun h44 => ?_) (fun h44 => ?_)
    ·refine WL.qc rfl rfl rfl (WL.move rfl rfl (WL.pass rfl rfl rfl rfl (WL.pass rfl rfl rfl rfl (WL.qd rfl rfl rfl (WL.move rfl rfl (WL.pass rfl rfl rfl rfl (WL.pass rfl rfl rfl rfl (WL.qd rfl rfl rfl (WL.t (WC.qb rfl (WC.sr (WL.assign rfl rfl (WL.assign rfl rfl (WL.assign rfl rfl (WL.t (WC.ret (WX.qb (WX.qj (.inl rfl) Tryz.results37 rfl rfl rfl ?_))))))))))))))))))
     have hno : ¬ opOk s f c b := by
      rintro ⟨o1, o2, o3, o4, o5, o6⟩
      omega
     have d1 := open_no hno
     rw [d1, openL_no (by rw [d1]; decide)]
     exact ⟨_, rfl, ⟨none, none, 0, rfl, Row.nil _ _ _ _, fun _ => rfl, fun h9 => absurd h9 (by decide)⟩, hw⟩
    ·refine WL.qc rfl rfl rfl (WL.move rfl rfl (WL.qa rfl rfl rfl (WL.move rfl rfl (WL.qa rfl rfl rfl (WL.qh rfl rfl rfl (fun h48 => ?_) (fun h48 => ?_))))))
     ·refine WL.qc rfl rfl rfl (WL.move rfl rfl (WL.pass rfl rfl rfl rfl (WL.pass rfl rfl rfl rfl (WL.qd rfl rfl rfl (WL.t (WC.qb rfl (WC.sr (WL.assign rfl rfl (WL.assign rfl rfl (WL.assign rfl rfl (WL.t (WC.ret (WX.qb (WX.qj (.inl rfl) Tryz.results37 rfl rfl rfl ?_))))))))))))))
      have hno : ¬ opOk s f c b := by
       rintro ⟨o1, o2, o3, o4, o5, o6⟩
       omega
      have d1 := open_no hno
      rw [d1, openL_no (by rw [d1]; decide)]
      exact ⟨_, rfl, ⟨none, none, 0, rfl, Row.nil _ _ _ _, fun _ => rfl, fun h9 => absurd h9 (by decide)⟩, hw⟩
     ·refine WL.qc rfl rfl rfl (WL.move rfl rfl (WL.qa rfl rfl rfl (WL.move rfl rfl (WL.qa rfl rfl rfl (WL.qn rfl rfl rfl (fun h52 => ?_) (fun h52 => ?_))))))
      ·refine WL.qc rfl rfl rfl (WL.t (WC.qb rfl (WC.sr (WL.assign rfl rfl (WL.assign rfl rfl (WL.assign rfl rfl (WL.t (WC.ret (WX.qb (WX.qj (.inl rfl) Tryz.results37 rfl rfl rfl ?_))))))))))
       have hno : ¬ opOk s f c b := by
        rintro ⟨o1, o2, o3, o4, o5, o6⟩
        omega
       have d1 := open_no hno
       rw [d1, openL_no (by rw [d1]; decide)]
       exact ⟨_, rfl, ⟨none, none, 0, rfl, Row.nil _ _ _ _, fun _ => rfl, fun h9 => absurd h9 (by decide)⟩, hw⟩
      ·refine WL.qc rfl rfl rfl (WL.t (WC.qa rfl (WC.skip (WX.qa (WC.seq (WC.seq (WC.region (WL.assign rfl rfl (WL.t (WC.block (?_)))))))))))
       have hO : opOk s f c b := ⟨by omega, by omega, by omega, by omega, by omega, by omega⟩
       refine WC.loop (σ := Nat) (fun k => [(0, ptr D), (1, vi f), (2, vi c), (3, vi b), (11, vi (k : Int))])
        (fun k w' => k ≤ s.dn ∧ (s.off = true → ∀ j : Nat, j < k → goneS s j = true) ∧ RD (fun x => x < w.heap.size) w' D s ∧ Chg Nob w w') (fun k => s.dn - k) 0 ⟨rfl, rfl, rfl, rfl, rfl, trivial⟩
        ⟨Nat.zero_le _, fun _ j hj => absurd hj (Nat.not_lt_zero j), h, hw⟩ ?_
       clear h hB hI hw
       rintro k w2 ⟨hk, hG, h, hw⟩
       have zw2 := hw.size
       obtain ⟨la, lc, ls, ga, gc, wa, wc, hB, hI⟩ := h.ex
       have hlen := hI.ld.len
       refine WC.seq (WC.sr (WL.move rfl rfl (WL.move rfl rfl (WL.nilCheck rfl rfl (WL.fieldAddr (fld_87_0) rfl rfl (WL.qb Tryz.isAgg83 hB rfl rfl rfl (WL.len Tryz.underlying83 rfl rfl ?_)))))))
       refine WL.qh rfl rfl rfl (fun h60 => ?_) (fun h60 => ?_)
       ·refine WL.t (WC.qb rfl (WC.skip (WX.qa (WC.seq (WC.block (WC.seq (WC.region (WL.move rfl rfl (WL.nilCheck rfl rfl (WL.fieldAddr (fld_87_3) rfl rfl (WL.qb Tryz.isAgg4 hB rfl rfl rfl ?_)))))))))))
        rcases hof : s.off with _ | _
        ·refine WL.move rfl rfl (WL.pass rfl rfl rfl rfl (WL.pass rfl rfl rfl rfl (WL.pass rfl rfl rfl rfl (WL.pass rfl rfl rfl rfl (WL.pass rfl rfl rfl rfl (WL.pass rfl rfl rfl rfl (WL.pass rfl rfl rfl rfl (WL.pass rfl rfl rfl rfl (WL.qc rfl rfl rfl (WL.t (WC.qa rfl (WC.skip (WX.qc (WX.qa (WC.region (WL.move rfl rfl (WL.qe rfl rfl (by omega) rfl (WL.assign rfl rfl (WL.nil (?_))))))))))))))))))))
         refine WX.qf (k + 1) ⟨rfl, rfl, rfl, rfl, rfl, trivial⟩ ⟨by omega, fun h9 j hj => ?_, h, hw⟩ (by show _ - _ < _ - _; omega)
         cases h9; done
        ·refine WL.move rfl rfl (WL.qa rfl rfl rfl (WL.move rfl rfl (WL.qa rfl rfl rfl (WL.nilCheck rfl rfl (WL.qa rfl rfl rfl (WL.fieldAddr (fld_87_1) rfl rfl (WL.qa rfl rfl rfl (WL.qb Tryz.isAgg84 hB rfl rfl rfl (WL.qa rfl rfl rfl (WL.move rfl rfl (WL.qa rfl rfl rfl (?_))))))))))))
         have hgd := goneS_at hok (d := k) ⟨by omega, by omega⟩
         refine WL.qg (e := ebool) Tryz.underlying84 Tryz.sizeOf4 hI.gone.rsl rfl rfl ⟨hgd, by omega⟩ rfl ?_
         intro bb oo hcc
         refine WL.qa rfl rfl rfl (WL.load Tryz.isAgg4 rfl (hcc 0 _ rfl) rfl ?_)
         rcases hg : goneS s k with _ | _
         ·refine WL.qa rfl rfl rfl (WL.not rfl rfl (WL.qd rfl rfl rfl (WL.t (WC.qb rfl (WC.sr (WL.assign rfl rfl (WL.assign rfl rfl (WL.assign rfl rfl (WL.t (WC.ret (WX.qe (WX.qb (WX.qb (WX.qe (WX.qb (WX.qj (.inl rfl) Tryz.results37 rfl rfl rfl ?_))))))))))))))))
          have d1 := open_off hO hof (d := k) (by omega) hg
          rw [d1, openL_no (by rw [d1]; decide)]
          exact ⟨_, rfl, ⟨none, none, 0, rfl, Row.nil _ _ _ _, fun _ => rfl, fun h9 => absurd h9 (by decide)⟩, hw⟩
         ·refine WL.qa rfl rfl rfl (WL.not rfl rfl (WL.qd rfl rfl rfl (WL.t (WC.qa rfl (WC.skip (WX.qc (WX.qa (WC.region (WL.move rfl rfl (WL.qe rfl rfl (by omega) rfl (WL.assign rfl rfl (WL.nil (?_)))))))))))))
          refine WX.qf (k + 1) ⟨rfl, rfl, rfl, rfl, rfl, trivial⟩ ⟨by omega, fun h9 j hj => ?_, h, hw⟩ (by show _ - _ < _ - _; omega)
          rcases Nat.lt_or_ge j k with h8 | h8
          ·exact hG hof j h8
          ·obtain rfl : j = k := by omega
           exact hg
       ·refine WL.t (WC.qa rfl (WC.exit (WX.qd (WX.qd (WX.qh (WX.qa (WC.sr (WL.move rfl rfl (WL.move rfl rfl (WL.move rfl rfl (WL.move rfl rfl (WL.bld rfl (bld_81_0_1_2_3 _ _ _ _) rfl (WL.box rfl rfl ?_)))))))))))))
        intro g_1 w_1 hge_1 hlt_1 hb_1 k_1
        have zs_k_1 := k_1.size
        replace h := h.pure k_1
        replace hB := hB.pure k_1
        replace hI := hI.pure k_1
        replace hw := hw.pure k_1
        refine WL.assign rfl rfl (WL.t (WC.sr (WL.assign rfl rfl (WL.t (WC.sr (WL.assign rfl rfl (WL.t (WC.seq (WC.sr (WL.assign rfl rfl (WL.t (WC.block (?_)))))))))))))
        have hkd : k = s.dn := by omega
        have hno : ∀ (j n : Nat), j < s.dn → (n : Int) < c → errS s j (f + n) ≠ 16 := fun j n hj hn => errS_on (inS_log hO hj hn) (fun h9 => hG h9 j (by omega))
        obtain ⟨n1, en1⟩ : ∃ n1, n1 = w2.heap.size := ⟨_, rfl⟩
        have hzw : w.heap.size ≤ n1 := by omega
        have hg1 : n1 ≤ g_1 := by omega
        refine WC.loop (σ := Nat × Option Addr × Nat) (fun q => [(2, vi c), (12, ptr g_1), (13, .slice q.2.1 (opA s f b q.1).out.length q.2.2), (14, .string (bs (opA s f b q.1).acc)), (15, vi (q.1 : Int))])
         (fun q w' => q.1 ≤ c.toNat ∧ (opA s f b q.1).stop = false ∧ (opA s f b q.1).err = 0 ∧ Blk w' g_1 81 (lgC D ⟨f, c, b, (opA s f b q.1).next⟩) ∧ Row (fun x => n1 ≤ x ∧ x ≠ g_1) w' 9 es q.2.1 q.2.2 (opA s f b q.1).out ∧ RD (fun x => x < w.heap.size) w' D s ∧ Chg Nob w w') (fun q => c.toNat - q.1) (0, none, 0) ⟨rfl, rfl, rfl, rfl, rfl, trivial⟩
         ⟨Nat.zero_le _, rfl, rfl, Blk.eqc hb_1 rfl, Row.nil _ _ _ _, h, hw⟩ ?_
        clear hb_1 h hB hI hw hk hG
        rintro ⟨m, ao, cp⟩ w3 ⟨hk, hS, hE0, hb1, hout, h, hw⟩
        dsimp only at hk hS hE0 hb1 hout ⊢
        replace hout := hout.lt
        obtain ⟨x1, x2, x3⟩ := opA_next (s := s) (f := f) (b := b) m
        have hlk : (⟨f, c, b, (opA s f b m).next⟩ : LgV).ok s.sn := ⟨by show 0 ≤ f; omega, by show 1 ≤ c ∧ c ≤ 500; omega, by show 0 ≤ b ∧ b ≤ _; omega, by show 0 ≤ ((opA s f b m).next : Int) ∧ ((opA s f b m).next : Int) ≤ c; omega, by show f + c ≤ _; omega⟩
        have lg1 := hb1.lt
        have hoA := @opA_at s f b m _ _ hS hE0 rfl rfl
        obtain ⟨a1, a2, a3, a4⟩ := hoA
        refine WC.seq (WC.sr (WL.move rfl rfl (WL.move rfl rfl (WL.qh rfl rfl rfl (fun h85 => ?_) (fun h85 => ?_)))))
        ·refine WL.t (WC.qb rfl (WC.skip (WX.qa (WC.seq (WC.block (WC.seq (WC.region (WL.move rfl rfl (WL.move rfl rfl (?_))))))))))
         have hkc : (m : Int) < c := by omega
         have hno2 : ∀ d : Nat, d < s.dn → errS s d (f + m) ≠ 16 := fun d hd => hno d m hd hkc
         have hF0 := findE_up (b := b) hno2
         refine WL.call eg_75 rfl rfl (dat_calls h hn9 hb1 hlk m hkc hno2) ?_
         rintro v w5 ⟨⟨t, lb, rfl, ht⟩, k5⟩
         have zs_k5 := k5.size
         replace hb1 := hb1.pure k5
         replace hout := hout.pure k5
         replace h := h.pure k5
         replace hw := hw.pure k5
         dsimp only at ht
         cases hP : findP s f b m
         ·refine WL.move rfl rfl (WL.extract rfl rfl rfl (WL.extract rfl rfl rfl (WL.extract rfl rfl rfl (WL.assign rfl rfl (WL.assign rfl rfl (WL.assign rfl rfl (WL.nil (WX.qa (WC.seq (WC.sr (WL.move rfl rfl (WL.not rfl rfl ?_))))))))))))
          refine WL.t (WC.qb rfl (WC.exit (WX.qd (WX.block_on rfl (WX.qd (WX.qd (WX.qh (WX.qa (WC.sr (WL.move rfl rfl (WL.move rfl rfl (WL.assign rfl rfl (WL.assign rfl rfl (WL.assign rfl rfl (WL.t (WC.ret (WX.qj (.inl rfl) Tryz.results37 rfl rfl rfl ?_)))))))))))))))))
          obtain ⟨b1, b2, b3, b4⟩ := a2 hF0 hP
          obtain ⟨d1, d2, d3⟩ := open_end hO (k := m + 1) (by omega) (.inl b1)
          rw [b2] at d1
          have d4 := d3 d1
          rw [b3] at d4
          rw [b4] at d2
          rw [d1, d4, d2]
          exact ⟨_, rfl, ⟨some ⟨g_1, 0, none⟩, ao, cp, rfl, hout.mono (fun x hx => by omega), fun h9 => absurd rfl h9, fun _ => ⟨g_1, rfl, by omega, fun q hq => (hout.at_ q hq).1.2, hb1, hlk⟩⟩, hw⟩
         ·rename_i p
          obtain ⟨rfl, rfl⟩ := ht p hP
          have hpt := (findP_text hP).1
          by_cases hl1 : p.last = 1
          ·rw [decide_eq_true hl1]
           refine WL.move rfl rfl (WL.extract rfl rfl rfl (WL.extract rfl rfl rfl (WL.extract rfl rfl rfl (WL.assign rfl rfl (WL.assign rfl rfl (WL.assign rfl rfl (WL.nil (WX.qa (WC.seq (WC.sr (WL.move rfl rfl (WL.not rfl rfl ?_))))))))))))
           refine WL.t (WC.qa rfl (WC.skip (WX.qa (WC.sr (WL.move rfl rfl (WL.move rfl rfl (?_)))))))
           refine WL.qu rfl rfl (by rw [bs_size]; omega) rfl ?_
           rw [bs_app]
           refine WL.assign rfl rfl (WL.t (WC.sr (WL.move rfl rfl (WL.t (WC.qb rfl (WC.sr (WL.move rfl rfl (WL.move rfl rfl (?_)))))))))
           refine WL.build (e := es) [bs ((opA s f b m).acc ++ p.text.data.toList)] Tryz.underlying70 Tryz.sizeOf9 Tryz.zeroValue9 rfl rfl rfl (by simp [Value.cells] <;> rfl) (by decide) rfl ?_
           intro a_hn w_hn hn l_hn z_hn k_hn
           have zs_k_hn := k_hn.size
           replace hb1 := hb1.pure k_hn
           replace hout := hout.pure k_hn
           replace h := h.pure k_hn
           replace hw := hw.pure k_hn
           replace hout := hout.mono (S' := fun x => n1 ≤ x ∧ x ≠ g_1) (fun x hx => hx.1)
           refine WL.append (e := es) info_9 rfl Tryz.underlying70 rfl rfl hout (hn.rsl.src Tryz.underlying70) (by (try simp only [List.length_append, List.length_cons, List.length_nil] at *); omega) (by intro b hb; first | (apply hS; omega) | ((try dsimp only); omega)) rfl ?_
           intro a_hout2 c_hout2 w_hout2 hout2 g_hout2 n_hout2
           have z_hout2 := g_hout2.chg.size
           have zs_g_hout2_chg := g_hout2.chg.size
           replace hb1 := hb1.chg g_hout2.chg (by intro h1; exfalso; have h4 := h1.2; (try dsimp only at *); omega)
           replace h := h.chg g_hout2.chg (by intros; exfalso; (try dsimp only at *); omega)
           replace hw := hw.chg g_hout2.chg (by intros; exfalso; (try dsimp only at *); omega)
           refine WL.assign rfl rfl (WL.t (WC.sr (WL.assign rfl rfl (WL.t (WC.region (WL.move rfl rfl (WL.move rfl rfl (WL.qe rfl rfl (by omega) rfl (WL.nilCheck rfl rfl (WL.fieldAddr (fld_81_4) rfl rfl (?_)))))))))))
           refine WL.store Tryz.sizeOf3 hb1 rfl rfl rfl rfl ?_
           intro w_2 hs_2 hn_2 k_2
           have zs_k_2 := k_2.size
           replace h := h.chg k_2 (by intro b h1 h2 h3; have h4 : _ = _ := h3; (try dsimp only at h2); exfalso; omega)
           replace hw := hw.chg k_2 (by intro x h1 h2; have h3 : _ = _ := h2; exfalso; omega)
           replace hout2 := hout2.chg k_2 (by intro b h1 h2 h3; have h4 : _ = _ := h3; (try dsimp only at h2); exfalso; omega)
           replace hb1 := hn_2
           refine WL.nil (WX.qc (WX.qa (WC.region (WL.move rfl rfl (WL.qe rfl rfl (by omega) rfl (WL.assign rfl rfl (WL.nil (?_))))))))
           have e1 := a3 p hF0 hP hl1
           refine WX.qf (m + 1, a_hout2, c_hout2) ⟨rfl, rfl, ?_, ?_, rfl, trivial⟩ ⟨by show m + 1 ≤ c.toNat; omega, by rw [e1], by rw [e1], ?_, ?_, h, hw⟩ (by show c.toNat - (m + 1) < c.toNat - m; omega)
           ·dsimp only
            rw [e1]
            rfl
           ·dsimp only
            rw [e1]
            rfl
           ·rw [e1]
            exact Blk.eqc hb1 rfl
           ·dsimp only
            rw [e1]
            exact hout2.mono (fun x hx => hx)
          ·rw [decide_eq_false hl1]
           refine WL.move rfl rfl (WL.extract rfl rfl rfl (WL.extract rfl rfl rfl (WL.extract rfl rfl rfl (WL.assign rfl rfl (WL.assign rfl rfl (WL.assign rfl rfl (WL.nil (WX.qa (WC.seq (WC.sr (WL.move rfl rfl (WL.not rfl rfl ?_))))))))))))
           refine WL.t (WC.qa rfl (WC.skip (WX.qa (WC.sr (WL.move rfl rfl (WL.move rfl rfl (?_)))))))
           refine WL.qu rfl rfl (by rw [bs_size]; omega) rfl ?_
           rw [bs_app]
           refine WL.assign rfl rfl (WL.t (WC.sr (WL.move rfl rfl (WL.t (WC.qa rfl (WC.skip (WX.qc (WX.qa (WC.region (WL.move rfl rfl (WL.qe rfl rfl (by omega) rfl (WL.assign rfl rfl (?_)))))))))))))
           refine WL.nil (?_)
           have e1 := a4 p hF0 hP hl1
           refine WX.qf (m + 1, ao, cp) ⟨rfl, rfl, ?_, ?_, rfl, trivial⟩ ⟨by show m + 1 ≤ c.toNat; omega, by rw [e1], by rw [e1], ?_, ?_, h, hw⟩ (by show c.toNat - (m + 1) < c.toNat - m; omega)
           ·dsimp only
            rw [e1]
            rfl
           ·dsimp only
            rw [e1]
            rfl
           ·rw [e1]
            exact hb1
           ·dsimp only
            rw [e1]
            exact hout.mono (fun x hx => hx.1)
        ·refine WL.t (WC.qa rfl (WC.exit (WX.qd (WX.qd (WX.qh (WX.qa (WC.sr (WL.move rfl rfl (WL.move rfl rfl (WL.assign rfl rfl (WL.assign rfl rfl (WL.assign rfl rfl (WL.nil (WX.qa (WC.ret (WX.qj (.inl rfl) Tryz.results37 rfl rfl rfl ?_))))))))))))))))
         rcases Nat.lt_or_ge m c.toNat with hx | hx
         ·exfalso; omega
         have hkc : m = c.toNat := Nat.le_antisymm hk hx
         obtain ⟨d1, d2, d3⟩ := open_end hO (k := m) hk (.inr hkc)
         rw [hE0] at d1
         rw [d1, d3 d1, d2]
         exact ⟨_, rfl, ⟨some ⟨g_1, 0, none⟩, ao, cp, rfl, hout.mono (fun x hx => by omega), fun h9 => absurd rfl h9, fun _ => ⟨g_1, rfl, by omega, fun q hq => (hout.at_ q hq).1.2, hb1, hlk⟩⟩, hw⟩
end Go.Proofs.YtjeldcjchipdgaaGreatDoor
namespace Go.Proofs.YtjeldcjchipdgaaGreatDoor
open Go.RowKit Go.HL
set_option maxRecDepth 100000
theorem writeE_in {s : RA} {d a : Int} (h : inS s d a) : writeE s d a 128 = 0 ∨ writeE s d a 128 = 3 ∨ writeE s d a 128 = 16 := by
 unfold writeE
 rw [if_neg (fun x => x.elim (fun y => y h) (fun y => y rfl))]
 split
 ·exact .inr (.inl rfl)
 ·split
  ·exact .inr (.inr rfl)
  ·exact .inl rfl
end Go.Proofs.YtjeldcjchipdgaaGreatDoor
namespace Go.Proofs.YtjeldcjchipdgaaGreatDoor
open Go.RowKit Go.HL
set_option maxRecDepth 100000
set_option maxHeartbeats 2000000 in
theorem pwrite_calls {A : Nat → Prop} {w : World} {R L : Nat} {s : RA} {l : LgV} (h : RK A w R s) (hA : ∀ x, A x → x < w.heap.size) (hL : Blk w L 125 (lgC R l)) (hLA : ¬ A L) (hl : l.ok s.sn) (p : PcV) (hp : RtC p) (hn : p.num < l.c) (hw9 : s.waits.length ≤ 90000) :
 Calls Tryz.prog 69 [ptr L, .agg (epc.f p).toArray].toArray w (Ret fun v w' => v = .tuple #[vi (if (lwR s (l.f + p.num) (secB (cit p)) s.dn).2.2 = 0 then ((lwR s (l.f + p.num) (secB (cit p)) s.dn).2.1 : Int) else 0), vi (lwR s (l.f + p.num) (secB (cit p)) s.dn).2.2] ∧ RK (fun x => A x ∨ w.heap.size ≤ x) w' R (lwR s (l.f + p.num) (secB (cit p)) s.dn).1 ∧ Chg A w w') := by
 have hw := Chg.refl A w
 have hdn := h.ok.dn
 have hsn := h.ok.sn
 have lf := hl.f
 have lin := hl.in_
 have lR := hA R h.aR
 have pn := hp.n
 have hE : secE (cit p) = 0 := hp.ok
 have hB1 := pc_128 hp
 obtain ⟨B, eB⟩ : ∃ B, B = secB (cit p) := ⟨_, rfl⟩
 obtain ⟨at_, eat⟩ : ∃ a : Int, a = l.f + p.num := ⟨_, rfl⟩
 rw [← eB] at hB1 ⊢
 rw [← eat]
 refine Calls.of_WC Tryz.func69 rfl Tryz.ntmps69 (by simp) ?_
 refine WC.sr (WL.box rfl rfl ?_)
 intro g_1 w_1 hge_1 hlt_1 hb_1 k_1
 have zs_k_1 := k_1.size
 replace h := h.pure k_1
 replace hL := hL.pure k_1
 replace hw := hw.pure k_1
 refine WL.assign rfl rfl (WL.assign rfl rfl (WL.t (WC.sr (?_))))
 have hb1 : Blk _ g_1 127 (epc.f p) := hb_1
 refine WL.qw (epc.f p) Tryz.isAgg127 Tryz.sizeOf127 rfl (fun j v hj => by rw [Nat.zero_add]; exact hb1.cell hj) rfl rfl ?_
 refine WL.call eg_90 rfl rfl (psector_calls p _) ?_
 rintro v w2 ⟨⟨ao, c, rfl, hq⟩, k2⟩
 rw [← eB] at hq ⊢
 rw [hE]
 have zs_k2 := k2.size
 replace h := h.pure k2
 replace hL := hL.pure k2
 replace hw := hw.pure k2
 replace hb1 := hb1.pure k2
 replace hq := hq.lt
 refine WL.move rfl rfl (WL.extract rfl rfl rfl (WL.extract rfl rfl rfl (WL.assign rfl rfl (WL.assign rfl rfl (WL.t (WC.seq (WC.sr (WL.move rfl rfl (WL.qs rfl rfl rfl (rfl) ?_)))))))))
 refine WL.t (WC.qa rfl (WC.skip (WX.qa (WC.sr (WL.assign rfl rfl (WL.t (WC.seq (WC.sr (WL.move rfl rfl (WL.nilCheck rfl rfl (WL.fieldAddr (fld_125_0) rfl rfl (WL.qb Tryz.isAgg25 hL rfl rfl rfl (WL.call eg_49 rfl rfl (Drives_calls h) ?_)))))))))))))
 rintro v w4 ⟨rfl, k4⟩
 have zs_k4 := k4.size
 replace h := h.pure k4
 replace hL := hL.pure k4
 replace hw := hw.pure k4
 replace hb1 := hb1.pure k4
 replace hq := hq.pure k4
 refine WL.move rfl rfl (WL.t (WC.block (?_)))
 obtain ⟨n0, en0⟩ : ∃ n0, n0 = w4.heap.size := ⟨_, rfl⟩
 refine WC.loop (σ := Nat) (fun k => [(0, ptr L), (3, ptr g_1), (6, .slice ao B.length c), (8, vi ((lwR s at_ B k).2.1 : Int)), (23, vi (s.dn : Int)), (24, vi (k : Int))])
  (fun k w' => k ≤ s.dn ∧ (lwR s at_ B k).2.2 = 0 ∧ n0 ≤ w'.heap.size ∧ Blk w' g_1 127 (epc.f p) ∧ Blk w' L 125 (lgC R l) ∧ Row (fun x => w.heap.size ≤ x ∧ x < n0) w' 5 eb ao c B ∧ RK (fun x => A x ∨ n0 ≤ x) w' R (lwR s at_ B k).1 ∧ Chg A w w') (fun k => s.dn - k) 0 ⟨rfl, rfl, rfl, rfl, rfl, rfl, trivial⟩
  ⟨Nat.zero_le _, rfl, by omega, hb1, hL, hq.mono (fun x hx => by omega), h.mono (fun x hx => .inl hx), hw⟩ ?_
 have hLl := hL.lt
 have hgl := hb1.lt
 have hg1 : w.heap.size ≤ g_1 := hge_1
 clear hb1 hq h hw hL
 rintro k w3 ⟨hk, hk0, hn3, hb1, hL, hq, h, hw⟩
 obtain ⟨d1, d2, d3, d4, d5⟩ := lwR_dn s at_ B k
 refine WC.sr (WL.qh rfl rfl rfl (fun h25 => ?_) (fun h25 => ?_))
 ·refine WL.t (WC.seq (WC.qb rfl (WC.skip (WX.qa (WC.seq (WC.block (WC.sr (WL.move rfl rfl (WL.assign rfl rfl (WL.t (WC.seq (?_))))))))))))
  have hgA : ¬ (A g_1 ∨ n0 ≤ g_1) := fun h9 => by rcases h9 with h8 | h8; have := hA _ h8; omega; omega
  have hLA2 : ¬ (A L ∨ n0 ≤ L) := fun h9 => by rcases h9 with h8 | h8; exact hLA h8; omega
  refine WC.drawP ((fun x => (A x ∨ n0 ≤ x) ∧ x ≠ g_1 ∧ x ≠ L)) [0, 1, 2, 3, 4, 5, 6, 7, 8, 9, 10, 11, 12] [(13, [14])] mixed rfl rfl (fun wd_2 kd_2 zd_2 => ?_)
  have zs_kd_2 := kd_2.size
  replace hb1 := hb1.pure kd_2
  replace hL := hL.pure kd_2
  replace hq := hq.pure kd_2
  replace h := h.pure kd_2
  replace hw := hw.pure kd_2
  apply DPQ.step (E' := [(0, _)])
  case ho => rfl
  case hs => exact ⟨rfl, trivial⟩
  case hk => rfl
  case h1 =>
   intro wq_3 kq_3
   refine WL.move rfl rfl (WL.q)
  apply DPQ.step (E' := [(27, _)])
  case ho => rfl
  case hs => exact ⟨rfl, trivial⟩
  case hk => rfl
  case h1 =>
   intro wq_4 kq_4
   refine WL.nilCheck rfl rfl (WL.q)
  apply DPQ.step (E' := [(28, _)])
  case ho => rfl
  case hs => exact ⟨rfl, trivial⟩
  case hk => rfl
  case h1 =>
   intro wq_5 kq_5
   refine WL.fieldAddr (fld_125_0) rfl rfl (WL.q)
  apply DPQ.step (E' := [(29, _)])
  case ho => rfl
  case hs => exact ⟨rfl, trivial⟩
  case hk => rfl
  case h1 =>
   intro wq_6 kq_6
   have zs_kq_6 := kq_6.size
   replace hb1 := hb1.chg kq_6 (by intro h1; exfalso; have h4 := h1.2; (try dsimp only at *); omega)
   replace hL := hL.chg kq_6 (by intro h1; exfalso; have h4 := h1.2; (try dsimp only at *); omega)
   refine WL.qb Tryz.isAgg25 hL rfl rfl rfl (WL.q)
  apply DPQ.step (E' := [(9, _)])
  case ho => rfl
  case hs => exact ⟨rfl, trivial⟩
  case hk => rfl
  case h1 =>
   intro wq_7 kq_7
   refine WL.move rfl rfl (WL.q)
  apply DPQ.step (E' := [(0, _)])
  case ho => rfl
  case hs => exact ⟨rfl, trivial⟩
  case hk => rfl
  case h1 =>
   intro wq_8 kq_8
   refine WL.move rfl rfl (WL.q)
  apply DPQ.step (E' := [(32, _)])
  case ho => rfl
  case hs => exact ⟨rfl, trivial⟩
  case hk => rfl
  case h1 =>
   intro wq_9 kq_9
   refine WL.nilCheck rfl rfl (WL.q)
  apply DPQ.step (E' := [(33, _)])
  case ho => rfl
  case hs => exact ⟨rfl, trivial⟩
  case hk => rfl
  case h1 =>
   intro wq_10 kq_10
   refine WL.fieldAddr (fld_125_1) rfl rfl (WL.q)
  apply DPQ.step (E' := [(34, _)])
  case ho => rfl
  case hs => exact ⟨rfl, trivial⟩
  case hk => rfl
  case h1 =>
   intro wq_11 kq_11
   have zs_kq_11 := kq_11.size
   replace hb1 := hb1.chg kq_11 (by intro h1; exfalso; have h4 := h1.2; (try dsimp only at *); omega)
   replace hL := hL.chg kq_11 (by intro h1; exfalso; have h4 := h1.2; (try dsimp only at *); omega)
   refine WL.qb Tryz.isAgg3 hL rfl rfl rfl (WL.q)
  apply DPQ.step (E' := [(3, _)])
  case ho => rfl
  case hs => exact ⟨rfl, trivial⟩
  case hk => rfl
  case h1 =>
   intro wq_12 kq_12
   refine WL.fieldAddr (fld_127_1) rfl rfl (WL.q)
  apply DPQ.step (E' := [(36, _)])
  case ho => rfl
  case hs => exact ⟨rfl, trivial⟩
  case hk => rfl
  case h1 =>
   intro wq_13 kq_13
   have zs_kq_13 := kq_13.size
   replace hb1 := hb1.chg kq_13 (by intro h1; exfalso; have h4 := h1.2; (try dsimp only at *); omega)
   replace hL := hL.chg kq_13 (by intro h1; exfalso; have h4 := h1.2; (try dsimp only at *); omega)
   refine WL.qb Tryz.isAgg3 hb1 rfl rfl rfl (WL.q)
  apply DPQ.step (E' := [(35, _), (37, _)])
  case ho => rfl
  case hs => exact ⟨rfl, rfl, trivial⟩
  case hk => rfl
  case h1 =>
   intro wq_14 kq_14
   refine WL.qe rfl rfl (by omega) rfl (?_)
   exact WL.q
  apply DPQ.step (E' := [(6, _)])
  case ho => rfl
  case hs => exact ⟨rfl, trivial⟩
  case hk => rfl
  case h1 =>
   intro wq_15 kq_15
   refine WL.move rfl rfl (WL.q)
  refine DPQ.done (DPR.step [(30, _), (31, _), (38, _), (39, _)] rfl ⟨rfl, rfl, rfl, rfl, trivial⟩ rfl (fun wq_16 kq_16 => ?_))
  have zs_kq_16 := kq_16.size
  replace hb1 := hb1.pure kq_16
  replace hL := hL.pure kq_16
  replace hq := hq.pure kq_16
  replace h := h.pure kq_16
  replace hw := hw.pure kq_16
  have hd_16 := Chg.refl ((fun x => (A x ∨ n0 ≤ x) ∧ x ≠ g_1 ∧ x ≠ L)) wq_16
  rw [← eat]
  have hn9 : (lwR s at_ B k).1.waits.length ≤ 100000 := by omega
  have hR0 := hA R
  have aR0 : R < w.heap.size := lR
  have hq2 : RSl (fun x => w.heap.size ≤ x ∧ x < n0) _ eb ao c B := hq.rsl
  refine WL.call eg_22 rfl rfl (Write_calls h k at_ hq2 (fun x h1 h2 => absurd (h2 ▸ h1.1) (Nat.not_le.2 aR0)) hn9) ?_
  rintro v w5 ⟨rfl, h5, k5⟩
  have z5 := k5.size
  replace h5 : RK (fun x => A x ∨ n0 ≤ x) w5 R (writeS (lwR s at_ B k).1 k at_ B) := h5.mono (fun x hx => by rcases hx with h6 | h6; exact h6; right; omega)
  have hq5 := hq.chg k5 (fun b h1 h2 h3 => by rcases h3 with h4 | h4; have := hA b h4; omega; omega)
  have hw5 : Chg A w w5 := hw.trans k5 (fun x h1 h2 => by rcases h2 with h4 | h4; exact h4; exfalso; omega)
  have k6 := k5.mono (M' := fun x => (A x ∨ n0 ≤ x) ∧ x ≠ g_1 ∧ x ≠ L) (fun x _ m => ⟨m, fun e => hgA (e ▸ m), fun e => hLA2 (e ▸ m)⟩)
  have zs_k6 := k6.size
  replace hb1 := hb1.chg k6 (by intro h1; exfalso; have h4 := h1.2; (try dsimp only at *); omega)
  replace hL := hL.chg k6 (by intro h1; exfalso; have h4 := h1.2; (try dsimp only at *); omega)
  replace hd_16 := hd_16.chg k6 (by intro x h1 h2; exact h2)
  refine WL.nil (WX.one ⟨hd_16, ?_⟩)
  apply DPQ.step (E' := [(40, _)])
  case ho => rfl
  case hs => exact ⟨rfl, trivial⟩
  case hk => rfl
  case h1 =>
   intro wq_17 kq_17
   refine WL.assign rfl rfl (WL.q)
  refine DPQ.done (DPR.done (fun we_18 ke_18 => ?_))
  have zs_ke_18 := ke_18.size
  replace hb1 := hb1.pure ke_18
  replace hL := hL.pure ke_18
  replace hq5 := hq5.pure ke_18
  replace h5 := h5.pure ke_18
  replace hw5 := hw5.pure ke_18
  refine WX.qa (WC.sr (WL.move rfl rfl (WL.t (WC.block (WC.seq (WC.region (WL.qi rfl rfl rfl (fun h44 => ?_) (fun h44 => ?_))))))))
  ·refine WL.assign rfl rfl (WL.t (WC.qb rfl (WC.region (WL.move rfl rfl (WL.qe rfl rfl (by omega) rfl (WL.assign rfl rfl (?_)))))))
   refine WL.nil (WX.qc (WX.qc (WX.qa (WC.region (WL.qe rfl rfl (by omega) rfl (WL.move rfl rfl (WL.nil (?_))))))))
   have hz : writeE (lwR s at_ B k).1 k at_ B.length = 0 := h44
   have e1 : lwR s at_ B (k + 1) = (writeS (lwR s at_ B k).1 k at_ B, (lwR s at_ B k).2.1 + 1, 0) := by
    rw [lwR, if_neg (fun h9 => h9 hk0), if_pos hz]
   have f1 : (lwR s at_ B (k + 1)).2.2 = 0 := by rw [e1]
   have f2 := h5
   have e1' : writeS (lwR s at_ B k).1 k at_ B = (lwR s at_ B (k + 1)).1 := by rw [e1]
   rw [e1'] at f2
   have f3 : ((lwR s at_ B (k + 1)).2.1 : Int) = ((lwR s at_ B k).2.1 : Int) + 1 := by rw [e1]; rfl
   refine WX.qf (k + 1) ⟨rfl, rfl, rfl, ?_, rfl, rfl, trivial⟩ ⟨by omega, f1, by omega, hb1, hL, hq5, f2, hw5⟩ (by show _ - _ < _ - _; omega)
   rw [f3]
   rfl
  ·refine WL.assign rfl rfl (WL.t (WC.qa rfl (WC.sr (WL.qi rfl rfl rfl (fun h48 => ?_) (fun h48 => ?_)))))
   ·refine WL.assign rfl rfl (WL.t (WC.qb rfl (WC.skip (WX.qc (WX.qc (WX.qa (WC.region (WL.qe rfl rfl (by omega) rfl (WL.move rfl rfl (WL.nil (?_)))))))))))
    have hz : writeE (lwR s at_ B k).1 k at_ B.length ≠ 0 := h44
    have hz2 : writeE (lwR s at_ B k).1 k at_ B.length = 3 := h48
    have e1 : lwR s at_ B (k + 1) = (writeS (lwR s at_ B k).1 k at_ B, (lwR s at_ B k).2.1, 0) := by
     rw [lwR, if_neg (fun h9 => h9 hk0), if_neg hz, if_pos hz2]
    have f1 : (lwR s at_ B (k + 1)).2.2 = 0 := by rw [e1]
    have f2 := h5
    have e1' : writeS (lwR s at_ B k).1 k at_ B = (lwR s at_ B (k + 1)).1 := by rw [e1]
    rw [e1'] at f2
    have f3 : ((lwR s at_ B (k + 1)).2.1 : Int) = ((lwR s at_ B k).2.1 : Int) := by rw [e1]
    refine WX.qf (k + 1) ⟨rfl, rfl, rfl, ?_, rfl, rfl, trivial⟩ ⟨by omega, f1, by omega, hb1, hL, hq5, f2, hw5⟩ (by show _ - _ < _ - _; omega)
    rw [f3]
    rfl
   ·refine WL.assign rfl rfl (WL.t (WC.qa rfl (WC.sr (WL.move rfl rfl (WL.assign rfl rfl (WL.assign rfl rfl (WL.t (WC.ret (WX.qe (WX.qe (WX.qb (WX.qb (WX.qe (WX.qb (WX.qi (.inl rfl) Tryz.results69 rfl rfl ?_)))))))))))))))
    have hz : writeE (lwR s at_ B k).1 k at_ B.length ≠ 0 := h44
    have hz2 : writeE (lwR s at_ B k).1 k at_ B.length ≠ 3 := h48
    have e1 : lwR s at_ B (k + 1) = (writeS (lwR s at_ B k).1 k at_ B, 0, writeE (lwR s at_ B k).1 k at_ B.length) := by
     rw [lwR, if_neg (fun h9 => h9 hk0), if_neg hz, if_neg hz2]
    have e2 : lwR s at_ B s.dn = lwR s at_ B (k + 1) := by
     have := lwR_stuck (s0 := s) (at_ := at_) (B := B) (k := k + 1) (by rw [e1]; exact hz) (s.dn - (k + 1))
     rw [show k + 1 + (s.dn - (k + 1)) = s.dn from by omega] at this
     exact this
    rw [e2, e1, if_neg hz]
    exact ⟨_, rfl, rfl, h5.mono (fun x hx => by rcases hx with h6 | h6; exact .inl h6; right; omega), hw5⟩
 ·refine WL.t (WC.seq (WC.qa rfl (WC.exit (WX.qd (WX.qd (WX.qh (WX.qa (WC.sr (WL.move rfl rfl (WL.assign rfl rfl (WL.assign rfl rfl (WL.t (WC.ret (WX.qi (.inl rfl) Tryz.results69 rfl rfl ?_))))))))))))))
  obtain rfl : k = s.dn := by omega
  rw [if_pos hk0, hk0]
  exact ⟨_, rfl, rfl, h.mono (fun x hx => by rcases hx with h6 | h6; exact .inl h6; right; omega), hw⟩
end Go.Proofs.YtjeldcjchipdgaaGreatDoor
