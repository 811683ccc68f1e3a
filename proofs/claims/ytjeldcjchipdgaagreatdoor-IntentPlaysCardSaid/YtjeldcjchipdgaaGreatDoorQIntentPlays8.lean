import Derived.Lib.Builder
import Derived.Lib.UnsafeStr
import Derived.Laws.Externs
import Derived.Test.YtjeldcjchipdgaaGreatDoorQIntentPlays7
namespace Go.Proofs.YtjeldcjchipdgaaGreatDoor
open Go.RowKit Go.HL
set_option maxRecDepth 100000
theorem dneed_calls (s : ByteArray) (w : World) (hs : s.size ≤ 140737488351232) : Calls Tryz.prog 43 [.string s].toArray w (Ret fun v w' => v = vi (needN s : Int) ∧ Chg Nob w w') := by
 have kk := Chg.refl Nob w
 refine Calls.of_WC Tryz.func43 rfl Tryz.ntmps43 (by simp) ?_
 refine WC.sr (WL.assign rfl rfl (WL.t (WC.sr (WL.move rfl rfl (?_)))))
 refine WL.qr Tryz.underlying9 rfl rfl (WL.qe rfl rfl (by omega) rfl (WL.qj rfl rfl (by omega) rfl (WL.quo64i rfl rfl (by refine ⟨?_, ?_, ?_⟩ <;> omega) rfl (?_))))
 refine WL.maxi rfl rfl rfl (WL.assign rfl rfl (WL.t (WC.ret (WX.qg (.inl rfl) Tryz.results43 rfl ?_))))
 refine ⟨_, rfl, ?_, kk⟩
 congr 1
 unfold needN
 split <;> omega
theorem dsector_calls (p : PcV) (hp : WfC p) (w : World) : Calls Tryz.prog 76 [vi p.base, vi p.num, vi p.last, .string p.text].toArray w (Ret fun v w' => v = .string ⟨(secB (cit p)).toArray⟩ ∧ Chg Nob w w') := by
 have kk := Chg.refl Nob w
 refine Calls.of_WC Tryz.func76 rfl Tryz.ntmps76 (by simp) ?_
 refine WC.sr (WL.assign rfl rfl (WL.t (WC.sr (WL.bld rfl (bld_116_0_1 _ _) rfl (WL.move rfl rfl (WL.bld rfl (bld_116_0_1 _ _) rfl (WL.move rfl rfl (WL.bld rfl (bld_116_0_1 _ _) rfl (WL.move rfl rfl (WL.bld rfl (bld_116_0_1 _ _) rfl (WL.move rfl rfl (WL.bld rfl (bld_116_0_2 _ _) rfl (?_)))))))))))))
 refine WL.build (e := eit) [⟨1, 55, ⟨#[]⟩⟩, ⟨1, p.base, ⟨#[]⟩⟩, ⟨1, p.num, ⟨#[]⟩⟩, ⟨1, p.last, ⟨#[]⟩⟩, ⟨2, 0, p.text⟩] Tryz.underlying117 Tryz.sizeOf116 Tryz.zeroValue116 rfl rfl rfl (by simp [Value.cells] <;> rfl) (by decide) rfl ?_
 intro a_ha w_ha ha l_ha z_ha k_ha
 have zs_k_ha := k_ha.size
 replace kk := kk.pure k_ha
 have ha2 := ha.rsl.old
 refine WL.call eg_66 rfl rfl (docSector_calls ha2 (by simp) (cit_rit hp)) ?_
 rintro v w2 ⟨rfl, k2⟩
 have zs_k2 := k2.size
 replace kk := kk.pure k2
 replace ha := ha.pure k2
 refine WL.move rfl rfl (WL.extract rfl rfl rfl (WL.extract rfl rfl rfl (WL.assign rfl rfl (WL.assign rfl rfl (WL.t (WC.seq (WC.region (WL.move rfl rfl (WL.assign rfl rfl (WL.t (WC.ret (WX.qg (.inl rfl) Tryz.results76 rfl ?_))))))))))))
 exact ⟨_, rfl, rfl, kk⟩
def dpc (b : List UInt8) (base k : Int) : Option PcV :=
 match pcD b with
 |some p => if p.base = base ∧ p.num = k then some p else none
 |none => none
theorem dpc_bad {b : List UInt8} {base k : Int} (h : pcD b = none) : dpc b base k = none := by rw [dpc, h]
theorem dpc_yes {b : List UInt8} {p : PcV} (hp : RtC p) (h : secB (cit p) = b) : dpc b p.base p.num = some p := by
 rw [dpc, ← h, pc_enc hp]
 exact if_pos ⟨rfl, rfl⟩
theorem dpc_no {b : List UInt8} {base k : Int} {i0 i1 i2 i3 i4 : Item} (hE : unE b = 0) (hL : unL b = [i0, i1, i2, i3, i4]) (h : ∀ j : Nat, j < 2 → ¬ secB (cit ⟨base, k, j, i4.s⟩) = b) : dpc b base k = none := by
 rw [dpc]
 cases hp : pcD b with
 |none => rfl
 |some p =>
  dsimp only
  rw [if_neg]
  rintro ⟨h1, h2⟩
  obtain ⟨q1, q2, q3, q4, q5⟩ := pc_inv hp
  have ht : p.text = i4.s := by
   rw [pcD_five hE hL] at hp
   split at hp
   ·injection hp with hp
    rw [← hp]
   ·cases hp
  have he : p = ⟨base, k, p.last, i4.s⟩ := by rw [← h1, ← h2, ← ht]
  rcases q5 with q5 | q5
  ·refine h 0 (by omega) ?_
   rw [q5] at he
   rw [he] at q2
   exact q2
  ·refine h 1 (by omega) ?_
   rw [q5] at he
   rw [he] at q2
   exact q2
theorem dpc_five {b : List UInt8} {base k : Int} {i0 i1 i2 i3 i4 : Item} (hE : unE b = 0) (hL : unL b = [i0, i1, i2, i3, i4]) (h : i4.kind ≠ 2 ∨ ¬ i4.s.size ≤ 56) : dpc b base k = none := by
 refine dpc_bad ?_
 rw [pcD_five hE hL, if_neg]
 rintro ⟨⟨_, _, _, _, h5, h6⟩, _⟩
 rcases h with h | h
 ·exact h h5
 ·exact h h6
set_option maxHeartbeats 2000000 in
theorem dpiece_calls (X : ByteArray) (base k : Int) (w : World) (hl : X.size ≤ 140737488351232) (hb : 0 ≤ base ∧ base ≤ 1125899906842624) (hk : 0 ≤ k ∧ k ≤ 1000) :
 Calls Tryz.prog 93 [.string X, vi base, vi k].toArray w (Ret fun v w' => (∃ (t : ByteArray) (l : Bool), v = .tuple #[.string t, .bool l, .bool (dpc X.data.toList base k).isSome] ∧
  ∀ p, dpc X.data.toList base k = some p → t = p.text ∧ l = decide (p.last = 1)) ∧ Chg Nob w w') := by
 have kk := Chg.refl Nob w
 obtain ⟨b, eb0⟩ : ∃ b, b = X.data.toList := ⟨_, rfl⟩
 have hXb : X = ⟨b.toArray⟩ := ba_ext eb0.symm
 rw [← eb0]
 refine Calls.of_WC Tryz.func93 rfl Tryz.ntmps93 (by simp) ?_
 refine WC.sr (WL.assign rfl rfl (WL.assign rfl rfl (WL.assign rfl rfl (WL.t (WC.seq (WC.region (WL.move rfl rfl (WL.call eg_106 rfl rfl (docUnsector_calls X _ hl) ?_))))))))
 rintro v w1 ⟨⟨a1, c1, rfl, hq⟩, k1⟩
 rw [← eb0] at hq ⊢
 obtain ⟨L, eL⟩ : ∃ L, L = unL b := ⟨_, rfl⟩
 rw [← eL] at hq ⊢
 have zs_k1 := k1.size
 replace kk := kk.pure k1
 replace hq := hq.lt
 refine WL.move rfl rfl (WL.extract rfl rfl rfl (WL.extract rfl rfl rfl (WL.assign rfl rfl (WL.assign rfl rfl (WL.t (WC.seq (WC.sr (WL.move rfl rfl (WL.qo rfl rfl rfl (fun h18 => ?_) (fun h18 => ?_))))))))))
 ·refine WL.move rfl rfl (WL.pass rfl rfl rfl rfl (WL.pass rfl rfl rfl rfl (WL.pass rfl rfl rfl rfl (WL.qd rfl rfl rfl (WL.move rfl rfl (WL.pass rfl rfl rfl rfl (WL.pass rfl rfl rfl rfl (WL.pass rfl rfl rfl rfl (WL.pass rfl rfl rfl rfl (WL.pass rfl rfl rfl rfl (WL.qd rfl rfl rfl (WL.move rfl rfl (WL.pass rfl rfl rfl rfl (WL.pass rfl rfl rfl rfl (WL.pass rfl rfl rfl rfl (WL.pass rfl rfl rfl rfl (WL.pass rfl rfl rfl rfl (WL.pass rfl rfl rfl rfl (WL.qd rfl rfl rfl (WL.t (WC.qb rfl (WC.seq (WC.region (WL.assign rfl rfl (WL.assign rfl rfl (WL.assign rfl rfl (WL.t (WC.ret (WX.qb (WX.qj (.inl rfl) Tryz.results93 rfl rfl rfl ?_))))))))))))))))))))))))))))))
  have hz : unE b ≠ 0 := h18
  have e1 := dpc_bad (base := base) (k := k) (pcD_bad (b := b) (.inl hz))
  rw [e1]
  exact ⟨_, rfl, ⟨_, _, rfl, fun p hp => by cases hp⟩, kk⟩
 ·refine WL.move rfl rfl (WL.qa rfl rfl rfl (WL.move rfl rfl (WL.qa rfl rfl rfl (WL.len Tryz.underlying117 rfl rfl (WL.qa rfl rfl rfl (WL.qo rfl rfl rfl (fun h22 => ?_) (fun h22 => ?_)))))))
  ·refine WL.qc rfl rfl rfl (WL.move rfl rfl (WL.pass rfl rfl rfl rfl (WL.pass rfl rfl rfl rfl (WL.pass rfl rfl rfl rfl (WL.pass rfl rfl rfl rfl (WL.pass rfl rfl rfl rfl (WL.qd rfl rfl rfl (WL.move rfl rfl (WL.pass rfl rfl rfl rfl (WL.pass rfl rfl rfl rfl (WL.pass rfl rfl rfl rfl (WL.pass rfl rfl rfl rfl (WL.pass rfl rfl rfl rfl (WL.pass rfl rfl rfl rfl (WL.qd rfl rfl rfl (WL.t (WC.qb rfl (WC.sr (WL.assign rfl rfl (WL.assign rfl rfl (WL.assign rfl rfl (WL.t (WC.ret (WX.qb (WX.qj (.inl rfl) Tryz.results93 rfl rfl rfl ?_)))))))))))))))))))))))))
   have hz : (L.length : Int) ≠ 5 := h22
   have e1 := dpc_bad (base := base) (k := k) (pcD_bad (b := b) (.inr (fun h9 => hz (by rw [eL, h9]; rfl))))
   rw [e1]
   exact ⟨_, rfl, ⟨_, _, rfl, fun p hp => by cases hp⟩, kk⟩
  ·refine WL.qc rfl rfl rfl (WL.move rfl rfl (WL.qa rfl rfl rfl (WL.move rfl rfl (WL.qa rfl rfl rfl (?_)))))
   obtain ⟨i0, i1, i2, i3, i4, hL⟩ := five_items (l := L) (by omega)
   have hi4 : L[4]? = some i4 := by rw [hL]; rfl
   refine WL.qg Tryz.underlying117 Tryz.sizeOf116 hq.rsl rfl rfl ⟨hi4, rfl⟩ rfl ?_
   intro b_1 o_1 hc_1
   refine WL.qa rfl rfl rfl (WL.fieldAddr (fld_116_0) rfl rfl (WL.qa rfl rfl rfl (WL.load Tryz.isAgg3 rfl (hc_1 _ _ rfl) rfl (WL.qa rfl rfl rfl (WL.qo rfl rfl rfl (fun h29 => ?_) (fun h29 => ?_))))))
   ·refine WL.qc rfl rfl rfl (WL.move rfl rfl (WL.pass rfl rfl rfl rfl (WL.pass rfl rfl rfl rfl (WL.pass rfl rfl rfl rfl (WL.pass rfl rfl rfl rfl (WL.pass rfl rfl rfl rfl (WL.pass rfl rfl rfl rfl (WL.qd rfl rfl rfl (WL.t (WC.qb rfl (WC.sr (WL.assign rfl rfl (WL.assign rfl rfl (WL.assign rfl rfl (WL.t (WC.ret (WX.qb (WX.qj (.inl rfl) Tryz.results93 rfl rfl rfl ?_))))))))))))))))))
    have hz : i4.kind ≠ 2 := h29
    have e1 := dpc_five (base := base) (k := k) h18 (eL ▸ hL) (.inl hz)
    rw [e1]
    exact ⟨_, rfl, ⟨_, _, rfl, fun p hp => by cases hp⟩, kk⟩
   ·refine WL.qc rfl rfl rfl (WL.move rfl rfl (WL.qa rfl rfl rfl (WL.move rfl rfl (WL.qa rfl rfl rfl (WL.qg Tryz.underlying117 Tryz.sizeOf116 hq.rsl rfl rfl ⟨hi4, rfl⟩ rfl ?_)))))
    intro b_2 o_2 hc_2
    refine WL.qa rfl rfl rfl (WL.fieldAddr (fld_116_2) rfl rfl (WL.qa rfl rfl rfl (WL.load Tryz.isAgg9 rfl (hc_2 _ _ rfl) rfl (WL.qa rfl rfl rfl (WL.qr Tryz.underlying9 rfl rfl (WL.qa rfl rfl rfl (WL.qn rfl rfl rfl (fun h37 => ?_) (fun h37 => ?_))))))))
    ·refine WL.qc rfl rfl rfl (WL.t (WC.qb rfl (WC.sr (WL.assign rfl rfl (WL.assign rfl rfl (WL.assign rfl rfl (WL.t (WC.ret (WX.qb (WX.qj (.inl rfl) Tryz.results93 rfl rfl rfl ?_))))))))))
     have hz : (56 : Int) < i4.s.size := h37
     have e1 := dpc_five (base := base) (k := k) h18 (eL ▸ hL) (.inr (by omega))
     rw [e1]
     exact ⟨_, rfl, ⟨_, _, rfl, fun p hp => by cases hp⟩, kk⟩
    ·refine WL.qc rfl rfl rfl (WL.t (WC.qa rfl (WC.skip (WX.qa (WC.seq (WC.seq (WC.region (WL.assign rfl rfl (WL.t (WC.block (?_)))))))))))
     have h56 : i4.s.size ≤ 56 := by omega
     have hLl : L.length = 5 := by rw [hL]; rfl
     refine WC.loop (σ := Nat) (fun j => [(0, .string X), (1, vi base), (2, vi k), (9, .slice a1 L.length c1), (11, vi (j : Int))])
      (fun j w' => j ≤ 2 ∧ (∀ m : Nat, m < j → ¬ secB (cit ⟨base, k, m, i4.s⟩) = b) ∧ Row (fun x => w.heap.size ≤ x) w' 116 eit a1 c1 L ∧ Chg Nob w w') (fun j => 2 - j) 0 ⟨rfl, rfl, rfl, rfl, rfl, trivial⟩
      ⟨Nat.zero_le _, fun m hm => absurd hm (Nat.not_lt_zero m), hq.mono (fun x hx => by omega), kk⟩ ?_
     clear hq kk
     rintro j w3 ⟨hj, hK, hq, kk⟩
     refine WC.seq (WC.sr (WL.move rfl rfl (WL.qh rfl rfl rfl (fun h40 => ?_) (fun h40 => ?_))))
     ·refine WL.t (WC.qb rfl (WC.skip (WX.qa (WC.seq (WC.block (WC.seq (WC.region (WL.move rfl rfl (WL.move rfl rfl (WL.move rfl rfl (WL.move rfl rfl (WL.qg Tryz.underlying117 Tryz.sizeOf116 hq.rsl rfl rfl ⟨hi4, rfl⟩ rfl ?_))))))))))))
      intro b_3 o_3 hc_3
      refine WL.fieldAddr (fld_116_2) rfl rfl (WL.load Tryz.isAgg9 rfl (hc_3 _ _ rfl) rfl (?_))
      have hpj : RtC ⟨base, k, j, i4.s⟩ := ⟨hb, hk, by show (j : Int) = 0 ∨ (j : Int) = 1; omega, h56⟩
      refine WL.call eg_76 rfl rfl (dsector_calls ⟨base, k, j, i4.s⟩ hpj.wf _) ?_
      rintro v w4 ⟨rfl, k4⟩
      have zs_k4 := k4.size
      replace hq := hq.pure k4
      replace kk := kk.pure k4
      refine WL.move rfl rfl (WL.seql? rfl rfl rfl (fun h52 => ?_) (fun h52 => ?_))
      ·refine WL.t (WC.qb rfl (WC.sr (WL.move rfl rfl (WL.qg Tryz.underlying117 Tryz.sizeOf116 hq.rsl rfl rfl ⟨hi4, rfl⟩ rfl ?_))))
       intro b_4 o_4 hc_4
       refine WL.fieldAddr (fld_116_2) rfl rfl (WL.load Tryz.isAgg9 rfl (hc_4 _ _ rfl) rfl (WL.move rfl rfl (WL.eql rfl rfl rfl (WL.assign rfl rfl (WL.assign rfl rfl (WL.assign rfl rfl (WL.nil (WX.qa (WC.ret (WX.qe (WX.qb (WX.qb (WX.qe (WX.qb (WX.qj (.inl rfl) Tryz.results93 rfl rfl rfl ?_)))))))))))))))
       have hz : (⟨(secB (cit ⟨base, k, j, i4.s⟩)).toArray⟩ : ByteArray) = X := h52
       have hz3 : secB (cit ⟨base, k, j, i4.s⟩) = b := by
        have := congrArg (fun x : ByteArray => x.data.toList) hz
        rw [eb0]
        simpa using this
       have e1 := dpc_yes hpj hz3
       have e2 : dpc b base k = some ⟨base, k, j, i4.s⟩ := e1
       rw [e2]
       exact ⟨_, rfl, ⟨_, _, rfl, fun p hp => by injection hp with hp; subst hp; exact ⟨rfl, rfl⟩⟩, kk⟩
      ·refine WL.t (WC.qa rfl (WC.skip (WX.qc (WX.qa (WC.region (WL.move rfl rfl (WL.qe rfl rfl (by omega) rfl (WL.assign rfl rfl (WL.nil (?_))))))))))
       have hz : ¬ (⟨(secB (cit ⟨base, k, j, i4.s⟩)).toArray⟩ : ByteArray) = X := h52
       refine WX.qf (j + 1) ⟨rfl, rfl, rfl, rfl, rfl, trivial⟩ ⟨by omega, fun m hm => ?_, hq, kk⟩ (by show _ - _ < _ - _; omega)
       rcases Nat.lt_or_ge m j with h9 | h9
       ·exact hK m h9
       ·obtain rfl : m = j := by omega
        intro h8
        exact hz (by rw [h8, hXb])
     ·refine WL.t (WC.qa rfl (WC.exit (WX.qd (WX.qd (WX.qh (WX.qa (WC.sr (WL.assign rfl rfl (WL.assign rfl rfl (WL.assign rfl rfl (WL.t (WC.ret (WX.qj (.inl rfl) Tryz.results93 rfl rfl rfl ?_)))))))))))))
      have e1 := dpc_no (base := base) (k := k) h18 (eL ▸ hL) (fun m hm => hK m (by omega))
      rw [e1]
      exact ⟨_, rfl, ⟨_, _, rfl, fun p hp => by cases hp⟩, kk⟩
end Go.Proofs.YtjeldcjchipdgaaGreatDoor
namespace Go.HL
open Go.RowKit
section
variable {P : Program} {ops : Array Oper} {Q : Exit → Act → World → Prop} {N : Nat} {E : Env} {w : World} {rest : List Oper}
 {d : Nat} {ty : TypeId} {pos : String} {af : Array Edge} {x y : Operand}
theorem Blk.shape {b : Nat} {e : TypeId} {cs : List Value} (h : Blk w b e cs) : w.shape? b = some (e, cs.length) := by
 unfold Blk at h
 simp [World.shape?, h]
theorem WL.neqSelf {t tb te : TypeId} {a : Addr} (hp : P.underlying t = some (.pointer te)) (hte : (P.info? te).isSome = true) (hx : ev E x = some (.pointer (some a))) (hy : ev E y = some (.pointer (some a))) (hd : Nat.blt d N = true) (h : WL P ops Q N rest ((d, .bool false) :: E) w) :
 WL P ops Q N (⟨some d, .binOp .neq t x y tb, ty, pos, af, none⟩ :: rest) E w :=
 WL.run _ w (fun a ha => by
  obtain ⟨j, hj⟩ := Option.isSome_iff_exists.1 hte
  simp [execOp, ev_eval ha hx, ev_eval ha hy, eqGuard, Lib.run_neq_ptr_same (P := P) w _ hp hj]) hd h
theorem WL.toUnsafe {src dst t e : TypeId} {b o : Nat} {cs : List Value} (hs : P.underlying src = some (.pointer t)) (hu : P.underlying dst = some .unsafePointer) (ht : ((P.info? t).map (·.size)).any (· != 0) = true) (hb : Blk w b e cs) (ho : o < cs.length)
 (hx : ev E x = some (.pointer (some ⟨b, o, none⟩))) (hd : Nat.blt d N = true) (h : WL P ops Q N rest ((d, .pointer (some ⟨b, o, none⟩)) :: E) w) :
 WL P ops Q N (⟨some d, .convert src dst x, ty, pos, af, none⟩ :: rest) E w :=
 WL.run _ w (fun a ha => by
  cases hj : P.info? t with
  |none => rw [hj] at ht; cases ht
  |some j =>
   rw [hj] at ht
   have h0 : j.size ≠ 0 := by simpa using ht
   simp [execOp, ev_eval ha hx, Lib.run_to_unsafe (P := P) w ⟨b, o, none⟩ hs hu hj h0 hb.shape ho]) hd h
theorem WL.fromUnsafe {src dst u e : TypeId} {b o : Nat} {cs : List Value} (hs : P.underlying src = some .unsafePointer) (hu : P.underlying dst = some (.pointer u)) (ht : (P.info? u).isSome = true) (hb : Blk w b e cs) (hl : liesAt P P.depth e (cs.length / P.cellsOf e) o u 1 = true)
 (hx : ev E x = some (.pointer (some ⟨b, o, none⟩))) (hd : Nat.blt d N = true) (h : WL P ops Q N rest ((d, .pointer (some ⟨b, o, none⟩)) :: E) w) :
 WL P ops Q N (⟨some d, .convert src dst x, ty, pos, af, none⟩ :: rest) E w :=
 WL.run _ w (fun a ha => by
  obtain ⟨j, hj⟩ := Option.isSome_iff_exists.1 ht
  simp [execOp, ev_eval ha hx, Lib.run_from_unsafe (P := P) w ⟨b, o, none⟩ hs hu hj hb.shape hl]) hd h
theorem WL.extern1 {f : FuncId} {fn : Func} {e : Array Value → Sem Value} {xs : List Operand} {us : List Value} {v : Value} {ats : Array TypeId} (hf : P.funcs[f]? = some fn) (hname : (fn.name == "runtime.NumGoroutine") = false) (hb : fn.body.isNone = true) (hn : Extern.findNext fn = none) (he : Extern.find fn = some e)
 (hr : (e us.toArray).run P w = .ok v w) (hx : evs E xs = some us) (hd : Nat.blt d N = true) (h : WL P ops Q N rest ((d, v) :: E) w) :
 WL P ops Q N (⟨some d, .call ⟨.value (.func f), xs.toArray, ats⟩, ty, pos, af, none⟩ :: rest) E w :=
 WL.run _ w (fun a ha => by
  have h1 := run_callFunc_extern (P := P) hf hname hb hn he us.toArray w
  rw [hr] at h1
  have h2 : (callFunc f us.toArray).run P w = .ok (.value v) w := h1
  simp only [execOp, resolve, Act.eval, Deferred.ofValue, List.map_toArray, evs_eval ha hx]
  simp [invoke, h2]) hd h
theorem Chg.freeze (w : World) (g o n : Nat) : Chg (· = g) w (w.freeze ⟨g, o, none⟩ n) := by
 unfold World.freeze
 split
 ·exact Chg.refl _ _
 ·refine ⟨rfl, rfl, rfl, by simp, fun k _ hk => ?_⟩
  simp only [Array.getElem?_modify]
  rw [if_neg (fun e => hk e.symm)]
theorem WL.sliceData {t e : TypeId} {S : Nat → Prop} {T : TypeId} {ao : Option Addr} {c : Nat} {xs : List UInt8} (hp : P.underlying ty = some (.pointer e)) (hr : Row S w T eb ao c xs) (hx : ev E x = some (.slice ao xs.length c)) (hd : Nat.blt d N = true)
 (h : ∀ p w', Chg Nob w w' → (xs ≠ [] → p = ao ∧ w' = w) → WL P ops Q N rest ((d, .pointer p) :: E) w') :
 WL P ops Q N (⟨some d, .call ⟨.builtin .unsafeSliceData, #[x], #[t]⟩, ty, pos, af, none⟩ :: rest) E w := by
 rcases hr.own.2.2 with ⟨h1, h2⟩ | ⟨g, cur, fr, h1, h2, h3, h4, h5, h6⟩
 ·subst h1
  refine WL.run (.pointer none) w (fun a ha => by simp [execOp, resolve, invoke, builtin, ev_eval ha hx, Lib.run_unsafeSliceData_nil]) hd (h none w (Chg.refl _ _) (fun _ => ⟨rfl, rfl⟩))
 ·subst h1
  by_cases hc : c = 0
  ·subst hc
   have hn : xs = [] := List.eq_nil_of_length_eq_zero (by have := hr.own.2.1; omega)
   refine WL.run (.pointer (some ⟨w.heap.size, 0, none⟩)) (w.alloc (.view ⟨g, 0, none⟩ e)) (fun a ha => ?_) hd (h _ _ (Chg.alloc _ _) (fun hx => absurd hn hx))
   have hsh : w.shape? (⟨g, 0, none⟩ : Addr).block = some (T, cur.size) := by simp [World.shape?, h2]
   simp [execOp, resolve, invoke, builtin, ev_eval ha hx, Lib.run_unsafeSliceData_zero (P := P) w #[t] ty e hp ⟨g, 0, none⟩ _ _ hsh]
  ·refine WL.run (.pointer (some ⟨g, 0, none⟩)) w (fun a ha => by simp [execOp, resolve, invoke, builtin, ev_eval ha hx, Lib.run_unsafeSliceData_row (P := P) w #[t] ty ⟨g, 0, none⟩ _ c hc]) hd (h _ w (Chg.refl _ _) (fun _ => ⟨rfl, rfl⟩))
theorem WL.unsafeString {pt it e : TypeId} {S : Nat → Prop} {ao p : Option Addr} {c : Nat} {xs : List UInt8} (hp : P.underlying pt = some (.pointer e)) (hce : P.cellsOf e = 1) (hr : Row S w e eb ao c xs) (hpa : xs ≠ [] → p = ao) (hl : xs.length ≤ 9223372036854775807)
 (hx : ev E x = some (.pointer p)) (hy : ev E y = some (vi xs.length)) (hd : Nat.blt d N = true)
 (h : ∀ w', w'.heap.size = w.heap.size → Chg (fun b => Eqb ao b) w w' → WL P ops Q N rest ((d, .string ⟨xs.toArray⟩) :: E) w') :
 WL P ops Q N (⟨some d, .call ⟨.builtin .unsafeString, #[x, y], #[pt, it]⟩, ty, pos, af, none⟩ :: rest) E w := by
 by_cases hn : xs = []
 ·subst hn
  refine WL.run (.string ⟨#[]⟩) w (fun a ha => ?_) hd (h w rfl (Chg.refl _ _))
  have := Lib.run_unsafeString_none (P := P) w pt it ty p
  simp [execOp, resolve, invoke, builtin, ev_eval ha hx, ev_eval ha hy]
  rw [this]
  rfl
 ·have hpe := hpa hn
  subst hpe
  rcases hr.own.2.2 with ⟨h1, h2⟩ | ⟨g, cur, fr, h1, h2, h3, h4, h5, h6⟩
  ·exfalso
   have := hr.own.2.1
   exact hn (List.eq_nil_of_length_eq_zero (by omega))
  ·subst h1
   have hsh : w.shape? g = some (e, cur.size) := by simp [World.shape?, h2]
   have hcells : ∀ j z, xs[j]? = some z → w.cell? ((⟨g, 0, none⟩ : Addr).add j) = some (.int .u8 z.toNat) := fun j z hz => by
    have := hr.rsl.cellsAt hz
    have h9 := this 0 _ rfl
    rw [show 0 + j * eb.sz + 0 = 0 + j from by show 0 + j * 1 + 0 = 0 + j; omega] at h9
    rw [Addr.add_lit]
    exact h9
   have hrun := Lib.run_unsafeString_row (P := P) w pt it ty e hp hce g cur.size hsh xs hn (by have := hr.own.2.1; rw [h5]; show _ ≤ c * 1; omega) hl hcells
   refine WL.run (.string ⟨xs.toArray⟩) (w.freeze ⟨g, 0, none⟩ xs.length) (fun a ha => by simp [execOp, resolve, invoke, builtin, ev_eval ha hx, ev_eval ha hy, hrun]) hd (h _ (by unfold World.freeze; split <;> simp) ((Chg.freeze w g 0 xs.length).mono (fun b _ hb => ⟨_, rfl, hb⟩)))
theorem WX.ret3c {fn : Func} {R : Ending → World → Prop} {z : Exit} (hz : z = .ret ∨ z = .normal) {t u r T e : TypeId} {b k : Nat} {cs : List Value} {v v3 : Value} (h : fn.results = #[.cell t T, .tmp u, .tmp r]) (ha : ∀ w, (isAgg T).run P w = .ok true w) (hs : ∀ w, (sizeOf T).run P w = .ok k w) (hb : Blk w b e cs) (hv : E.lookup t = some (.pointer (some ⟨b, 0, none⟩))) (hk : cs.length = k)
 (hu : E.lookup u = some v) (hr : E.lookup r = some v3) (hR : R (.returned (.tuple #[.agg cs.toArray, v, v3])) w) : WX (bodyPost P fn R) z N E w :=
 WX.retOf hz _ (fun a hh => by
  have h1 := getD_of hh hv
  have h3 := getD_of hh hu
  have h4 := getD_of hh hr
  simp only [Array.getD_eq_getD_getElem?] at h1 h3 h4
  have h2 := run_loadVarB ha hs hb hk
  simp [results, h, h1, h3, h4, asAddr, h2]) hR
end
end Go.HL
namespace Go.Proofs.YtjeldcjchipdgaaGreatDoor
open Go.RowKit Go.HL
set_option maxRecDepth 100000
structure Bd (S : Nat → Prop) (w : World) (B : Nat) (acc : List UInt8) : Prop where
 sB : S B
 ex : ∃ (pa ao : Option Addr) (c : Nat), Blk w B 131 [.pointer pa, .slice ao acc.length c] ∧ (pa = none ∨ pa = some ⟨B, 0, none⟩) ∧ Row (fun x => S x ∧ x ≠ B) w 5 eb ao c acc
theorem Bd.pure {S : Nat → Prop} {w w' : World} {B : Nat} {acc : List UInt8} (h : Bd S w B acc) (k : Chg Nob w w') : Bd S w' B acc := by
 obtain ⟨pa, ao, c, h1, h2, h3⟩ := h.ex
 exact ⟨h.sB, pa, ao, c, h1.chg k (fun x => x), h2, h3.pure k⟩
theorem Bd.chg {S M : Nat → Prop} {w w' : World} {B : Nat} {acc : List UInt8} (h : Bd S w B acc) (k : Chg M w w') (hd : ∀ b, b < w.heap.size → S b → M b → False) : Bd S w' B acc := by
 obtain ⟨pa, ao, c, h1, h2, h3⟩ := h.ex
 exact ⟨h.sB, pa, ao, c, h1.chg k (fun x => hd B h1.lt h.sB x), h2, h3.chg k (fun b hb hs hm => hd b hb hs.1 hm)⟩
theorem Bd.mono {S S' : Nat → Prop} {w : World} {B : Nat} {acc : List UInt8} (h : Bd S w B acc) (k : ∀ b, S b → S' b) : Bd S' w B acc := by
 obtain ⟨pa, ao, c, h1, h2, h3⟩ := h.ex
 exact ⟨k _ h.sB, pa, ao, c, h1, h2, h3.mono (fun b hb => ⟨k b hb.1, hb.2⟩)⟩
theorem Bd.old {S : Nat → Prop} {w : World} {B : Nat} {acc : List UInt8} (h : Bd S w B acc) : Bd (fun b => S b ∧ b < w.heap.size) w B acc := by
 obtain ⟨pa, ao, c, h1, h2, h3⟩ := h.ex
 exact ⟨⟨h.sB, h1.lt⟩, pa, ao, c, h1, h2, h3.lt.mono (fun b hb => ⟨⟨hb.1.1, hb.2⟩, hb.1.2⟩)⟩
theorem Bd.new {w : World} {B : Nat} (h : Blk w B 131 [.pointer none, .slice none 0 0]) : Bd (· = B) w B [] := ⟨rfl, none, none, 0, h, .inl rfl, Row.nil _ _ _ _⟩
theorem bcopy0_calls {w : World} {B : Nat} {v : Value} (h : Blk w B 131 [.pointer none, v]) :
 Calls Tryz.prog 92 [ptr B].toArray w (Ret fun r w' => r = .tuple #[] ∧ Blk w' B 131 [ptr B, v] ∧ Chg (· = B) w w') := by
 have hw := Chg.refl (· = B) w
 refine Calls.of_WC Tryz.func92 rfl Tryz.ntmps92 (by simp) ?_
 refine WC.sr (WL.move rfl rfl (WL.nilCheck rfl rfl (WL.fieldAddr (fld_131_0) rfl rfl (WL.qb Tryz.isAgg129 h rfl rfl rfl (WL.qq Tryz.underlying129 rfl rfl rfl ?_)))))
 refine WL.t (WC.qb rfl (WC.region (WL.move rfl rfl (WL.move rfl rfl (WL.toUnsafe Tryz.underlying129 Tryz.underlying174 (by kernel_rfl) h (by simp) rfl rfl ?_)))))
 refine WL.extern1 Tryz.func109 (by kernel_rfl) (by kernel_rfl) (by kernel_rfl) (e := Extern.AbiNoEscape.same) (by kernel_rfl) (Lib.run_noEscape _ _) rfl rfl ?_
 refine WL.fromUnsafe Tryz.underlying174 Tryz.underlying129 (by kernel_rfl) h (by kernel_rfl) rfl rfl ?_
 refine WL.nilCheck rfl rfl (WL.fieldAddr (fld_131_0) rfl rfl (WL.store Tryz.sizeOf129 h rfl rfl rfl rfl ?_))
 intro w_1 hs_1 hn_1 k_1
 have zs_k_1 := k_1.size
 replace hw := hw.chg k_1 (by intro x h1 h2; exact h2)
 replace h := hn_1
 refine WL.nil (WX.ql (.inr rfl) Tryz.results92 ?_)
 exact ⟨_, rfl, rfl, h, hw⟩
theorem bcopy1_calls {w : World} {B : Nat} {v : Value} (h : Blk w B 131 [ptr B, v]) :
 Calls Tryz.prog 92 [ptr B].toArray w (Ret fun r w' => r = .tuple #[] ∧ Blk w' B 131 [ptr B, v] ∧ Chg (· = B) w w') := by
 have hw := Chg.refl (· = B) w
 refine Calls.of_WC Tryz.func92 rfl Tryz.ntmps92 (by simp) ?_
 refine WC.sr (WL.move rfl rfl (WL.nilCheck rfl rfl (WL.fieldAddr (fld_131_0) rfl rfl (WL.qb Tryz.isAgg129 h rfl rfl rfl (WL.qq Tryz.underlying129 rfl rfl rfl ?_)))))
 refine WL.t (WC.qa rfl (WC.sr (WL.move rfl rfl (WL.nilCheck rfl rfl (WL.fieldAddr (fld_131_0) rfl rfl (WL.qb Tryz.isAgg129 h rfl rfl rfl (WL.move rfl rfl (WL.neqSelf Tryz.underlying129 (by kernel_rfl) rfl rfl rfl ?_))))))))
 refine WL.t (WC.qa rfl (WC.skip (WX.ql (.inr rfl) Tryz.results92 ?_)))
 exact ⟨_, rfl, rfl, h, hw⟩
theorem bcopy_calls {w : World} {B : Nat} {pa : Option Addr} {v : Value} (h : Blk w B 131 [.pointer pa, v]) (hp : pa = none ∨ pa = some ⟨B, 0, none⟩) :
 Calls Tryz.prog 92 [ptr B].toArray w (Ret fun r w' => r = .tuple #[] ∧ Blk w' B 131 [ptr B, v] ∧ Chg (· = B) w w') := by
 rcases hp with rfl | rfl
 ·exact bcopy0_calls h
 ·exact bcopy1_calls h
theorem bwrite_calls {S : Nat → Prop} {w : World} {B : Nat} {acc : List UInt8} (h : Bd S w B acc) (s : ByteArray) (hl : acc.length + s.size ≤ 140737488355000) :
 Calls Tryz.prog 72 [ptr B, .string s].toArray w (Ret fun r w' => r = .tuple #[vi s.size, .nilIface] ∧ Bd (fun x => S x ∨ w.heap.size ≤ x) w' B (acc ++ s.data.toList) ∧ Chg S w w') := by
 have sB := h.sB
 obtain ⟨pa, ao, c, hB, hpa, hr⟩ := h.ex
 have hw := Chg.refl S w
 have hBl := hB.lt
 have hsl : s.data.toList.length = s.size := by simp
 refine Calls.of_WC Tryz.func72 rfl Tryz.ntmps72 (by simp) ?_
 refine WC.sr (WL.assign rfl rfl (WL.assign rfl rfl (WL.t (WC.sr (WL.move rfl rfl (WL.call eg_92 rfl rfl (bcopy_calls hB hpa) ?_))))))
 rintro v w1 ⟨rfl, hB1, k1⟩
 replace hr := hr.chg k1 (fun b _ h1 h2 => h1.2 h2)
 replace hw := hw.trans k1 (fun b _ h2 => by rw [show b = B from h2]; exact sB)
 have z1 := k1.size
 refine WL.t (WC.sr (WL.move rfl rfl (WL.move rfl rfl (WL.nilCheck rfl rfl (WL.fieldAddr (fld_131_1) rfl rfl (WL.qb Tryz.isAgg51 hB1 rfl rfl rfl (WL.move rfl rfl (?_))))))))
 replace hr := hr.mono (S' := fun x => (S x ∨ w.heap.size ≤ x) ∧ x ≠ B) (fun x hx => ⟨.inl hx.1, hx.2⟩)
 refine WL.append (e := eb) info_5 rfl Tryz.underlying51 rfl rfl hr (src_string _ Tryz.underlying9) (by rw [hsl]; constructor <;> omega) (by intro b hb; first | (apply hS; omega) | ((try dsimp only); omega)) rfl ?_
 intro a_hq c_hq w_hq hq g_hq n_hq
 have z_hq := g_hq.chg.size
 have zs_g_hq_chg := g_hq.chg.size
 replace hB1 := hB1.chg g_hq.chg (by intro h1; exfalso; have h4 := h1.2; (try dsimp only at *); omega)
 have hw2 : Chg S w w_hq := hw.trans g_hq.chg (fun b h1 h2 => h2.2.1.elim (fun h => h) (fun h => by omega))
 refine WL.nilCheck rfl rfl (WL.fieldAddr (fld_131_1) rfl rfl (WL.store Tryz.sizeOf51 hB1 rfl rfl rfl rfl ?_))
 intro w_1 hs_1 hn_1 k_1
 have zs_k_1 := k_1.size
 replace hq := hq.chg k_1 (by intro b h1 h2 h3; have h4 : _ = _ := h3; (try dsimp only at h2); exfalso; omega)
 replace hw2 := hw2.chg k_1 (by intro x h1 h2; have h3 : _ = _ := h2; subst h3; assumption)
 replace hB1 := hn_1
 refine WL.t (WC.sr (WL.move rfl rfl (WL.qr Tryz.underlying9 rfl rfl (WL.assign rfl rfl (WL.assign rfl rfl (WL.t (WC.ret (WX.qi (.inl rfl) Tryz.results72 rfl rfl ?_))))))))
 refine ⟨_, rfl, rfl, ⟨.inl sB, _, _, _, hB1, .inr rfl, hq⟩, hw2⟩
theorem bstring_calls {S : Nat → Prop} {w : World} {B : Nat} {acc : List UInt8} (h : Bd S w B acc) (hl : acc.length ≤ 140737488355000) :
 Calls Tryz.prog 73 [ptr B].toArray w (Ret fun r w' => r = .string (bs acc) ∧ (∃ u v, Blk w' B 131 [u, v]) ∧ Chg S w w') := by
 have sB := h.sB
 obtain ⟨pa, ao, c, hB, hpa, hr⟩ := h.ex
 have hw := Chg.refl S w
 refine Calls.of_WC Tryz.func73 rfl Tryz.ntmps73 (by simp) ?_
 refine WC.sr (WL.assign rfl rfl (WL.t (WC.seq (WC.qc ((fun x => S x ∧ x ≠ B)) [0, 1, 2, 3, 5, 6, 7, 8, 9] [4, 10, 11] mixed rfl rfl (fun wd_1 kd_1 zd_1 => ?_)))))
 have zs_kd_1 := kd_1.size
 replace hB := hB.pure kd_1
 replace hr := hr.pure kd_1
 replace hw := hw.pure kd_1
 apply DQ.step [(0, _)] rfl ⟨rfl, trivial⟩ rfl (fun _ _ => WL.move rfl rfl  WL.q)
 apply DQ.step [(3, _)] rfl ⟨rfl, trivial⟩ rfl (fun _ _ => WL.nilCheck rfl rfl  WL.q)
 apply DQ.step [(4, _)] rfl ⟨rfl, trivial⟩ rfl (fun _ _ => WL.fieldAddr (fld_131_1) rfl rfl  WL.q)
 apply DQ.step [(5, _)] rfl ⟨rfl, trivial⟩ rfl
 ·intro wq_6 kq_6
  have zs_kq_6 := kq_6.size
  replace hB := hB.chg kq_6 (by intro h1; exfalso; have h4 := h1.2; (try dsimp only at *); omega)
  refine WL.qb Tryz.isAgg51 hB rfl rfl rfl (WL.q)
 apply DQ.step [(0, _)] rfl ⟨rfl, trivial⟩ rfl (fun _ _ => WL.move rfl rfl  WL.q)
 apply DQ.step [(8, _)] rfl ⟨rfl, trivial⟩ rfl (fun _ _ => WL.nilCheck rfl rfl  WL.q)
 apply DQ.step [(9, _)] rfl ⟨rfl, trivial⟩ rfl (fun _ _ => WL.fieldAddr (fld_131_1) rfl rfl  WL.q)
 apply DQ.step [(10, _)] rfl ⟨rfl, trivial⟩ rfl
 ·intro wq_10 kq_10
  have zs_kq_10 := kq_10.size
  replace hB := hB.chg kq_10 (by intro h1; exfalso; have h4 := h1.2; (try dsimp only at *); omega)
  refine WL.qb Tryz.isAgg51 hB rfl rfl rfl (WL.q)
 apply DQ.step [(11, _)] rfl ⟨rfl, trivial⟩ rfl
 ·intro wq_11 kq_11
  have zs_kq_11 := kq_11.size
  replace hB := hB.chg kq_11 (by intro h1; exfalso; have h4 := h1.2; (try dsimp only at *); omega)
  refine WL.len Tryz.underlying51 rfl rfl (WL.q)
 refine DQ.done (fun hd_2 => ?_)
 refine DL.step [(6, _)] rfl ⟨rfl, trivial⟩ rfl (fun wq_12 kq_12 => ?_)
 have zs_kq_12 := kq_12.size
 replace hB := hB.pure kq_12
 replace hr := hr.pure kq_12
 replace hw := hw.pure kq_12
 replace hd_2 := hd_2.pure kq_12
 refine WL.sliceData Tryz.underlying156 hr rfl rfl ?_
 intro p w7 k7 hp7
 have zs_k7 := k7.size
 replace hB := hB.pure k7
 replace hr := hr.pure k7
 replace hw := hw.pure k7
 replace hd_2 := hd_2.pure k7
 refine WL.nil (WX.one ⟨hd_2, ?_⟩)
 refine DL.step [(7, _), (12, _)] rfl ⟨rfl, rfl, trivial⟩ rfl (fun wq_13 kq_13 => ?_)
 have zs_kq_13 := kq_13.size
 replace hB := hB.pure kq_13
 replace hr := hr.pure kq_13
 replace hw := hw.pure kq_13
 replace hd_2 := hd_2.pure kq_13
 refine WL.unsafeString Tryz.underlying156 (by kernel_rfl) hr (fun hne => (hp7 hne).1) (by omega) rfl rfl rfl ?_
 intro w8 z8 k8
 have k9 := k8.mono (M' := fun x => S x ∧ x ≠ B) (fun b _ hb => hr.at_.eqb hb)
 have zs_k9 := k9.size
 replace hB := hB.chg k9 (by intro h1; exfalso; have h4 := h1.2; (try dsimp only at *); omega)
 replace hw := hw.chg k9 (by intro x h1 h2; exact h2.1)
 replace hd_2 := hd_2.chg k9 (by intro x h1 h2; exact h2)
 refine WL.nil (WX.one ⟨hd_2, ?_⟩)
 refine DL.step [(13, _)] rfl ⟨rfl, trivial⟩ rfl (fun wq_14 kq_14 => ?_)
 have zs_kq_14 := kq_14.size
 replace hB := hB.pure kq_14
 replace hw := hw.pure kq_14
 replace hd_2 := hd_2.pure kq_14
 refine WL.assign rfl rfl (WL.nil ?_)
 refine WX.one ⟨hd_2, ?_⟩
 refine DL.done (fun we_15 ke_15 => ?_)
 have zs_ke_15 := ke_15.size
 replace hB := hB.pure ke_15
 replace hw := hw.pure ke_15
 replace hd_2 := hd_2.pure ke_15
 refine WX.qa (WC.ret (WX.qg (.inl rfl) Tryz.results73 rfl ?_))
 exact ⟨_, rfl, rfl, ⟨_, _, hB⟩, hw⟩
theorem breset_calls {w : World} {B : Nat} {u v : Value} (h : Blk w B 131 [u, v]) :
 Calls Tryz.prog 74 [ptr B].toArray w (Ret fun r w' => r = .tuple #[] ∧ Bd (· = B) w' B [] ∧ Chg (· = B) w w') := by
 have hw := Chg.refl (· = B) w
 refine Calls.of_WC Tryz.func74 rfl Tryz.ntmps74 (by simp) ?_
 refine WC.sr (WL.move rfl rfl (WL.nilCheck rfl rfl (WL.fieldAddr (fld_131_0) rfl rfl (WL.store Tryz.sizeOf129 h rfl rfl rfl rfl ?_))))
 intro w_1 hs_1 hn_1 k_1
 have zs_k_1 := k_1.size
 replace hw := hw.chg k_1 (by intro x h1 h2; exact h2)
 replace h := hn_1
 refine WL.t (WC.region (WL.move rfl rfl (WL.nilCheck rfl rfl (WL.fieldAddr (fld_131_1) rfl rfl (WL.store Tryz.sizeOf51 h rfl rfl rfl rfl ?_)))))
 intro w_2 hs_2 hn_2 k_2
 have zs_k_2 := k_2.size
 replace hw := hw.chg k_2 (by intro x h1 h2; exact h2)
 replace h := hn_2
 refine WL.nil (WX.ql (.inr rfl) Tryz.results74 ?_)
 exact ⟨_, rfl, rfl, Bd.new h, hw⟩
end Go.Proofs.YtjeldcjchipdgaaGreatDoor
namespace Go.Proofs.YtjeldcjchipdgaaGreatDoor
open Go.RowKit Go.HL
set_option maxRecDepth 100000
set_option maxHeartbeats 2000000 in
theorem parse_calls {w : World} {ao : Option Addr} {c : Nat} {b : List UInt8} (hr : RSl (· < w.heap.size) w eb ao c b) (hl : b.length ≤ 140737488351232) :
 Calls Tryz.prog 91 [.slice ao b.length c].toArray w (Ret fun v w' => (∃ p : PcV, v = .tuple #[.agg (epc.f p).toArray, .bool (pcD b).isSome] ∧ (∀ q, pcD b = some q → p = q)) ∧ Chg Nob w w') := by
 have kk := Chg.refl Nob w
 refine Calls.of_WC Tryz.func91 rfl Tryz.ntmps91 (by simp) ?_
 refine WC.sr (WL.alloc Tryz.zeroValue127 rfl ?_)
 intro g_1 w_1 hge_1 hlt_1 hb_1 k_1
 have zs_k_1 := k_1.size
 replace hr := hr.pure k_1
 replace kk := kk.pure k_1
 refine WL.assign rfl rfl (WL.t (WC.sr (WL.move rfl rfl (?_))))
 have hr1 := hr.old
 refine WL.call eg_104 rfl rfl (unsector_calls hr1 (by omega)) ?_
 rintro v w1 ⟨⟨a1, c1, rfl, hq⟩, k1⟩
 have hg : ∀ i ∈ unL b, Good i := un_good
 obtain ⟨L, eL⟩ : ∃ L, L = unL b := ⟨_, rfl⟩
 rw [← eL] at hq hg ⊢
 have zs_k1 := k1.size
 replace hr := hr.pure k1
 replace kk := kk.pure k1
 replace hb_1 := hb_1.pure k1
 replace hq := hq.lt
 refine WL.move rfl rfl (WL.extract rfl rfl rfl (WL.extract rfl rfl rfl (WL.assign rfl rfl (WL.assign rfl rfl (WL.t (WC.seq (WC.sr (WL.move rfl rfl (WL.qo rfl rfl rfl (fun h14 => ?_) (fun h14 => ?_))))))))))
 ·refine WL.move rfl rfl (WL.pass rfl rfl rfl rfl (WL.pass rfl rfl rfl rfl (WL.pass rfl rfl rfl rfl (WL.qd rfl rfl rfl (WL.move rfl rfl (WL.pass rfl rfl rfl rfl (WL.pass rfl rfl rfl rfl (WL.pass rfl rfl rfl rfl (WL.pass rfl rfl rfl rfl (WL.pass rfl rfl rfl rfl (WL.qd rfl rfl rfl (WL.move rfl rfl (WL.pass rfl rfl rfl rfl (WL.pass rfl rfl rfl rfl (WL.pass rfl rfl rfl rfl (WL.pass rfl rfl rfl rfl (WL.pass rfl rfl rfl rfl (WL.pass rfl rfl rfl rfl (WL.qd rfl rfl rfl (WL.t (WC.qb rfl (WC.seq (WC.region (WL.bld rfl (bld_127_z) rfl (?_)))))))))))))))))))))))))
  refine WL.ql Tryz.sizeOf127 hb_1 rfl rfl (by simp; done) (by simp [Value.oneCell']; done) (by simp [Value.cells]; done) rfl ?_
  intro w_2 hs_2 hn_2 k_2
  have zs_k_2 := k_2.size
  replace hr := hr.chg k_2 (by intro b h1 h2 h3; have h4 : _ = _ := h3; (try dsimp only at h2); exfalso; omega)
  replace kk := kk.chg k_2 (by intro x h1 h2; have h3 : _ = _ := h2; exfalso; omega)
  replace hq := hq.chg k_2 (by intro b h1 h2 h3; have h4 : _ = _ := h3; (try dsimp only at h2); exfalso; omega)
  replace hb_1 := hn_2
  refine WL.assign rfl rfl (WL.t (WC.ret (WX.qb (WX.ret2c (.inl rfl) Tryz.results91 Tryz.isAgg127 Tryz.sizeOf127 hb_1 rfl (by rfl) rfl ?_))))
  have hz : unE b ≠ 0 := h14
  have hd := pcD_bad (b := b) (.inl hz)
  refine ⟨_, rfl, ⟨zeroC, by rw [hd]; rfl, fun q hq9 => by rw [hd] at hq9; cases hq9⟩, kk⟩
 ·refine WL.move rfl rfl (WL.qa rfl rfl rfl (WL.move rfl rfl (WL.qa rfl rfl rfl (WL.len Tryz.underlying117 rfl rfl (WL.qa rfl rfl rfl (WL.qo rfl rfl rfl (fun h18 => ?_) (fun h18 => ?_)))))))
  ·refine WL.qc rfl rfl rfl (WL.move rfl rfl (WL.pass rfl rfl rfl rfl (WL.pass rfl rfl rfl rfl (WL.pass rfl rfl rfl rfl (WL.pass rfl rfl rfl rfl (WL.pass rfl rfl rfl rfl (WL.qd rfl rfl rfl (WL.move rfl rfl (WL.pass rfl rfl rfl rfl (WL.pass rfl rfl rfl rfl (WL.pass rfl rfl rfl rfl (WL.pass rfl rfl rfl rfl (WL.pass rfl rfl rfl rfl (WL.pass rfl rfl rfl rfl (WL.qd rfl rfl rfl (WL.t (WC.qb rfl (WC.sr (WL.bld rfl (bld_127_z) rfl (?_))))))))))))))))))))
   refine WL.ql Tryz.sizeOf127 hb_1 rfl rfl (by simp; done) (by simp [Value.oneCell']; done) (by simp [Value.cells]; done) rfl ?_
   intro w_2 hs_2 hn_2 k_2
   have zs_k_2 := k_2.size
   replace hr := hr.chg k_2 (by intro b h1 h2 h3; have h4 : _ = _ := h3; (try dsimp only at h2); exfalso; omega)
   replace kk := kk.chg k_2 (by intro x h1 h2; have h3 : _ = _ := h2; exfalso; omega)
   replace hq := hq.chg k_2 (by intro b h1 h2 h3; have h4 : _ = _ := h3; (try dsimp only at h2); exfalso; omega)
   replace hb_1 := hn_2
   refine WL.assign rfl rfl (WL.t (WC.ret (WX.qb (WX.ret2c (.inl rfl) Tryz.results91 Tryz.isAgg127 Tryz.sizeOf127 hb_1 rfl (by rfl) rfl ?_))))
   have hz : (L.length : Int) ≠ 5 := h18
   have hd := pcD_bad (b := b) (.inr (fun h9 => hz (by rw [eL, h9]; rfl)))
   refine ⟨_, rfl, ⟨zeroC, by rw [hd]; rfl, fun q hq9 => by rw [hd] at hq9; cases hq9⟩, kk⟩
  ·refine WL.qc rfl rfl rfl (WL.move rfl rfl (WL.qa rfl rfl rfl (WL.move rfl rfl (WL.qa rfl rfl rfl (?_)))))
   obtain ⟨i0, i1, i2, i3, i4, hL⟩ := five_items (l := L) (by omega)
   have hi0 : L[0]? = some i0 := by rw [hL]; rfl
   have hi1 : L[1]? = some i1 := by rw [hL]; rfl
   have hi2 : L[2]? = some i2 := by rw [hL]; rfl
   have hi3 : L[3]? = some i3 := by rw [hL]; rfl
   have hi4 : L[4]? = some i4 := by rw [hL]; rfl
   have hr3 : RIt i3 := (hg i3 (by rw [hL]; simp)).2.2
   refine WL.qg Tryz.underlying117 Tryz.sizeOf116 hq.rsl rfl rfl ⟨hi4, rfl⟩ rfl ?_
   intro b_2 o_2 hc_2
   refine WL.qa rfl rfl rfl (WL.fieldAddr (fld_116_0) rfl rfl (WL.qa rfl rfl rfl (WL.load Tryz.isAgg3 rfl (hc_2 _ _ rfl) rfl (WL.qa rfl rfl rfl (WL.qo rfl rfl rfl (fun h25 => ?_) (fun h25 => ?_))))))
   ·refine WL.qc rfl rfl rfl (WL.move rfl rfl (WL.pass rfl rfl rfl rfl (WL.pass rfl rfl rfl rfl (WL.pass rfl rfl rfl rfl (WL.pass rfl rfl rfl rfl (WL.pass rfl rfl rfl rfl (WL.pass rfl rfl rfl rfl (WL.qd rfl rfl rfl (WL.t (WC.qb rfl (WC.sr (WL.bld rfl (bld_127_z) rfl (?_)))))))))))))
    refine WL.ql Tryz.sizeOf127 hb_1 rfl rfl (by simp; done) (by simp [Value.oneCell']; done) (by simp [Value.cells]; done) rfl ?_
    intro w_3 hs_3 hn_3 k_3
    have zs_k_3 := k_3.size
    replace hr := hr.chg k_3 (by intro b h1 h2 h3; have h4 : _ = _ := h3; (try dsimp only at h2); exfalso; omega)
    replace kk := kk.chg k_3 (by intro x h1 h2; have h3 : _ = _ := h2; exfalso; omega)
    replace hq := hq.chg k_3 (by intro b h1 h2 h3; have h4 : _ = _ := h3; (try dsimp only at h2); exfalso; omega)
    replace hb_1 := hn_3
    refine WL.assign rfl rfl (WL.t (WC.ret (WX.qb (WX.ret2c (.inl rfl) Tryz.results91 Tryz.isAgg127 Tryz.sizeOf127 hb_1 rfl (by rfl) rfl ?_))))
    have hd := pcD_five (b := b) h14 (eL ▸ hL)
    have hd2 : pcD b = none := by
     rw [hd, if_neg]
     rintro ⟨⟨c0, c1, c2, c3, c4, c5⟩, c6, c7⟩
     omega
    refine ⟨_, rfl, ⟨zeroC, by rw [hd2]; rfl, fun q hq9 => by rw [hd2] at hq9; cases hq9⟩, kk⟩
   ·refine WL.qc rfl rfl rfl (WL.move rfl rfl (WL.qa rfl rfl rfl (WL.move rfl rfl (WL.qa rfl rfl rfl (WL.qg Tryz.underlying117 Tryz.sizeOf116 hq.rsl rfl rfl ⟨hi4, rfl⟩ rfl ?_)))))
    intro b_3 o_3 hc_3
    refine WL.qa rfl rfl rfl (WL.fieldAddr (fld_116_2) rfl rfl (WL.qa rfl rfl rfl (WL.load Tryz.isAgg9 rfl (hc_3 _ _ rfl) rfl (WL.qa rfl rfl rfl (WL.qr Tryz.underlying9 rfl rfl (WL.qa rfl rfl rfl (WL.qn rfl rfl rfl (fun h33 => ?_) (fun h33 => ?_))))))))
    ·refine WL.qc rfl rfl rfl (WL.t (WC.qb rfl (WC.sr (WL.bld rfl (bld_127_z) rfl (?_)))))
     refine WL.ql Tryz.sizeOf127 hb_1 rfl rfl (by simp; done) (by simp [Value.oneCell']; done) (by simp [Value.cells]; done) rfl ?_
     intro w_4 hs_4 hn_4 k_4
     have zs_k_4 := k_4.size
     replace hr := hr.chg k_4 (by intro b h1 h2 h3; have h4 : _ = _ := h3; (try dsimp only at h2); exfalso; omega)
     replace kk := kk.chg k_4 (by intro x h1 h2; have h3 : _ = _ := h2; exfalso; omega)
     replace hq := hq.chg k_4 (by intro b h1 h2 h3; have h4 : _ = _ := h3; (try dsimp only at h2); exfalso; omega)
     replace hb_1 := hn_4
     refine WL.assign rfl rfl (WL.t (WC.ret (WX.qb (WX.ret2c (.inl rfl) Tryz.results91 Tryz.isAgg127 Tryz.sizeOf127 hb_1 rfl (by rfl) rfl ?_))))
     have hd := pcD_five (b := b) h14 (eL ▸ hL)
     have hd2 : pcD b = none := by
      rw [hd, if_neg]
      rintro ⟨⟨c0, c1, c2, c3, c4, c5⟩, c6, c7⟩
      omega
     refine ⟨_, rfl, ⟨zeroC, by rw [hd2]; rfl, fun q hq9 => by rw [hd2] at hq9; cases hq9⟩, kk⟩
    ·refine WL.qc rfl rfl rfl (WL.t (WC.qa rfl (WC.skip (WX.qa (WC.seq (WC.seq (WC.region (WL.move rfl rfl (?_)))))))))
     refine WL.slice (l := 0) (h := 4) (k := .i64) Tryz.underlying117 Tryz.sizeOf116 hq.rsl rfl (.inr ⟨rfl, rfl⟩) (.inl rfl) (by constructor <;> omega) rfl ?_
     intro a_q4 c_q4 q4 n_q4
     refine WL.len Tryz.underlying117 rfl rfl (WL.move rfl rfl (WL.t (WC.block (?_))))
     obtain ⟨Y, eY⟩ : ∃ Y, Y = List.drop 0 (List.take 4 L) := ⟨_, rfl⟩
     have hYl : Y.length = 4 := by rw [eY, List.drop_zero, List.length_take]; omega
     have hYi : ∀ i, i < 4 → Y[i]? = L[i]? := fun i hi => by rw [eY, List.drop_zero, List.getElem?_take, if_pos hi]
     have hg12 : w.heap.size ≤ g_1 ∧ g_1 < w_1.heap.size := ⟨hge_1, hlt_1⟩
     rw [← eY] at q4 ⊢
     refine WC.loop (σ := Nat) (fun j => [(2, ptr g_1), (4, .slice a1 L.length c1), (37, .slice a_q4 Y.length c_q4), (38, vi (Y.length : Int)), (39, vi (j : Int))])
      (fun j w' => j ≤ 4 ∧ (∀ i x, i < j → L[i]? = some x → x.kind = 1) ∧ Blk w' g_1 127 (epc.f zeroC) ∧ Row (fun b => w_1.heap.size ≤ b) w' 116 eit a1 c1 L ∧ RSl (fun b => w_1.heap.size ≤ b) w' eit a_q4 c_q4 Y ∧ w_1.heap.size ≤ w'.heap.size ∧ Chg Nob w w') (fun j => 4 - j) 0 ⟨rfl, rfl, rfl, rfl, rfl, trivial⟩
      ⟨Nat.zero_le _, fun i x hi => absurd hi (Nat.not_lt_zero i), Blk.eqc hb_1 rfl, hq.mono (fun x hx => hx.1), q4.mono (fun x hx => hx.1), by omega, kk⟩ ?_
     clear hb_1 hq q4 kk hc_2 hc_3 hr
     rintro j w3 ⟨hj, hK, hb_1, hq, q4, hz3, kk⟩
     replace hq := hq.lt
     replace q4 := q4.lt
     refine WC.sr (WL.qh rfl rfl rfl (fun h40 => ?_) (fun h40 => ?_))
     ·refine WL.t (WC.seq (WC.qb rfl (WC.skip (WX.qa (WC.seq (WC.block (WC.sr (?_))))))))
      obtain ⟨x, hx⟩ : ∃ x, L[j]? = some x := ⟨_, List.getElem?_eq_getElem (by omega)⟩
      have hxY : Y[j]? = some x := by rw [hYi j (by omega)]; exact hx
      refine WL.qg Tryz.underlying117 Tryz.sizeOf116 q4 rfl rfl ⟨hxY, rfl⟩ rfl ?_
      intro b_4 o_4 hc_4
      refine WL.qw _ Tryz.isAgg116 Tryz.sizeOf116 rfl hc_4 rfl rfl (WL.alloc Tryz.zeroValue116 rfl ?_)
      intro g_5 w_5 hge_5 hlt_5 hb_5 k_5
      have zs_k_5 := k_5.size
      replace hb_1 := hb_1.pure k_5
      replace hq := hq.pure k_5
      replace q4 := q4.pure k_5
      replace kk := kk.pure k_5
      refine WL.ql Tryz.sizeOf116 hb_5 rfl rfl (by rfl) (by exact Enc.one _ _) (by exact Nat.le_of_ble_eq_true rfl) rfl ?_
      intro w_6 hs_6 hn_6 k_6
      have zs_k_6 := k_6.size
      replace hb_1 := hb_1.chg k_6 (by intro h1; have h2 : _ = _ := h1; exfalso; omega)
      replace hq := hq.chg k_6 (by intro b h1 h2 h3; have h4 : _ = _ := h3; (try dsimp only at h2); exfalso; omega)
      replace q4 := q4.chg k_6 (by intro b h1 h2 h3; have h4 : _ = _ := h3; (try dsimp only at h2); exfalso; omega)
      replace kk := kk.chg k_6 (by intro x h1 h2; have h3 : _ = _ := h2; exfalso; omega)
      replace hb_5 := hn_6
      refine WL.t (WC.sr (WL.fieldAddr (fld_116_0) rfl rfl (?_)))
      have hb7 := Blk.eqc (cs' := eit.f x) hb_5 rfl
      refine WL.qb Tryz.isAgg3 hb7 rfl rfl rfl (WL.qo rfl rfl rfl (fun h45 => ?_) (fun h45 => ?_))
      ·refine WL.t (WC.qb rfl (WC.sr (WL.bld rfl (bld_127_z) rfl (?_))))
       refine WL.ql Tryz.sizeOf127 hb_1 rfl rfl (by simp; done) (by simp [Value.oneCell']; done) (by exact Nat.le_of_ble_eq_true rfl) rfl ?_
       intro w_7 hs_7 hn_7 k_7
       have zs_k_7 := k_7.size
       replace hq := hq.chg k_7 (by intro b h1 h2 h3; have h4 : _ = _ := h3; (try dsimp only at h2); exfalso; omega)
       replace q4 := q4.chg k_7 (by intro b h1 h2 h3; have h4 : _ = _ := h3; (try dsimp only at h2); exfalso; omega)
       replace kk := kk.chg k_7 (by intro x h1 h2; have h3 : _ = _ := h2; exfalso; omega)
       replace hb_1 := hn_7
       refine WL.assign rfl rfl (WL.t (WC.ret (WX.qe (WX.qb (WX.qb (WX.qe (WX.qb (WX.ret2c (.inl rfl) Tryz.results91 Tryz.isAgg127 Tryz.sizeOf127 hb_1 rfl (by rfl) rfl ?_))))))))
       have hd := pcD_five (b := b) h14 (eL ▸ hL)
       have hd2 : pcD b = none := by
        rw [hd, if_neg]
        rintro ⟨⟨c0, c1, c2, c3, c4, c5⟩, c6, c7⟩
        have hjk : j = 0 ∨ j = 1 ∨ j = 2 ∨ j = 3 := by omega
        rcases hjk with rfl | rfl | rfl | rfl
        ·rw [hi0] at hx; injection hx with hx; subst hx; omega
        ·rw [hi1] at hx; injection hx with hx; subst hx; omega
        ·rw [hi2] at hx; injection hx with hx; subst hx; omega
        ·rw [hi3] at hx; injection hx with hx; subst hx; omega
       refine ⟨_, rfl, ⟨zeroC, by rw [hd2]; rfl, fun q hq9 => by rw [hd2] at hq9; cases hq9⟩, kk⟩
      ·refine WL.t (WC.qa rfl (WC.skip (WX.qc (WX.qa (WC.region (WL.qe rfl rfl (by omega) rfl (?_)))))))
       refine WL.move rfl rfl (WL.nil (?_))
       refine WX.qf (j + 1) ⟨rfl, rfl, rfl, rfl, rfl, trivial⟩ ⟨by omega, fun i y hi hy => ?_, hb_1, hq.mono (fun x hx => hx.1), q4.mono (fun x hx => hx.1), by omega, kk⟩ (by show _ - _ < _ - _; omega)
       rcases Nat.lt_or_ge i j with h1 | h1
       ·exact hK i y h1 hy
       ·rw [show i = j from by omega, hx] at hy
        injection hy with hy
        rw [← hy]
        assumption
     ·refine WL.t (WC.seq (WC.qa rfl (WC.exit (WX.qd (WX.qd (WX.qh (WX.qa (WC.seq (?_)))))))))
      have hj4 : j = 4 := by omega
      obtain ⟨b0, o0, rfl⟩ := hq.rsl.place hi1
      have k0 := hK 0 i0 (by omega) hi0
      have k1 := hK 1 i1 (by omega) hi1
      have k2 := hK 2 i2 (by omega) hi2
      have k3 := hK 3 i3 (by omega) hi3
      by_cases h69 : i0.n = 55
      ·refine WC.qc ((fun x => x = g_1)) [0, 1, 2, 3, 4, 5, 6, 7, 8, 9, 10, 11, 12, 13, 14, 15, 16, 17, 18, 19, 20, 21, 22, 23, 24, 25, 26, 27, 28, 29, 31] [30] mixed rfl rfl (fun wd_4 kd_4 zd_4 => ?_)
       have zs_kd_4 := kd_4.size
       replace hb_1 := hb_1.pure kd_4
       replace hq := hq.pure kd_4
       replace q4 := q4.pure kd_4
       replace kk := kk.pure kd_4
       apply DQ.step [(4, _)] rfl ⟨rfl, trivial⟩ rfl (fun _ _ => WL.move rfl rfl  WL.q)
       apply DQ.step [(48, _)] rfl ⟨rfl, trivial⟩ rfl
       ·intro wq_7 kq_7
        have zs_kq_7 := kq_7.size
        replace hq := hq.chg kq_7 (by intro b h1 h2 h3; have h4 : _ = _ := h3; (try dsimp only at h2); exfalso; omega)
        replace q4 := q4.chg kq_7 (by intro b h1 h2 h3; have h4 : _ = _ := h3; (try dsimp only at h2); exfalso; omega)
        replace kk := kk.chg kq_7 (by intro x h1 h2; have h3 : _ = _ := h2; exfalso; omega)
        refine WL.qf hq.rsl Tryz.underlying117 Tryz.sizeOf116 rfl rfl ⟨hi1, rfl⟩ rfl (WL.q)
       apply DQ.step [(49, _)] rfl ⟨rfl, trivial⟩ rfl (fun _ _ => WL.fieldAddr (fld_116_1) rfl rfl  WL.q)
       apply DQ.step [(50, _)] rfl ⟨rfl, trivial⟩ rfl
       ·intro wq_9 kq_9
        have zs_kq_9 := kq_9.size
        replace hq := hq.chg kq_9 (by intro b h1 h2 h3; have h4 : _ = _ := h3; (try dsimp only at h2); exfalso; omega)
        replace q4 := q4.chg kq_9 (by intro b h1 h2 h3; have h4 : _ = _ := h3; (try dsimp only at h2); exfalso; omega)
        replace kk := kk.chg kq_9 (by intro x h1 h2; have h3 : _ = _ := h2; exfalso; omega)
        refine WL.load Tryz.isAgg3 rfl ((hq.rsl.cellsAt hi1) _ _ rfl) rfl (WL.q)
       apply DQ.step [(4, _)] rfl ⟨rfl, trivial⟩ rfl (fun _ _ => WL.move rfl rfl  WL.q)
       apply DQ.step [(52, _)] rfl ⟨rfl, trivial⟩ rfl
       ·intro wq_11 kq_11
        have zs_kq_11 := kq_11.size
        replace hq := hq.chg kq_11 (by intro b h1 h2 h3; have h4 : _ = _ := h3; (try dsimp only at h2); exfalso; omega)
        replace q4 := q4.chg kq_11 (by intro b h1 h2 h3; have h4 : _ = _ := h3; (try dsimp only at h2); exfalso; omega)
        replace kk := kk.chg kq_11 (by intro x h1 h2; have h3 : _ = _ := h2; exfalso; omega)
        refine WL.qf hq.rsl Tryz.underlying117 Tryz.sizeOf116 rfl rfl ⟨hi2, rfl⟩ rfl (WL.q)
       apply DQ.step [(53, _)] rfl ⟨rfl, trivial⟩ rfl (fun _ _ => WL.fieldAddr (fld_116_1) rfl rfl  WL.q)
       apply DQ.step [(54, _)] rfl ⟨rfl, trivial⟩ rfl
       ·intro wq_13 kq_13
        have zs_kq_13 := kq_13.size
        replace hq := hq.chg kq_13 (by intro b h1 h2 h3; have h4 : _ = _ := h3; (try dsimp only at h2); exfalso; omega)
        replace q4 := q4.chg kq_13 (by intro b h1 h2 h3; have h4 : _ = _ := h3; (try dsimp only at h2); exfalso; omega)
        replace kk := kk.chg kq_13 (by intro x h1 h2; have h3 : _ = _ := h2; exfalso; omega)
        refine WL.load Tryz.isAgg3 rfl ((hq.rsl.cellsAt hi2) _ _ rfl) rfl (WL.q)
       apply DQ.step [(4, _)] rfl ⟨rfl, trivial⟩ rfl (fun _ _ => WL.move rfl rfl  WL.q)
       apply DQ.step [(56, _)] rfl ⟨rfl, trivial⟩ rfl
       ·intro wq_15 kq_15
        have zs_kq_15 := kq_15.size
        replace hq := hq.chg kq_15 (by intro b h1 h2 h3; have h4 : _ = _ := h3; (try dsimp only at h2); exfalso; omega)
        replace q4 := q4.chg kq_15 (by intro b h1 h2 h3; have h4 : _ = _ := h3; (try dsimp only at h2); exfalso; omega)
        replace kk := kk.chg kq_15 (by intro x h1 h2; have h3 : _ = _ := h2; exfalso; omega)
        refine WL.qf hq.rsl Tryz.underlying117 Tryz.sizeOf116 rfl rfl ⟨hi3, rfl⟩ rfl (WL.q)
       apply DQ.step [(57, _)] rfl ⟨rfl, trivial⟩ rfl (fun _ _ => WL.fieldAddr (fld_116_1) rfl rfl  WL.q)
       apply DQ.step [(58, _)] rfl ⟨rfl, trivial⟩ rfl
       ·intro wq_17 kq_17
        have zs_kq_17 := kq_17.size
        replace hq := hq.chg kq_17 (by intro b h1 h2 h3; have h4 : _ = _ := h3; (try dsimp only at h2); exfalso; omega)
        replace q4 := q4.chg kq_17 (by intro b h1 h2 h3; have h4 : _ = _ := h3; (try dsimp only at h2); exfalso; omega)
        replace kk := kk.chg kq_17 (by intro x h1 h2; have h3 : _ = _ := h2; exfalso; omega)
        refine WL.load Tryz.isAgg3 rfl ((hq.rsl.cellsAt hi3) _ _ rfl) rfl (WL.q)
       apply DQ.step [(4, _)] rfl ⟨rfl, trivial⟩ rfl (fun _ _ => WL.move rfl rfl  WL.q)
       apply DQ.step [(60, _)] rfl ⟨rfl, trivial⟩ rfl
       ·intro wq_19 kq_19
        have zs_kq_19 := kq_19.size
        replace hq := hq.chg kq_19 (by intro b h1 h2 h3; have h4 : _ = _ := h3; (try dsimp only at h2); exfalso; omega)
        replace q4 := q4.chg kq_19 (by intro b h1 h2 h3; have h4 : _ = _ := h3; (try dsimp only at h2); exfalso; omega)
        replace kk := kk.chg kq_19 (by intro x h1 h2; have h3 : _ = _ := h2; exfalso; omega)
        refine WL.qf hq.rsl Tryz.underlying117 Tryz.sizeOf116 rfl rfl ⟨hi4, rfl⟩ rfl (WL.q)
       apply DQ.step [(61, _)] rfl ⟨rfl, trivial⟩ rfl (fun _ _ => WL.fieldAddr (fld_116_2) rfl rfl  WL.q)
       apply DQ.step [(62, _)] rfl ⟨rfl, trivial⟩ rfl
       ·intro wq_21 kq_21
        have zs_kq_21 := kq_21.size
        replace hq := hq.chg kq_21 (by intro b h1 h2 h3; have h4 : _ = _ := h3; (try dsimp only at h2); exfalso; omega)
        replace q4 := q4.chg kq_21 (by intro b h1 h2 h3; have h4 : _ = _ := h3; (try dsimp only at h2); exfalso; omega)
        replace kk := kk.chg kq_21 (by intro x h1 h2; have h3 : _ = _ := h2; exfalso; omega)
        refine WL.load Tryz.isAgg9 rfl ((hq.rsl.cellsAt hi4) _ _ rfl) rfl (WL.q)
       apply DQ.step [(51, _), (55, _), (59, _), (63, _)] rfl ⟨rfl, rfl, rfl, rfl, trivial⟩ rfl (fun _ _ => WL.bld rfl (bld_127_0_1_2_3 _ _ _ _) rfl  WL.q)
       apply DQ.step [(4, _)] rfl ⟨rfl, trivial⟩ rfl (fun _ _ => WL.move rfl rfl  WL.q)
       apply DQ.step [(65, _)] rfl ⟨rfl, trivial⟩ rfl
       ·intro wq_24 kq_24
        have zs_kq_24 := kq_24.size
        replace hq := hq.chg kq_24 (by intro b h1 h2 h3; have h4 : _ = _ := h3; (try dsimp only at h2); exfalso; omega)
        replace q4 := q4.chg kq_24 (by intro b h1 h2 h3; have h4 : _ = _ := h3; (try dsimp only at h2); exfalso; omega)
        replace kk := kk.chg kq_24 (by intro x h1 h2; have h3 : _ = _ := h2; exfalso; omega)
        refine WL.qf hq.rsl Tryz.underlying117 Tryz.sizeOf116 rfl rfl ⟨hi0, rfl⟩ rfl (WL.q)
       apply DQ.step [(66, _)] rfl ⟨rfl, trivial⟩ rfl (fun _ _ => WL.fieldAddr (fld_116_1) rfl rfl  WL.q)
       apply DQ.step [(67, _)] rfl ⟨rfl, trivial⟩ rfl
       ·intro wq_26 kq_26
        have zs_kq_26 := kq_26.size
        replace hq := hq.chg kq_26 (by intro b h1 h2 h3; have h4 : _ = _ := h3; (try dsimp only at h2); exfalso; omega)
        replace q4 := q4.chg kq_26 (by intro b h1 h2 h3; have h4 : _ = _ := h3; (try dsimp only at h2); exfalso; omega)
        replace kk := kk.chg kq_26 (by intro x h1 h2; have h3 : _ = _ := h2; exfalso; omega)
        refine WL.load Tryz.isAgg3 rfl ((hq.rsl.cellsAt hi0) _ _ rfl) rfl (WL.q)
       apply DQ.step [(68, _)] rfl ⟨rfl, trivial⟩ rfl
       ·intro wq_27 kq_27
        refine WL.eqlT rfl rfl rfl (h69) (WL.q)
       apply DQ.step [(69, _)] rfl ⟨rfl, trivial⟩ rfl (fun _ _ => WL.move rfl rfl  WL.q)
       apply DQ.step [(4, _), (70, _)] rfl ⟨rfl, rfl, trivial⟩ rfl (fun _ _ => WL.qa rfl rfl rfl (WL.move rfl rfl  WL.q))
       apply DQ.step [(71, _), (70, _)] rfl ⟨rfl, rfl, trivial⟩ rfl
       ·intro wq_30 kq_30
        have zs_kq_30 := kq_30.size
        replace hq := hq.chg kq_30 (by intro b h1 h2 h3; have h4 : _ = _ := h3; (try dsimp only at h2); exfalso; omega)
        replace q4 := q4.chg kq_30 (by intro b h1 h2 h3; have h4 : _ = _ := h3; (try dsimp only at h2); exfalso; omega)
        replace kk := kk.chg kq_30 (by intro x h1 h2; have h3 : _ = _ := h2; exfalso; omega)
        refine WL.qa rfl rfl rfl (WL.qf hq.rsl Tryz.underlying117 Tryz.sizeOf116 rfl rfl ⟨hi3, rfl⟩ rfl ?_)
        exact WL.q
       apply DQ.step [(72, _), (70, _)] rfl ⟨rfl, rfl, trivial⟩ rfl (fun _ _ => WL.qa rfl rfl rfl (WL.fieldAddr (fld_116_1) rfl rfl  WL.q))
       apply DQ.step [(73, _), (70, _)] rfl ⟨rfl, rfl, trivial⟩ rfl
       ·intro wq_32 kq_32
        have zs_kq_32 := kq_32.size
        replace hq := hq.chg kq_32 (by intro b h1 h2 h3; have h4 : _ = _ := h3; (try dsimp only at h2); exfalso; omega)
        replace q4 := q4.chg kq_32 (by intro b h1 h2 h3; have h4 : _ = _ := h3; (try dsimp only at h2); exfalso; omega)
        replace kk := kk.chg kq_32 (by intro x h1 h2; have h3 : _ = _ := h2; exfalso; omega)
        refine WL.qa rfl rfl rfl (WL.load Tryz.isAgg3 rfl ((hq.rsl.cellsAt hi3) _ _ rfl) rfl (WL.q))
       apply DQ.step [(74, _), (70, _)] rfl ⟨rfl, rfl, trivial⟩ rfl
       ·intro wq_33 kq_33
        refine WL.qa rfl rfl rfl (WL.num rfl rfl (n_andnot1 _ _ _ hr3) rfl ?_)
        exact WL.q
       apply DQ.step [(75, _), (70, _)] rfl ⟨rfl, rfl, trivial⟩ rfl
       ·intro wq_34 kq_34
        refine WL.qa rfl rfl rfl (WL.eql rfl rfl rfl ?_)
        exact WL.q
       apply DQ.step [(70, _), (76, _)] rfl ⟨rfl, rfl, trivial⟩ rfl (fun _ _ => WL.qd rfl rfl rfl  WL.q)
       apply DQ.step [(77, _)] rfl ⟨rfl, trivial⟩ rfl (fun _ _ => WL.assign rfl rfl  WL.q)
       refine DQ.done (fun hd_5 => ?_)
       refine DL.step [(2, _), (64, _)] rfl ⟨rfl, rfl, trivial⟩ rfl (fun wq_37 kq_37 => ?_)
       have zs_kq_37 := kq_37.size
       replace hb_1 := hb_1.pure kq_37
       replace hq := hq.pure kq_37
       replace q4 := q4.pure kq_37
       replace kk := kk.pure kq_37
       replace hd_5 := hd_5.pure kq_37
       refine WL.ql Tryz.sizeOf127 hb_1 rfl rfl (by simp; done) (by simp [Value.oneCell']; done) (by exact Nat.le_of_ble_eq_true rfl) rfl ?_
       intro w_38 hs_38 hn_38 k_38
       have zs_k_38 := k_38.size
       replace hq := hq.chg k_38 (by intro b h1 h2 h3; have h4 : _ = _ := h3; (try dsimp only at h2); exfalso; omega)
       replace q4 := q4.chg k_38 (by intro b h1 h2 h3; have h4 : _ = _ := h3; (try dsimp only at h2); exfalso; omega)
       replace kk := kk.chg k_38 (by intro x h1 h2; have h3 : _ = _ := h2; exfalso; omega)
       replace hd_5 := hd_5.chg k_38 (by intro x h1 h2; exact h2)
       replace hb_1 := hn_38
       refine WL.nil (WX.qk (v := undef) ⟨hd_5, ?_⟩)
       refine DL.done (fun we_39 ke_39 => ?_)
       have zs_ke_39 := ke_39.size
       replace hb_1 := hb_1.pure ke_39
       replace hq := hq.pure ke_39
       replace q4 := q4.pure ke_39
       replace kk := kk.pure ke_39
       replace hd_5 := hd_5.pure ke_39
       refine WX.qa (WC.ret (WX.ret2c (.inl rfl) Tryz.results91 Tryz.isAgg127 Tryz.sizeOf127 hb_1 rfl (by rfl) rfl ?_))
       have hd := pcD_five (b := b) h14 (eL ▸ hL)
       have h9 : i0.n = 55 := h69
       by_cases hc : kinds5 i0 i1 i2 i3 i4
       ·rw [if_pos hc] at hd
        refine ⟨_, rfl, ⟨⟨i1.n, i2.n, i3.n, i4.s⟩, ?_, fun q hq9 => ?_⟩, kk⟩
        ·rw [hd]
         have h8 : decide (i3.n - i3.n % 2 = 0) = true := decide_eq_true (by have := hc.2.2; omega)
         rw [h8]
         rfl
        ·rw [hd] at hq9
         injection hq9
       ·rw [if_neg hc] at hd
        refine ⟨_, rfl, ⟨⟨i1.n, i2.n, i3.n, i4.s⟩, ?_, fun q hq9 => ?_⟩, kk⟩
        ·rw [hd]
         have h8 : decide (i3.n - i3.n % 2 = 0) = false := decide_eq_false (fun h => hc ⟨⟨k0, k1, k2, k3, by omega, by omega⟩, h9, by omega⟩)
         rw [h8]
         rfl
        ·rw [hd] at hq9
         cases hq9
      ·refine WC.qc ((fun x => x = g_1)) [0, 1, 2, 3, 4, 5, 6, 7, 8, 9, 10, 11, 12, 13, 14, 15, 16, 17, 18, 19, 20, 21, 22, 23, 24, 25, 26, 27, 28, 29, 31] [30] mixed rfl rfl (fun wd_4 kd_4 zd_4 => ?_)
       have zs_kd_4 := kd_4.size
       replace hb_1 := hb_1.pure kd_4
       replace hq := hq.pure kd_4
       replace q4 := q4.pure kd_4
       replace kk := kk.pure kd_4
       apply DQ.step [(4, _)] rfl ⟨rfl, trivial⟩ rfl (fun _ _ => WL.move rfl rfl  WL.q)
       apply DQ.step [(48, _)] rfl ⟨rfl, trivial⟩ rfl
       ·intro wq_7 kq_7
        have zs_kq_7 := kq_7.size
        replace hq := hq.chg kq_7 (by intro b h1 h2 h3; have h4 : _ = _ := h3; (try dsimp only at h2); exfalso; omega)
        replace q4 := q4.chg kq_7 (by intro b h1 h2 h3; have h4 : _ = _ := h3; (try dsimp only at h2); exfalso; omega)
        replace kk := kk.chg kq_7 (by intro x h1 h2; have h3 : _ = _ := h2; exfalso; omega)
        refine WL.qf hq.rsl Tryz.underlying117 Tryz.sizeOf116 rfl rfl ⟨hi1, rfl⟩ rfl (WL.q)
       apply DQ.step [(49, _)] rfl ⟨rfl, trivial⟩ rfl (fun _ _ => WL.fieldAddr (fld_116_1) rfl rfl  WL.q)
       apply DQ.step [(50, _)] rfl ⟨rfl, trivial⟩ rfl
       ·intro wq_9 kq_9
        have zs_kq_9 := kq_9.size
        replace hq := hq.chg kq_9 (by intro b h1 h2 h3; have h4 : _ = _ := h3; (try dsimp only at h2); exfalso; omega)
        replace q4 := q4.chg kq_9 (by intro b h1 h2 h3; have h4 : _ = _ := h3; (try dsimp only at h2); exfalso; omega)
        replace kk := kk.chg kq_9 (by intro x h1 h2; have h3 : _ = _ := h2; exfalso; omega)
        refine WL.load Tryz.isAgg3 rfl ((hq.rsl.cellsAt hi1) _ _ rfl) rfl (WL.q)
       apply DQ.step [(4, _)] rfl ⟨rfl, trivial⟩ rfl (fun _ _ => WL.move rfl rfl  WL.q)
       apply DQ.step [(52, _)] rfl ⟨rfl, trivial⟩ rfl
       ·intro wq_11 kq_11
        have zs_kq_11 := kq_11.size
        replace hq := hq.chg kq_11 (by intro b h1 h2 h3; have h4 : _ = _ := h3; (try dsimp only at h2); exfalso; omega)
        replace q4 := q4.chg kq_11 (by intro b h1 h2 h3; have h4 : _ = _ := h3; (try dsimp only at h2); exfalso; omega)
        replace kk := kk.chg kq_11 (by intro x h1 h2; have h3 : _ = _ := h2; exfalso; omega)
        refine WL.qf hq.rsl Tryz.underlying117 Tryz.sizeOf116 rfl rfl ⟨hi2, rfl⟩ rfl (WL.q)
       apply DQ.step [(53, _)] rfl ⟨rfl, trivial⟩ rfl (fun _ _ => WL.fieldAddr (fld_116_1) rfl rfl  WL.q)
       apply DQ.step [(54, _)] rfl ⟨rfl, trivial⟩ rfl
       ·intro wq_13 kq_13
        have zs_kq_13 := kq_13.size
        replace hq := hq.chg kq_13 (by intro b h1 h2 h3; have h4 : _ = _ := h3; (try dsimp only at h2); exfalso; omega)
        replace q4 := q4.chg kq_13 (by intro b h1 h2 h3; have h4 : _ = _ := h3; (try dsimp only at h2); exfalso; omega)
        replace kk := kk.chg kq_13 (by intro x h1 h2; have h3 : _ = _ := h2; exfalso; omega)
        refine WL.load Tryz.isAgg3 rfl ((hq.rsl.cellsAt hi2) _ _ rfl) rfl (WL.q)
       apply DQ.step [(4, _)] rfl ⟨rfl, trivial⟩ rfl (fun _ _ => WL.move rfl rfl  WL.q)
       apply DQ.step [(56, _)] rfl ⟨rfl, trivial⟩ rfl
       ·intro wq_15 kq_15
        have zs_kq_15 := kq_15.size
        replace hq := hq.chg kq_15 (by intro b h1 h2 h3; have h4 : _ = _ := h3; (try dsimp only at h2); exfalso; omega)
        replace q4 := q4.chg kq_15 (by intro b h1 h2 h3; have h4 : _ = _ := h3; (try dsimp only at h2); exfalso; omega)
        replace kk := kk.chg kq_15 (by intro x h1 h2; have h3 : _ = _ := h2; exfalso; omega)
        refine WL.qf hq.rsl Tryz.underlying117 Tryz.sizeOf116 rfl rfl ⟨hi3, rfl⟩ rfl (WL.q)
       apply DQ.step [(57, _)] rfl ⟨rfl, trivial⟩ rfl (fun _ _ => WL.fieldAddr (fld_116_1) rfl rfl  WL.q)
       apply DQ.step [(58, _)] rfl ⟨rfl, trivial⟩ rfl
       ·intro wq_17 kq_17
        have zs_kq_17 := kq_17.size
        replace hq := hq.chg kq_17 (by intro b h1 h2 h3; have h4 : _ = _ := h3; (try dsimp only at h2); exfalso; omega)
        replace q4 := q4.chg kq_17 (by intro b h1 h2 h3; have h4 : _ = _ := h3; (try dsimp only at h2); exfalso; omega)
        replace kk := kk.chg kq_17 (by intro x h1 h2; have h3 : _ = _ := h2; exfalso; omega)
        refine WL.load Tryz.isAgg3 rfl ((hq.rsl.cellsAt hi3) _ _ rfl) rfl (WL.q)
       apply DQ.step [(4, _)] rfl ⟨rfl, trivial⟩ rfl (fun _ _ => WL.move rfl rfl  WL.q)
       apply DQ.step [(60, _)] rfl ⟨rfl, trivial⟩ rfl
       ·intro wq_19 kq_19
        have zs_kq_19 := kq_19.size
        replace hq := hq.chg kq_19 (by intro b h1 h2 h3; have h4 : _ = _ := h3; (try dsimp only at h2); exfalso; omega)
        replace q4 := q4.chg kq_19 (by intro b h1 h2 h3; have h4 : _ = _ := h3; (try dsimp only at h2); exfalso; omega)
        replace kk := kk.chg kq_19 (by intro x h1 h2; have h3 : _ = _ := h2; exfalso; omega)
        refine WL.qf hq.rsl Tryz.underlying117 Tryz.sizeOf116 rfl rfl ⟨hi4, rfl⟩ rfl (WL.q)
       apply DQ.step [(61, _)] rfl ⟨rfl, trivial⟩ rfl (fun _ _ => WL.fieldAddr (fld_116_2) rfl rfl  WL.q)
       apply DQ.step [(62, _)] rfl ⟨rfl, trivial⟩ rfl
       ·intro wq_21 kq_21
        have zs_kq_21 := kq_21.size
        replace hq := hq.chg kq_21 (by intro b h1 h2 h3; have h4 : _ = _ := h3; (try dsimp only at h2); exfalso; omega)
        replace q4 := q4.chg kq_21 (by intro b h1 h2 h3; have h4 : _ = _ := h3; (try dsimp only at h2); exfalso; omega)
        replace kk := kk.chg kq_21 (by intro x h1 h2; have h3 : _ = _ := h2; exfalso; omega)
        refine WL.load Tryz.isAgg9 rfl ((hq.rsl.cellsAt hi4) _ _ rfl) rfl (WL.q)
       apply DQ.step [(51, _), (55, _), (59, _), (63, _)] rfl ⟨rfl, rfl, rfl, rfl, trivial⟩ rfl (fun _ _ => WL.bld rfl (bld_127_0_1_2_3 _ _ _ _) rfl  WL.q)
       apply DQ.step [(4, _)] rfl ⟨rfl, trivial⟩ rfl (fun _ _ => WL.move rfl rfl  WL.q)
       apply DQ.step [(65, _)] rfl ⟨rfl, trivial⟩ rfl
       ·intro wq_24 kq_24
        have zs_kq_24 := kq_24.size
        replace hq := hq.chg kq_24 (by intro b h1 h2 h3; have h4 : _ = _ := h3; (try dsimp only at h2); exfalso; omega)
        replace q4 := q4.chg kq_24 (by intro b h1 h2 h3; have h4 : _ = _ := h3; (try dsimp only at h2); exfalso; omega)
        replace kk := kk.chg kq_24 (by intro x h1 h2; have h3 : _ = _ := h2; exfalso; omega)
        refine WL.qf hq.rsl Tryz.underlying117 Tryz.sizeOf116 rfl rfl ⟨hi0, rfl⟩ rfl (WL.q)
       apply DQ.step [(66, _)] rfl ⟨rfl, trivial⟩ rfl (fun _ _ => WL.fieldAddr (fld_116_1) rfl rfl  WL.q)
       apply DQ.step [(67, _)] rfl ⟨rfl, trivial⟩ rfl
       ·intro wq_26 kq_26
        have zs_kq_26 := kq_26.size
        replace hq := hq.chg kq_26 (by intro b h1 h2 h3; have h4 : _ = _ := h3; (try dsimp only at h2); exfalso; omega)
        replace q4 := q4.chg kq_26 (by intro b h1 h2 h3; have h4 : _ = _ := h3; (try dsimp only at h2); exfalso; omega)
        replace kk := kk.chg kq_26 (by intro x h1 h2; have h3 : _ = _ := h2; exfalso; omega)
        refine WL.load Tryz.isAgg3 rfl ((hq.rsl.cellsAt hi0) _ _ rfl) rfl (WL.q)
       apply DQ.step [(68, _)] rfl ⟨rfl, trivial⟩ rfl
       ·intro wq_27 kq_27
        refine WL.eqlF rfl rfl rfl (h69) (WL.q)
       apply DQ.step [(69, _)] rfl ⟨rfl, trivial⟩ rfl (fun _ _ => WL.move rfl rfl  WL.q)
       apply DQ.step [(4, _), (70, _)] rfl ⟨rfl, rfl, trivial⟩ rfl
       ·intro wq_29 kq_29
        refine WL.pass rfl rfl rfl rfl (WL.nil (WX.one ⟨rfl, by exact Chg.refl _ _⟩))
       apply DQ.step [(71, _), (70, _)] rfl ⟨rfl, rfl, trivial⟩ rfl
       ·intro wq_30 kq_30
        have zs_kq_30 := kq_30.size
        replace hq := hq.chg kq_30 (by intro b h1 h2 h3; have h4 : _ = _ := h3; (try dsimp only at h2); exfalso; omega)
        replace q4 := q4.chg kq_30 (by intro b h1 h2 h3; have h4 : _ = _ := h3; (try dsimp only at h2); exfalso; omega)
        replace kk := kk.chg kq_30 (by intro x h1 h2; have h3 : _ = _ := h2; exfalso; omega)
        refine WL.pass rfl rfl rfl rfl (WL.nil (WX.one ⟨rfl, by exact Chg.refl _ _⟩))
       apply DQ.step [(72, _), (70, _)] rfl ⟨rfl, rfl, trivial⟩ rfl
       ·intro wq_31 kq_31
        refine WL.pass rfl rfl rfl rfl (WL.nil (WX.one ⟨rfl, by exact Chg.refl _ _⟩))
       apply DQ.step [(73, _), (70, _)] rfl ⟨rfl, rfl, trivial⟩ rfl
       ·intro wq_32 kq_32
        have zs_kq_32 := kq_32.size
        replace hq := hq.chg kq_32 (by intro b h1 h2 h3; have h4 : _ = _ := h3; (try dsimp only at h2); exfalso; omega)
        replace q4 := q4.chg kq_32 (by intro b h1 h2 h3; have h4 : _ = _ := h3; (try dsimp only at h2); exfalso; omega)
        replace kk := kk.chg kq_32 (by intro x h1 h2; have h3 : _ = _ := h2; exfalso; omega)
        refine WL.pass rfl rfl rfl rfl (WL.nil (WX.one ⟨rfl, by exact Chg.refl _ _⟩))
       apply DQ.step [(74, _), (70, _)] rfl ⟨rfl, rfl, trivial⟩ rfl
       ·intro wq_33 kq_33
        refine WL.pass rfl rfl rfl rfl (WL.nil (WX.one ⟨rfl, by exact Chg.refl _ _⟩))
       apply DQ.step [(75, _), (70, _)] rfl ⟨rfl, rfl, trivial⟩ rfl
       ·intro wq_34 kq_34
        refine WL.pass rfl rfl rfl rfl (WL.nil (WX.one ⟨rfl, by exact Chg.refl _ _⟩))
       apply DQ.step [(70, _), (76, _)] rfl ⟨rfl, rfl, trivial⟩ rfl (fun _ _ => WL.qc rfl rfl rfl  WL.q)
       apply DQ.step [(77, _)] rfl ⟨rfl, trivial⟩ rfl (fun _ _ => WL.assign rfl rfl  WL.q)
       refine DQ.done (fun hd_5 => ?_)
       refine DL.step [(2, _), (64, _)] rfl ⟨rfl, rfl, trivial⟩ rfl (fun wq_37 kq_37 => ?_)
       have zs_kq_37 := kq_37.size
       replace hb_1 := hb_1.pure kq_37
       replace hq := hq.pure kq_37
       replace q4 := q4.pure kq_37
       replace kk := kk.pure kq_37
       replace hd_5 := hd_5.pure kq_37
       refine WL.ql Tryz.sizeOf127 hb_1 rfl rfl (by simp; done) (by simp [Value.oneCell']; done) (by exact Nat.le_of_ble_eq_true rfl) rfl ?_
       intro w_38 hs_38 hn_38 k_38
       have zs_k_38 := k_38.size
       replace hq := hq.chg k_38 (by intro b h1 h2 h3; have h4 : _ = _ := h3; (try dsimp only at h2); exfalso; omega)
       replace q4 := q4.chg k_38 (by intro b h1 h2 h3; have h4 : _ = _ := h3; (try dsimp only at h2); exfalso; omega)
       replace kk := kk.chg k_38 (by intro x h1 h2; have h3 : _ = _ := h2; exfalso; omega)
       replace hd_5 := hd_5.chg k_38 (by intro x h1 h2; exact h2)
       replace hb_1 := hn_38
       refine WL.nil (WX.qk (v := undef) ⟨hd_5, ?_⟩)
       refine DL.done (fun we_39 ke_39 => ?_)
       have zs_ke_39 := ke_39.size
       replace hb_1 := hb_1.pure ke_39
       replace hq := hq.pure ke_39
       replace q4 := q4.pure ke_39
       replace kk := kk.pure ke_39
       replace hd_5 := hd_5.pure ke_39
       refine WX.qa (WC.ret (WX.ret2c (.inl rfl) Tryz.results91 Tryz.isAgg127 Tryz.sizeOf127 hb_1 rfl (by rfl) rfl ?_))
       have hd := pcD_five (b := b) h14 (eL ▸ hL)
       have h9 : ¬ i0.n = 55 := h69
       rw [if_neg (fun hc => h9 hc.2.1)] at hd
       refine ⟨_, rfl, ⟨⟨i1.n, i2.n, i3.n, i4.s⟩, by rw [hd]; rfl, fun q hq9 => by rw [hd] at hq9; cases hq9⟩, kk⟩
end Go.Proofs.YtjeldcjchipdgaaGreatDoor
namespace Go.Proofs.YtjeldcjchipdgaaGreatDoor
open Go.RowKit Go.HL
set_option maxRecDepth 100000
abbrev lgC (R : Nat) (l : LgV) : List Value := [ptr R, vi l.f, vi l.c, vi l.b, vi l.nx]
theorem stF_read {s : RA} {f b n d : Int} {r : Rw} {e : Int} (he : e = errS s d (f + n)) (hx : e = 0 → r.xs = heldS s (d, f + n)) :
 (e = 16 → stF s f b n d = (16, none)) ∧ (e ≠ 16 → e ≠ 0 → stF s f b n d = (0, none)) ∧ (e = 0 → pcD r.xs = none → stF s f b n d = (0, none)) ∧
 (∀ p, e = 0 → pcD r.xs = some p → ¬ (p.base = b ∧ p.num = n) → stF s f b n d = (0, none)) ∧ (∀ p, e = 0 → pcD r.xs = some p → p.base = b → p.num = n → stF s f b n d = (0, some p)) := by
 subst he
 refine ⟨fun h => ?_, fun h1 h2 => ?_, fun h1 h2 => ?_, fun p h1 h2 h3 => ?_, fun p h1 h2 h3 h4 => ?_⟩
 ·rw [stF, if_pos h]
 ·rw [stF, if_neg h1, if_pos h2]
 ·rw [hx h1] at h2
  rw [stF, if_neg (by omega), if_neg (fun x => x h1), h2]
 ·rw [hx h1] at h2
  rw [stF, if_neg (by omega), if_neg (fun x => x h1), h2]
  exact if_neg h3
 ·rw [hx h1] at h2
  rw [stF, if_neg (by omega), if_neg (fun x => x h1), h2]
  exact if_pos ⟨h3, h4⟩
set_option maxHeartbeats 2000000 in
theorem find_calls {A : Nat → Prop} {w : World} {R L : Nat} {s : RA} {l : LgV} (h : RK A w R s) (hL : Blk w L 125 (lgC R l)) (hl : l.ok s.sn) (n : Nat) (hn : (n : Int) < l.c) :
 Calls Tryz.prog 71 [ptr L, vi n].toArray w (Ret fun v w' => (∃ p : PcV, v = .tuple #[.agg (epc.f p).toArray, .bool (findP s l.f l.b n).isSome, vi (findE s l.f l.b n)] ∧ (∀ q, findP s l.f l.b n = some q → p = q)) ∧ Chg Nob w w') := by
 have hw := Chg.refl Nob w
 have hdn := h.ok.dn
 have lf := hl.f
 have lin := hl.in_
 have hsn := h.ok.sn
 have hLl := hL.lt
 replace h : RK (fun x => x < w.heap.size) w R s := h.old.mono (fun x hx => hx.2)
 refine Calls.of_WC Tryz.func71 rfl Tryz.ntmps71 (by simp) ?_
 refine WC.sr (WL.alloc Tryz.zeroValue127 rfl ?_)
 intro g_1 w_1 hge_1 hlt_1 hb_1 k_1
 have zs_k_1 := k_1.size
 replace h := h.pure k_1
 replace hL := hL.pure k_1
 replace hw := hw.pure k_1
 refine WL.assign rfl rfl (WL.assign rfl rfl (WL.t (WC.seq (WC.sr (WL.move rfl rfl (WL.nilCheck rfl rfl (WL.fieldAddr (fld_125_0) rfl rfl (WL.qb Tryz.isAgg25 hL rfl rfl rfl (WL.call eg_49 rfl rfl (Drives_calls h) ?_)))))))))
 rintro v w4 ⟨rfl, k4⟩
 have zs_k4 := k4.size
 replace h := h.pure k4
 replace hL := hL.pure k4
 replace hw := hw.pure k4
 replace hb_1 := hb_1.pure k4
 refine WL.move rfl rfl (WL.t (WC.block (?_)))
 have hg1 : w.heap.size ≤ g_1 := hge_1
 refine WC.loop (σ := Nat) (fun k => [(0, ptr L), (1, vi n), (4, ptr g_1), (16, vi (s.dn : Int)), (17, vi (k : Int))])
  (fun k w' => k ≤ s.dn ∧ fdR s l.f l.b n k = (0, none) ∧ Blk w' g_1 127 (epc.f zeroC) ∧ RK (fun x => x < w.heap.size) w' R s ∧ Blk w' L 125 (lgC R l) ∧ Chg Nob w w') (fun k => s.dn - k) 0 ⟨rfl, rfl, rfl, rfl, rfl, trivial⟩
  ⟨Nat.zero_le _, rfl, Blk.eqc hb_1 rfl, h, hL, hw⟩ ?_
 clear hb_1 h hL hw
 rintro k w3 ⟨hk, hF, hb_1, h, hL, hw⟩
 have lg1 := hb_1.lt
 refine WC.sr (WL.qh rfl rfl rfl (fun h18 => ?_) (fun h18 => ?_))
 ·refine WL.t (WC.seq (WC.qb rfl (WC.skip (WX.qa (WC.seq (WC.block (WC.sr (WL.move rfl rfl (WL.assign rfl rfl (WL.t (WC.seq (WC.drawP (Nob) [0, 1, 2, 3, 4, 5, 6, 7, 8, 9, 10] [(11, [12, 13, 14, 15, 16])] mixed rfl rfl (fun wd_2 kd_2 zd_2 => ?_)))))))))))))
  have zs_kd_2 := kd_2.size
  replace hb_1 := hb_1.pure kd_2
  replace h := h.pure kd_2
  replace hL := hL.pure kd_2
  replace hw := hw.pure kd_2
  apply DPQ.step (E' := [(0, _)])
  case ho => rfl
  case hs => exact ⟨rfl, trivial⟩
  case hk => rfl
  case h1 =>
   intro wq_3 kq_3
   refine WL.move rfl rfl (WL.q)
  apply DPQ.step (E' := [(21, _)])
  case ho => rfl
  case hs => exact ⟨rfl, trivial⟩
  case hk => rfl
  case h1 =>
   intro wq_4 kq_4
   refine WL.nilCheck rfl rfl (WL.q)
  apply DPQ.step (E' := [(22, _)])
  case ho => rfl
  case hs => exact ⟨rfl, trivial⟩
  case hk => rfl
  case h1 =>
   intro wq_5 kq_5
   refine WL.fieldAddr (fld_125_0) rfl rfl (WL.q)
  apply DPQ.step (E' := [(23, _)])
  case ho => rfl
  case hs => exact ⟨rfl, trivial⟩
  case hk => rfl
  case h1 =>
   intro wq_6 kq_6
   have zs_kq_6 := kq_6.size
   replace hb_1 := hb_1.pure kq_6
   replace h := h.pure kq_6
   replace hL := hL.pure kq_6
   replace hw := hw.pure kq_6
   refine WL.qb Tryz.isAgg25 hL rfl rfl rfl (WL.q)
  apply DPQ.step (E' := [(7, _)])
  case ho => rfl
  case hs => exact ⟨rfl, trivial⟩
  case hk => rfl
  case h1 =>
   intro wq_7 kq_7
   refine WL.move rfl rfl (WL.q)
  apply DPQ.step (E' := [(0, _)])
  case ho => rfl
  case hs => exact ⟨rfl, trivial⟩
  case hk => rfl
  case h1 =>
   intro wq_8 kq_8
   refine WL.move rfl rfl (WL.q)
  apply DPQ.step (E' := [(26, _)])
  case ho => rfl
  case hs => exact ⟨rfl, trivial⟩
  case hk => rfl
  case h1 =>
   intro wq_9 kq_9
   refine WL.nilCheck rfl rfl (WL.q)
  apply DPQ.step (E' := [(27, _)])
  case ho => rfl
  case hs => exact ⟨rfl, trivial⟩
  case hk => rfl
  case h1 =>
   intro wq_10 kq_10
   refine WL.fieldAddr (fld_125_1) rfl rfl (WL.q)
  apply DPQ.step (E' := [(28, _)])
  case ho => rfl
  case hs => exact ⟨rfl, trivial⟩
  case hk => rfl
  case h1 =>
   intro wq_11 kq_11
   have zs_kq_11 := kq_11.size
   replace hb_1 := hb_1.pure kq_11
   replace h := h.pure kq_11
   replace hL := hL.pure kq_11
   replace hw := hw.pure kq_11
   refine WL.qb Tryz.isAgg3 hL rfl rfl rfl (WL.q)
  apply DPQ.step (E' := [(1, _)])
  case ho => rfl
  case hs => exact ⟨rfl, trivial⟩
  case hk => rfl
  case h1 =>
   intro wq_12 kq_12
   refine WL.move rfl rfl (WL.q)
  apply DPQ.step (E' := [(29, _), (30, _)])
  case ho => rfl
  case hs => exact ⟨rfl, rfl, trivial⟩
  case hk => rfl
  case h1 =>
   intro wq_13 kq_13
   refine WL.qe rfl rfl (by omega) rfl (?_)
   exact WL.q
  refine DPQ.done (DPR.step [(24, _), (25, _), (31, _)] rfl ⟨rfl, rfl, rfl, trivial⟩ rfl (fun wq_14 kq_14 => ?_))
  have zs_kq_14 := kq_14.size
  replace hb_1 := hb_1.pure kq_14
  replace h := h.pure kq_14
  replace hL := hL.pure kq_14
  replace hw := hw.pure kq_14
  have hd_14 := Chg.refl (Nob) wq_14
  refine WL.call eg_86 rfl rfl (Read_calls h k (l.f + n)) ?_
  rintro v w5 ⟨⟨r, e, rfl, he, hx, -, hq⟩, k5⟩
  obtain ⟨f1, f2, f3, f4, f5⟩ := stF_read (b := l.b) he hx
  have zs_k5 := k5.size
  replace hb_1 := hb_1.pure k5
  replace h := h.pure k5
  replace hL := hL.pure k5
  replace hw := hw.pure k5
  replace hd_14 := hd_14.pure k5
  replace hq := hq.lt
  refine WL.nil (WX.one ⟨hd_14, ?_⟩)
  apply DPQ.step (E' := [(32, _)])
  case ho => rfl
  case hs => exact ⟨rfl, trivial⟩
  case hk => rfl
  case h1 =>
   intro wq_15 kq_15
   refine WL.move rfl rfl (WL.q)
  apply DPQ.step (E' := [(20, _)])
  case ho => rfl
  case hs => exact ⟨rfl, trivial⟩
  case hk => rfl
  case h1 =>
   intro wq_16 kq_16
   refine WL.extract rfl rfl rfl (WL.q)
  apply DPQ.step (E' := [(20, _)])
  case ho => rfl
  case hs => exact ⟨rfl, trivial⟩
  case hk => rfl
  case h1 =>
   intro wq_17 kq_17
   refine WL.extract rfl rfl rfl (WL.q)
  apply DPQ.step (E' := [(33, _)])
  case ho => rfl
  case hs => exact ⟨rfl, trivial⟩
  case hk => rfl
  case h1 =>
   intro wq_18 kq_18
   refine WL.assign rfl rfl (WL.q)
  apply DPQ.step (E' := [(34, _)])
  case ho => rfl
  case hs => exact ⟨rfl, trivial⟩
  case hk => rfl
  case h1 =>
   intro wq_19 kq_19
   refine WL.assign rfl rfl (WL.q)
  refine DPQ.done (DPR.done (fun we_20 ke_20 => ?_))
  have zs_ke_20 := ke_20.size
  replace hb_1 := hb_1.pure ke_20
  replace h := h.pure ke_20
  replace hL := hL.pure ke_20
  replace hw := hw.pure ke_20
  replace hq := hq.pure ke_20
  refine WX.qa (WC.seq (WC.sr (WL.move rfl rfl (WL.qi rfl rfl rfl (fun h36 => ?_) (fun h36 => ?_)))))
  ·refine WL.t (WC.qb rfl (WC.sr (WL.bld rfl (bld_127_z) rfl (WL.move rfl rfl (?_)))))
   refine WL.ql Tryz.sizeOf127 hb_1 rfl rfl (by simp; done) (by simp [Value.oneCell']; done) (by exact Nat.le_of_ble_eq_true rfl) rfl ?_
   intro w_21 hs_21 hn_21 k_21
   have zs_k_21 := k_21.size
   replace h := h.chg k_21 (by intro b h1 h2 h3; have h4 : _ = _ := h3; (try dsimp only at h2); exfalso; omega)
   replace hL := hL.chg k_21 (by intro h1; have h2 : _ = _ := h1; exfalso; omega)
   replace hw := hw.chg k_21 (by intro x h1 h2; have h3 : _ = _ := h2; exfalso; omega)
   replace hq := hq.chg k_21 (by intro b h1 h2 h3; have h4 : _ = _ := h3; (try dsimp only at h2); exfalso; omega)
   replace hb_1 := hn_21
   refine WL.assign rfl rfl (WL.assign rfl rfl (WL.t (WC.ret (WX.qb (WX.qe (WX.qb (WX.qb (WX.qe (WX.qb (WX.ret3c (.inl rfl) Tryz.results71 Tryz.isAgg127 Tryz.sizeOf127 hb_1 rfl (by rfl) rfl rfl ?_))))))))))
   have hE : ∀ e' p', fdR s l.f l.b n s.dn = (e', p') → findE s l.f l.b n = e' ∧ findP s l.f l.b n = p' := fun e' p' h9 => by rw [findE, findP, h9]; exact ⟨rfl, rfl⟩
   have hz : e = 16 := h36
   obtain ⟨e1, e2⟩ := hE _ _ (fdR_hit hF (f1 hz) (by decide) (by omega))
   rw [e1, e2]
   refine ⟨_, rfl, ⟨zeroC, ?_, fun q hq9 => by cases hq9⟩, hw⟩
   rw [hz]
   rfl
  ·refine WL.t (WC.qa rfl (WC.skip (WX.qa (WC.seq (WC.sr (WL.move rfl rfl (WL.qo rfl rfl rfl (fun h40 => ?_) (fun h40 => ?_))))))))
   ·refine WL.t (WC.qb rfl (WC.exit (WX.qd (WX.qh (WX.qa (WC.region (WL.qe rfl rfl (by omega) rfl (WL.move rfl rfl (WL.nil (?_))))))))))
    have hs : stF s l.f l.b n (k : Nat) = (0, none) := by
     have he0 : e ≠ 0 := h40
     exact f2 h36 he0
    exact WX.qf (k + 1) ⟨rfl, rfl, rfl, rfl, rfl, trivial⟩ ⟨by omega, (fdR_go hF).trans hs, hb_1, h, hL, hw⟩ (by show _ - _ < _ - _; omega)
   ·refine WL.t (WC.qa rfl (WC.skip (WX.qa (WC.sr (WL.move rfl rfl (?_))))))
    have he0 : e = 0 := h40
    have hxl : r.xs.length = 128 := by rw [hx he0]; exact heldS_len h.ok _
    have hq2 := hq.rsl.old
    refine WL.call eg_91 rfl rfl (parse_calls hq2 (by omega)) ?_
    rintro v w6 ⟨⟨p, rfl, hp⟩, k6⟩
    have zs_k6 := k6.size
    replace hb_1 := hb_1.pure k6
    replace h := h.pure k6
    replace hL := hL.pure k6
    replace hw := hw.pure k6
    replace hq := hq.pure k6
    cases hpc : pcD r.xs
    ·refine WL.move rfl rfl (WL.extract rfl rfl rfl (WL.extract rfl rfl rfl (WL.alloc Tryz.zeroValue127 rfl ?_)))
     intro g_21 w_21 hge_21 hlt_21 hb_21 k_21
     have zs_k_21 := k_21.size
     replace hb_1 := hb_1.pure k_21
     replace h := h.pure k_21
     replace hL := hL.pure k_21
     replace hw := hw.pure k_21
     replace hq := hq.pure k_21
     refine WL.ql Tryz.sizeOf127 hb_21 rfl rfl (by rfl) (by exact Enc.one _ _) (by exact Nat.le_of_ble_eq_true rfl) rfl ?_
     intro w_22 hs_22 hn_22 k_22
     have zs_k_22 := k_22.size
     replace hb_1 := hb_1.chg k_22 (by intro h1; have h2 : _ = _ := h1; exfalso; omega)
     replace h := h.chg k_22 (by intro b h1 h2 h3; have h4 : _ = _ := h3; (try dsimp only at h2); exfalso; omega)
     replace hL := hL.chg k_22 (by intro h1; have h2 : _ = _ := h1; exfalso; omega)
     replace hw := hw.chg k_22 (by intro x h1 h2; have h3 : _ = _ := h2; exfalso; omega)
     replace hq := hq.chg k_22 (by intro b h1 h2 h3; have h4 : _ = _ := h3; (try dsimp only at h2); exfalso; omega)
     replace hb_21 := hn_22
     refine WL.assign rfl rfl (WL.t (WC.seq (?_)))
     have hb10 := Blk.eqc (cs' := epc.f p) hb_21 rfl
     refine WC.qc (Nob) [0, 1, 2, 3, 4, 5, 6, 7, 8, 9, 10, 11, 12, 13, 14, 15] [] mixed rfl rfl (fun wd_23 kd_23 zd_23 => ?_)
     have zs_kd_23 := kd_23.size
     replace hb_1 := hb_1.pure kd_23
     replace h := h.pure kd_23
     replace hL := hL.pure kd_23
     replace hw := hw.pure kd_23
     replace hq := hq.pure kd_23
     replace hb10 := hb10.pure kd_23
     apply DQ.step [(11, _)] rfl ⟨rfl, trivial⟩ rfl (fun _ _ => WL.move rfl rfl  WL.q)
     apply DQ.step [(46, _)] rfl ⟨rfl, trivial⟩ rfl (fun _ _ => WL.move rfl rfl  WL.q)
     apply DQ.step [(10, _), (47, _)] rfl ⟨rfl, rfl, trivial⟩ rfl
     ·intro wq_26 kq_26
      refine WL.pass rfl rfl rfl rfl (WL.nil (WX.one ⟨rfl, by exact Chg.refl _ _⟩))
     apply DQ.step [(48, _), (47, _)] rfl ⟨rfl, rfl, trivial⟩ rfl
     ·intro wq_27 kq_27
      have zs_kq_27 := kq_27.size
      replace hb_1 := hb_1.pure kq_27
      replace h := h.pure kq_27
      replace hL := hL.pure kq_27
      replace hw := hw.pure kq_27
      replace hq := hq.pure kq_27
      replace hb10 := hb10.pure kq_27
      refine WL.pass rfl rfl rfl rfl (WL.nil (WX.one ⟨rfl, by exact Chg.refl _ _⟩))
     apply DQ.step [(0, _), (47, _)] rfl ⟨rfl, rfl, trivial⟩ rfl
     ·intro wq_28 kq_28
      refine WL.pass rfl rfl rfl rfl (WL.nil (WX.one ⟨rfl, by exact Chg.refl _ _⟩))
     apply DQ.step [(50, _), (47, _)] rfl ⟨rfl, rfl, trivial⟩ rfl
     ·intro wq_29 kq_29
      refine WL.pass rfl rfl rfl rfl (WL.nil (WX.one ⟨rfl, by exact Chg.refl _ _⟩))
     apply DQ.step [(51, _), (47, _)] rfl ⟨rfl, rfl, trivial⟩ rfl
     ·intro wq_30 kq_30
      refine WL.pass rfl rfl rfl rfl (WL.nil (WX.one ⟨rfl, by exact Chg.refl _ _⟩))
     apply DQ.step [(52, _), (47, _)] rfl ⟨rfl, rfl, trivial⟩ rfl
     ·intro wq_31 kq_31
      have zs_kq_31 := kq_31.size
      replace hb_1 := hb_1.pure kq_31
      replace h := h.pure kq_31
      replace hL := hL.pure kq_31
      replace hw := hw.pure kq_31
      replace hq := hq.pure kq_31
      replace hb10 := hb10.pure kq_31
      refine WL.pass rfl rfl rfl rfl (WL.nil (WX.one ⟨rfl, by exact Chg.refl _ _⟩))
     apply DQ.step [(49, _), (53, _), (47, _)] rfl ⟨rfl, rfl, rfl, trivial⟩ rfl
     ·intro wq_32 kq_32
      refine WL.pass rfl rfl rfl rfl (WL.nil (WX.one ⟨rfl, by exact Chg.refl _ _⟩))
     apply DQ.step [(47, _), (54, _)] rfl ⟨rfl, rfl, trivial⟩ rfl (fun _ _ => WL.qc rfl rfl rfl  WL.q)
     apply DQ.step [(55, _)] rfl ⟨rfl, trivial⟩ rfl (fun _ _ => WL.move rfl rfl  WL.q)
     apply DQ.step [(10, _), (56, _)] rfl ⟨rfl, rfl, trivial⟩ rfl
     ·intro wq_35 kq_35
      refine WL.pass rfl rfl rfl rfl (WL.nil (WX.one ⟨rfl, by exact Chg.refl _ _⟩))
     apply DQ.step [(57, _), (56, _)] rfl ⟨rfl, rfl, trivial⟩ rfl
     ·intro wq_36 kq_36
      have zs_kq_36 := kq_36.size
      replace hb_1 := hb_1.pure kq_36
      replace h := h.pure kq_36
      replace hL := hL.pure kq_36
      replace hw := hw.pure kq_36
      replace hq := hq.pure kq_36
      replace hb10 := hb10.pure kq_36
      refine WL.pass rfl rfl rfl rfl (WL.nil (WX.one ⟨rfl, by exact Chg.refl _ _⟩))
     apply DQ.step [(1, _), (56, _)] rfl ⟨rfl, rfl, trivial⟩ rfl
     ·intro wq_37 kq_37
      refine WL.pass rfl rfl rfl rfl (WL.nil (WX.one ⟨rfl, by exact Chg.refl _ _⟩))
     apply DQ.step [(58, _), (59, _), (56, _)] rfl ⟨rfl, rfl, rfl, trivial⟩ rfl
     ·intro wq_38 kq_38
      refine WL.pass rfl rfl rfl rfl (WL.nil (WX.one ⟨rfl, by exact Chg.refl _ _⟩))
     apply DQ.step [(56, _), (60, _)] rfl ⟨rfl, rfl, trivial⟩ rfl (fun _ _ => WL.qc rfl rfl rfl  WL.q)
     refine DQ.done (fun _ => ?_)
     refine DL.done (fun we_40 ke_40 => ?_)
     have zs_ke_40 := ke_40.size
     replace hb_1 := hb_1.pure ke_40
     replace h := h.pure ke_40
     replace hL := hL.pure ke_40
     replace hw := hw.pure ke_40
     replace hq := hq.pure ke_40
     replace hb10 := hb10.pure ke_40
     refine WX.qa (WC.qa rfl (WC.skip (WX.qc (WX.qa (WC.region (WL.qe rfl rfl (by omega) rfl (WL.move rfl rfl (?_))))))))
     refine WL.nil (?_)
     have hs : stF s l.f l.b n (k : Nat) = (0, none) := by
      have he0 : e = 0 := h40
      exact f3 he0 hpc
     exact WX.qf (k + 1) ⟨rfl, rfl, rfl, rfl, rfl, trivial⟩ ⟨by omega, (fdR_go hF).trans hs, hb_1, h, hL, hw⟩ (by show _ - _ < _ - _; omega)
    ·rename_i q
     obtain rfl := hp q hpc
     by_cases hb54 : p.base = l.b
     ·by_cases hb60 : p.num = n
      ·refine WL.move rfl rfl (WL.extract rfl rfl rfl (WL.extract rfl rfl rfl (WL.alloc Tryz.zeroValue127 rfl ?_)))
       intro g_21 w_21 hge_21 hlt_21 hb_21 k_21
       have zs_k_21 := k_21.size
       replace hb_1 := hb_1.pure k_21
       replace h := h.pure k_21
       replace hL := hL.pure k_21
       replace hw := hw.pure k_21
       replace hq := hq.pure k_21
       refine WL.ql Tryz.sizeOf127 hb_21 rfl rfl (by rfl) (by exact Enc.one _ _) (by exact Nat.le_of_ble_eq_true rfl) rfl ?_
       intro w_22 hs_22 hn_22 k_22
       have zs_k_22 := k_22.size
       replace hb_1 := hb_1.chg k_22 (by intro h1; have h2 : _ = _ := h1; exfalso; omega)
       replace h := h.chg k_22 (by intro b h1 h2 h3; have h4 : _ = _ := h3; (try dsimp only at h2); exfalso; omega)
       replace hL := hL.chg k_22 (by intro h1; have h2 : _ = _ := h1; exfalso; omega)
       replace hw := hw.chg k_22 (by intro x h1 h2; have h3 : _ = _ := h2; exfalso; omega)
       replace hq := hq.chg k_22 (by intro b h1 h2 h3; have h4 : _ = _ := h3; (try dsimp only at h2); exfalso; omega)
       replace hb_21 := hn_22
       refine WL.assign rfl rfl (WL.t (WC.seq (?_)))
       have hb10 := Blk.eqc (cs' := epc.f p) hb_21 rfl
       refine WC.qc (Nob) [0, 1, 2, 3, 4, 5, 6, 7, 8, 9, 10, 11, 12, 13, 14, 15] [] mixed rfl rfl (fun wd_23 kd_23 zd_23 => ?_)
       have zs_kd_23 := kd_23.size
       replace hb_1 := hb_1.pure kd_23
       replace h := h.pure kd_23
       replace hL := hL.pure kd_23
       replace hw := hw.pure kd_23
       replace hq := hq.pure kd_23
       replace hb10 := hb10.pure kd_23
       apply DQ.step [(11, _)] rfl ⟨rfl, trivial⟩ rfl (fun _ _ => WL.move rfl rfl  WL.q)
       apply DQ.step [(46, _)] rfl ⟨rfl, trivial⟩ rfl (fun _ _ => WL.move rfl rfl  WL.q)
       apply DQ.step [(10, _), (47, _)] rfl ⟨rfl, rfl, trivial⟩ rfl (fun _ _ => WL.qa rfl rfl rfl (WL.fieldAddr (fld_127_0) rfl rfl  WL.q))
       apply DQ.step [(48, _), (47, _)] rfl ⟨rfl, rfl, trivial⟩ rfl
       ·intro wq_27 kq_27
        have zs_kq_27 := kq_27.size
        replace hb_1 := hb_1.pure kq_27
        replace h := h.pure kq_27
        replace hL := hL.pure kq_27
        replace hw := hw.pure kq_27
        replace hq := hq.pure kq_27
        replace hb10 := hb10.pure kq_27
        refine WL.qa rfl rfl rfl (WL.qb Tryz.isAgg3 hb10 rfl rfl rfl (WL.q))
       apply DQ.step [(0, _), (47, _)] rfl ⟨rfl, rfl, trivial⟩ rfl (fun _ _ => WL.qa rfl rfl rfl (WL.move rfl rfl  WL.q))
       apply DQ.step [(50, _), (47, _)] rfl ⟨rfl, rfl, trivial⟩ rfl (fun _ _ => WL.qa rfl rfl rfl (WL.nilCheck rfl rfl  WL.q))
       apply DQ.step [(51, _), (47, _)] rfl ⟨rfl, rfl, trivial⟩ rfl (fun _ _ => WL.qa rfl rfl rfl (WL.fieldAddr (fld_125_3) rfl rfl  WL.q))
       apply DQ.step [(52, _), (47, _)] rfl ⟨rfl, rfl, trivial⟩ rfl
       ·intro wq_31 kq_31
        have zs_kq_31 := kq_31.size
        replace hb_1 := hb_1.pure kq_31
        replace h := h.pure kq_31
        replace hL := hL.pure kq_31
        replace hw := hw.pure kq_31
        replace hq := hq.pure kq_31
        replace hb10 := hb10.pure kq_31
        refine WL.qa rfl rfl rfl (WL.qb Tryz.isAgg3 hL rfl rfl rfl (WL.q))
       apply DQ.step [(49, _), (53, _), (47, _)] rfl ⟨rfl, rfl, rfl, trivial⟩ rfl
       ·intro wq_32 kq_32
        refine WL.qa rfl rfl rfl (WL.eqlT rfl rfl rfl (hb54) ?_)
        exact WL.q
       apply DQ.step [(47, _), (54, _)] rfl ⟨rfl, rfl, trivial⟩ rfl (fun _ _ => WL.qd rfl rfl rfl  WL.q)
       apply DQ.step [(55, _)] rfl ⟨rfl, trivial⟩ rfl (fun _ _ => WL.move rfl rfl  WL.q)
       apply DQ.step [(10, _), (56, _)] rfl ⟨rfl, rfl, trivial⟩ rfl (fun _ _ => WL.qa rfl rfl rfl (WL.fieldAddr (fld_127_1) rfl rfl  WL.q))
       apply DQ.step [(57, _), (56, _)] rfl ⟨rfl, rfl, trivial⟩ rfl
       ·intro wq_36 kq_36
        have zs_kq_36 := kq_36.size
        replace hb_1 := hb_1.pure kq_36
        replace h := h.pure kq_36
        replace hL := hL.pure kq_36
        replace hw := hw.pure kq_36
        replace hq := hq.pure kq_36
        replace hb10 := hb10.pure kq_36
        refine WL.qa rfl rfl rfl (WL.qb Tryz.isAgg3 hb10 rfl rfl rfl (WL.q))
       apply DQ.step [(1, _), (56, _)] rfl ⟨rfl, rfl, trivial⟩ rfl (fun _ _ => WL.qa rfl rfl rfl (WL.move rfl rfl  WL.q))
       apply DQ.step [(58, _), (59, _), (56, _)] rfl ⟨rfl, rfl, rfl, trivial⟩ rfl
       ·intro wq_38 kq_38
        refine WL.qa rfl rfl rfl (WL.eqlT rfl rfl rfl (hb60) ?_)
        exact WL.q
       apply DQ.step [(56, _), (60, _)] rfl ⟨rfl, rfl, trivial⟩ rfl (fun _ _ => WL.qd rfl rfl rfl  WL.q)
       refine DQ.done (fun _ => ?_)
       refine DL.done (fun we_40 ke_40 => ?_)
       have zs_ke_40 := ke_40.size
       replace hb_1 := hb_1.pure ke_40
       replace h := h.pure ke_40
       replace hL := hL.pure ke_40
       replace hw := hw.pure ke_40
       replace hq := hq.pure ke_40
       replace hb10 := hb10.pure ke_40
       refine WX.qa (WC.qb rfl (WC.sr (WL.qz Tryz.isAgg127 Tryz.sizeOf127 hb10 rfl (by rfl) rfl (?_))))
       refine WL.ql Tryz.sizeOf127 hb_1 rfl rfl (by rfl) (by exact Enc.one _ _) (by exact Nat.le_of_ble_eq_true rfl) rfl ?_
       intro w_41 hs_41 hn_41 k_41
       have zs_k_41 := k_41.size
       replace h := h.chg k_41 (by intro b h1 h2 h3; have h4 : _ = _ := h3; (try dsimp only at h2); exfalso; omega)
       replace hL := hL.chg k_41 (by intro h1; have h2 : _ = _ := h1; exfalso; omega)
       replace hw := hw.chg k_41 (by intro x h1 h2; have h3 : _ = _ := h2; exfalso; omega)
       replace hq := hq.chg k_41 (by intro b h1 h2 h3; have h4 : _ = _ := h3; (try dsimp only at h2); exfalso; omega)
       replace hb10 := hb10.chg k_41 (by intro h1; have h2 : _ = _ := h1; exfalso; omega)
       replace hb_1 := hn_41
       refine WL.assign rfl rfl (WL.assign rfl rfl (WL.t (WC.ret (WX.qe (WX.qb (WX.qb (WX.qe (WX.qb (WX.ret3c (.inl rfl) Tryz.results71 Tryz.isAgg127 Tryz.sizeOf127 hb_1 rfl (by rfl) rfl rfl ?_)))))))))
       have hE : ∀ e' p', fdR s l.f l.b n s.dn = (e', p') → findE s l.f l.b n = e' ∧ findP s l.f l.b n = p' := fun e' p' h9 => by rw [findE, findP, h9]; exact ⟨rfl, rfl⟩
       have he0 : e = 0 := h40
       obtain ⟨e1, e2⟩ := hE _ _ (fdR_hit hF (f5 p he0 hpc hb54 hb60) (fun x => by cases x.2) (by omega))
       rw [e1, e2]
       exact ⟨_, rfl, ⟨p, rfl, fun q hq9 => by injection hq9⟩, hw⟩
      ·refine WL.move rfl rfl (WL.extract rfl rfl rfl (WL.extract rfl rfl rfl (WL.alloc Tryz.zeroValue127 rfl ?_)))
       intro g_21 w_21 hge_21 hlt_21 hb_21 k_21
       have zs_k_21 := k_21.size
       replace hb_1 := hb_1.pure k_21
       replace h := h.pure k_21
       replace hL := hL.pure k_21
       replace hw := hw.pure k_21
       replace hq := hq.pure k_21
       refine WL.ql Tryz.sizeOf127 hb_21 rfl rfl (by rfl) (by exact Enc.one _ _) (by exact Nat.le_of_ble_eq_true rfl) rfl ?_
       intro w_22 hs_22 hn_22 k_22
       have zs_k_22 := k_22.size
       replace hb_1 := hb_1.chg k_22 (by intro h1; have h2 : _ = _ := h1; exfalso; omega)
       replace h := h.chg k_22 (by intro b h1 h2 h3; have h4 : _ = _ := h3; (try dsimp only at h2); exfalso; omega)
       replace hL := hL.chg k_22 (by intro h1; have h2 : _ = _ := h1; exfalso; omega)
       replace hw := hw.chg k_22 (by intro x h1 h2; have h3 : _ = _ := h2; exfalso; omega)
       replace hq := hq.chg k_22 (by intro b h1 h2 h3; have h4 : _ = _ := h3; (try dsimp only at h2); exfalso; omega)
       replace hb_21 := hn_22
       refine WL.assign rfl rfl (WL.t (WC.seq (?_)))
       have hb10 := Blk.eqc (cs' := epc.f p) hb_21 rfl
       refine WC.qc (Nob) [0, 1, 2, 3, 4, 5, 6, 7, 8, 9, 10, 11, 12, 13, 14, 15] [] mixed rfl rfl (fun wd_23 kd_23 zd_23 => ?_)
       have zs_kd_23 := kd_23.size
       replace hb_1 := hb_1.pure kd_23
       replace h := h.pure kd_23
       replace hL := hL.pure kd_23
       replace hw := hw.pure kd_23
       replace hq := hq.pure kd_23
       replace hb10 := hb10.pure kd_23
       apply DQ.step [(11, _)] rfl ⟨rfl, trivial⟩ rfl (fun _ _ => WL.move rfl rfl  WL.q)
       apply DQ.step [(46, _)] rfl ⟨rfl, trivial⟩ rfl (fun _ _ => WL.move rfl rfl  WL.q)
       apply DQ.step [(10, _), (47, _)] rfl ⟨rfl, rfl, trivial⟩ rfl (fun _ _ => WL.qa rfl rfl rfl (WL.fieldAddr (fld_127_0) rfl rfl  WL.q))
       apply DQ.step [(48, _), (47, _)] rfl ⟨rfl, rfl, trivial⟩ rfl
       ·intro wq_27 kq_27
        have zs_kq_27 := kq_27.size
        replace hb_1 := hb_1.pure kq_27
        replace h := h.pure kq_27
        replace hL := hL.pure kq_27
        replace hw := hw.pure kq_27
        replace hq := hq.pure kq_27
        replace hb10 := hb10.pure kq_27
        refine WL.qa rfl rfl rfl (WL.qb Tryz.isAgg3 hb10 rfl rfl rfl (WL.q))
       apply DQ.step [(0, _), (47, _)] rfl ⟨rfl, rfl, trivial⟩ rfl (fun _ _ => WL.qa rfl rfl rfl (WL.move rfl rfl  WL.q))
       apply DQ.step [(50, _), (47, _)] rfl ⟨rfl, rfl, trivial⟩ rfl (fun _ _ => WL.qa rfl rfl rfl (WL.nilCheck rfl rfl  WL.q))
       apply DQ.step [(51, _), (47, _)] rfl ⟨rfl, rfl, trivial⟩ rfl (fun _ _ => WL.qa rfl rfl rfl (WL.fieldAddr (fld_125_3) rfl rfl  WL.q))
       apply DQ.step [(52, _), (47, _)] rfl ⟨rfl, rfl, trivial⟩ rfl
       ·intro wq_31 kq_31
        have zs_kq_31 := kq_31.size
        replace hb_1 := hb_1.pure kq_31
        replace h := h.pure kq_31
        replace hL := hL.pure kq_31
        replace hw := hw.pure kq_31
        replace hq := hq.pure kq_31
        replace hb10 := hb10.pure kq_31
        refine WL.qa rfl rfl rfl (WL.qb Tryz.isAgg3 hL rfl rfl rfl (WL.q))
       apply DQ.step [(49, _), (53, _), (47, _)] rfl ⟨rfl, rfl, rfl, trivial⟩ rfl
       ·intro wq_32 kq_32
        refine WL.qa rfl rfl rfl (WL.eqlT rfl rfl rfl (hb54) ?_)
        exact WL.q
       apply DQ.step [(47, _), (54, _)] rfl ⟨rfl, rfl, trivial⟩ rfl (fun _ _ => WL.qd rfl rfl rfl  WL.q)
       apply DQ.step [(55, _)] rfl ⟨rfl, trivial⟩ rfl (fun _ _ => WL.move rfl rfl  WL.q)
       apply DQ.step [(10, _), (56, _)] rfl ⟨rfl, rfl, trivial⟩ rfl (fun _ _ => WL.qa rfl rfl rfl (WL.fieldAddr (fld_127_1) rfl rfl  WL.q))
       apply DQ.step [(57, _), (56, _)] rfl ⟨rfl, rfl, trivial⟩ rfl
       ·intro wq_36 kq_36
        have zs_kq_36 := kq_36.size
        replace hb_1 := hb_1.pure kq_36
        replace h := h.pure kq_36
        replace hL := hL.pure kq_36
        replace hw := hw.pure kq_36
        replace hq := hq.pure kq_36
        replace hb10 := hb10.pure kq_36
        refine WL.qa rfl rfl rfl (WL.qb Tryz.isAgg3 hb10 rfl rfl rfl (WL.q))
       apply DQ.step [(1, _), (56, _)] rfl ⟨rfl, rfl, trivial⟩ rfl (fun _ _ => WL.qa rfl rfl rfl (WL.move rfl rfl  WL.q))
       apply DQ.step [(58, _), (59, _), (56, _)] rfl ⟨rfl, rfl, rfl, trivial⟩ rfl
       ·intro wq_38 kq_38
        refine WL.qa rfl rfl rfl (WL.eqlF rfl rfl rfl (hb60) ?_)
        exact WL.q
       apply DQ.step [(56, _), (60, _)] rfl ⟨rfl, rfl, trivial⟩ rfl (fun _ _ => WL.qd rfl rfl rfl  WL.q)
       refine DQ.done (fun _ => ?_)
       refine DL.done (fun we_40 ke_40 => ?_)
       have zs_ke_40 := ke_40.size
       replace hb_1 := hb_1.pure ke_40
       replace h := h.pure ke_40
       replace hL := hL.pure ke_40
       replace hw := hw.pure ke_40
       replace hq := hq.pure ke_40
       replace hb10 := hb10.pure ke_40
       refine WX.qa (WC.qa rfl (WC.skip (WX.qc (WX.qa (WC.region (WL.qe rfl rfl (by omega) rfl (WL.move rfl rfl (?_))))))))
       refine WL.nil (?_)
       have hs : stF s l.f l.b n (k : Nat) = (0, none) := by
        have he0 : e = 0 := h40
        exact f4 p he0 hpc (fun x => by exact hb60 x.2)
       exact WX.qf (k + 1) ⟨rfl, rfl, rfl, rfl, rfl, trivial⟩ ⟨by omega, (fdR_go hF).trans hs, hb_1, h, hL, hw⟩ (by show _ - _ < _ - _; omega)
     ·refine WL.move rfl rfl (WL.extract rfl rfl rfl (WL.extract rfl rfl rfl (WL.alloc Tryz.zeroValue127 rfl ?_)))
      intro g_21 w_21 hge_21 hlt_21 hb_21 k_21
      have zs_k_21 := k_21.size
      replace hb_1 := hb_1.pure k_21
      replace h := h.pure k_21
      replace hL := hL.pure k_21
      replace hw := hw.pure k_21
      replace hq := hq.pure k_21
      refine WL.ql Tryz.sizeOf127 hb_21 rfl rfl (by rfl) (by exact Enc.one _ _) (by exact Nat.le_of_ble_eq_true rfl) rfl ?_
      intro w_22 hs_22 hn_22 k_22
      have zs_k_22 := k_22.size
      replace hb_1 := hb_1.chg k_22 (by intro h1; have h2 : _ = _ := h1; exfalso; omega)
      replace h := h.chg k_22 (by intro b h1 h2 h3; have h4 : _ = _ := h3; (try dsimp only at h2); exfalso; omega)
      replace hL := hL.chg k_22 (by intro h1; have h2 : _ = _ := h1; exfalso; omega)
      replace hw := hw.chg k_22 (by intro x h1 h2; have h3 : _ = _ := h2; exfalso; omega)
      replace hq := hq.chg k_22 (by intro b h1 h2 h3; have h4 : _ = _ := h3; (try dsimp only at h2); exfalso; omega)
      replace hb_21 := hn_22
      refine WL.assign rfl rfl (WL.t (WC.seq (?_)))
      have hb10 := Blk.eqc (cs' := epc.f p) hb_21 rfl
      refine WC.qc (Nob) [0, 1, 2, 3, 4, 5, 6, 7, 8, 9, 10, 11, 12, 13, 14, 15] [] mixed rfl rfl (fun wd_23 kd_23 zd_23 => ?_)
      have zs_kd_23 := kd_23.size
      replace hb_1 := hb_1.pure kd_23
      replace h := h.pure kd_23
      replace hL := hL.pure kd_23
      replace hw := hw.pure kd_23
      replace hq := hq.pure kd_23
      replace hb10 := hb10.pure kd_23
      apply DQ.step [(11, _)] rfl ⟨rfl, trivial⟩ rfl (fun _ _ => WL.move rfl rfl  WL.q)
      apply DQ.step [(46, _)] rfl ⟨rfl, trivial⟩ rfl (fun _ _ => WL.move rfl rfl  WL.q)
      apply DQ.step [(10, _), (47, _)] rfl ⟨rfl, rfl, trivial⟩ rfl (fun _ _ => WL.qa rfl rfl rfl (WL.fieldAddr (fld_127_0) rfl rfl  WL.q))
      apply DQ.step [(48, _), (47, _)] rfl ⟨rfl, rfl, trivial⟩ rfl
      ·intro wq_27 kq_27
       have zs_kq_27 := kq_27.size
       replace hb_1 := hb_1.pure kq_27
       replace h := h.pure kq_27
       replace hL := hL.pure kq_27
       replace hw := hw.pure kq_27
       replace hq := hq.pure kq_27
       replace hb10 := hb10.pure kq_27
       refine WL.qa rfl rfl rfl (WL.qb Tryz.isAgg3 hb10 rfl rfl rfl (WL.q))
      apply DQ.step [(0, _), (47, _)] rfl ⟨rfl, rfl, trivial⟩ rfl (fun _ _ => WL.qa rfl rfl rfl (WL.move rfl rfl  WL.q))
      apply DQ.step [(50, _), (47, _)] rfl ⟨rfl, rfl, trivial⟩ rfl (fun _ _ => WL.qa rfl rfl rfl (WL.nilCheck rfl rfl  WL.q))
      apply DQ.step [(51, _), (47, _)] rfl ⟨rfl, rfl, trivial⟩ rfl (fun _ _ => WL.qa rfl rfl rfl (WL.fieldAddr (fld_125_3) rfl rfl  WL.q))
      apply DQ.step [(52, _), (47, _)] rfl ⟨rfl, rfl, trivial⟩ rfl
      ·intro wq_31 kq_31
       have zs_kq_31 := kq_31.size
       replace hb_1 := hb_1.pure kq_31
       replace h := h.pure kq_31
       replace hL := hL.pure kq_31
       replace hw := hw.pure kq_31
       replace hq := hq.pure kq_31
       replace hb10 := hb10.pure kq_31
       refine WL.qa rfl rfl rfl (WL.qb Tryz.isAgg3 hL rfl rfl rfl (WL.q))
      apply DQ.step [(49, _), (53, _), (47, _)] rfl ⟨rfl, rfl, rfl, trivial⟩ rfl
      ·intro wq_32 kq_32
       refine WL.qa rfl rfl rfl (WL.eqlF rfl rfl rfl (hb54) ?_)
       exact WL.q
      apply DQ.step [(47, _), (54, _)] rfl ⟨rfl, rfl, trivial⟩ rfl (fun _ _ => WL.qd rfl rfl rfl  WL.q)
      apply DQ.step [(55, _)] rfl ⟨rfl, trivial⟩ rfl (fun _ _ => WL.move rfl rfl  WL.q)
      apply DQ.step [(10, _), (56, _)] rfl ⟨rfl, rfl, trivial⟩ rfl
      ·intro wq_35 kq_35
       refine WL.pass rfl rfl rfl rfl (WL.nil (WX.one ⟨rfl, by exact Chg.refl _ _⟩))
      apply DQ.step [(57, _), (56, _)] rfl ⟨rfl, rfl, trivial⟩ rfl
      ·intro wq_36 kq_36
       have zs_kq_36 := kq_36.size
       replace hb_1 := hb_1.pure kq_36
       replace h := h.pure kq_36
       replace hL := hL.pure kq_36
       replace hw := hw.pure kq_36
       replace hq := hq.pure kq_36
       replace hb10 := hb10.pure kq_36
       refine WL.pass rfl rfl rfl rfl (WL.nil (WX.one ⟨rfl, by exact Chg.refl _ _⟩))
      apply DQ.step [(1, _), (56, _)] rfl ⟨rfl, rfl, trivial⟩ rfl
      ·intro wq_37 kq_37
       refine WL.pass rfl rfl rfl rfl (WL.nil (WX.one ⟨rfl, by exact Chg.refl _ _⟩))
      apply DQ.step [(58, _), (59, _), (56, _)] rfl ⟨rfl, rfl, rfl, trivial⟩ rfl
      ·intro wq_38 kq_38
       refine WL.pass rfl rfl rfl rfl (WL.nil (WX.one ⟨rfl, by exact Chg.refl _ _⟩))
      apply DQ.step [(56, _), (60, _)] rfl ⟨rfl, rfl, trivial⟩ rfl (fun _ _ => WL.qc rfl rfl rfl  WL.q)
      refine DQ.done (fun _ => ?_)
      refine DL.done (fun we_40 ke_40 => ?_)
      have zs_ke_40 := ke_40.size
      replace hb_1 := hb_1.pure ke_40
      replace h := h.pure ke_40
      replace hL := hL.pure ke_40
      replace hw := hw.pure ke_40
      replace hq := hq.pure ke_40
      replace hb10 := hb10.pure ke_40
      refine WX.qa (WC.qa rfl (WC.skip (WX.qc (WX.qa (WC.region (WL.qe rfl rfl (by omega) rfl (WL.move rfl rfl (?_))))))))
      refine WL.nil (?_)
      have hs : stF s l.f l.b n (k : Nat) = (0, none) := by
       have he0 : e = 0 := h40
       exact f4 p he0 hpc (fun x => by exact hb54 x.1)
      exact WX.qf (k + 1) ⟨rfl, rfl, rfl, rfl, rfl, trivial⟩ ⟨by omega, (fdR_go hF).trans hs, hb_1, h, hL, hw⟩ (by show _ - _ < _ - _; omega)
 ·refine WL.t (WC.seq (WC.qa rfl (WC.exit (WX.qd (WX.qd (WX.qh (WX.qa (WC.sr (WL.bld rfl (bld_127_z) rfl (?_))))))))))
  refine WL.ql Tryz.sizeOf127 hb_1 rfl rfl (by simp; done) (by simp [Value.oneCell']; done) (by exact Nat.le_of_ble_eq_true rfl) rfl ?_
  intro w_2 hs_2 hn_2 k_2
  have zs_k_2 := k_2.size
  replace h := h.chg k_2 (by intro b h1 h2 h3; have h4 : _ = _ := h3; (try dsimp only at h2); exfalso; omega)
  replace hL := hL.chg k_2 (by intro h1; have h2 : _ = _ := h1; exfalso; omega)
  replace hw := hw.chg k_2 (by intro x h1 h2; have h3 : _ = _ := h2; exfalso; omega)
  replace hb_1 := hn_2
  refine WL.assign rfl rfl (WL.assign rfl rfl (WL.t (WC.ret (WX.ret3c (.inl rfl) Tryz.results71 Tryz.isAgg127 Tryz.sizeOf127 hb_1 rfl (by rfl) rfl rfl ?_))))
  have hE : ∀ e' p', fdR s l.f l.b n s.dn = (e', p') → findE s l.f l.b n = e' ∧ findP s l.f l.b n = p' := fun e' p' h9 => by rw [findE, findP, h9]; exact ⟨rfl, rfl⟩
  have hkd : k = s.dn := by omega
  subst hkd
  obtain ⟨e1, e2⟩ := hE _ _ hF
  rw [e1, e2]
  exact ⟨_, rfl, ⟨zeroC, rfl, fun q hq9 => by cases hq9⟩, hw⟩
end Go.Proofs.YtjeldcjchipdgaaGreatDoor
namespace Go.Proofs.YtjeldcjchipdgaaGreatDoor
open Go.RowKit Go.HL
set_option maxRecDepth 100000
theorem dNewest_calls {A : Nat → Prop} {w : World} {D : Nat} {s : RA} (h : RD A w D s) (hn : s.waits.length ≤ 1000000) (d a : Int) :
 Calls Tryz.prog 63 [ptr D, vi d, vi a].toArray w (Ret fun v w' => (∃ k : Int, v = vi k ∧ ((k = -1 ∧ ∀ x ∈ s.waits, x.1 ≠ (d, a)) ∨ ∃ (i : Nat) (x : Pl × List UInt8), k = (i : Int) ∧ s.waits[i]? = some x ∧ x.1 = (d, a) ∧ ∀ j y, i < j → s.waits[j]? = some y → y.1 ≠ (d, a))) ∧ Chg Nob w w') := by
 obtain ⟨la, lc, ls, ga, gc, wa, wc, hB, hI⟩ := h.ex
 have hW := hI.waits.rsl.old
 have hw := Chg.refl Nob w
 refine Calls.of_WC Tryz.func63 rfl Tryz.ntmps63 (by simp) ?_
 refine WC.sr (WL.assign rfl rfl (WL.t (WC.sr (WL.assign rfl rfl (WL.t (WC.seq (WC.sr (WL.assign rfl rfl (WL.t (WC.block (?_)))))))))))
 refine WC.loop (σ := Nat × Int) (fun q => [(0, ptr D), (1, vi d), (2, vi a), (7, vi q.2), (8, vi q.1)])
  (fun q w' => q.1 ≤ s.waits.length ∧ ((q.2 = -1 ∧ ∀ j x, j < q.1 → s.waits[j]? = some x → x.1 ≠ (d, a)) ∨ ∃ (i : Nat) (x : Pl × List UInt8), q.2 = (i : Int) ∧ s.waits[i]? = some x ∧ x.1 = (d, a) ∧ ∀ j y, i < j → j < q.1 → s.waits[j]? = some y → y.1 ≠ (d, a)) ∧ Blk w' D 87 (dcells s la s.dn lc ga gc wa wc) ∧ RSl (· < w.heap.size) w' ewt wa wc s.waits ∧ Chg Nob w w') (fun q => s.waits.length - q.1) (0, -1) ⟨rfl, rfl, rfl, rfl, rfl, trivial⟩ ⟨Nat.zero_le _, .inl ⟨rfl, fun j x h => absurd h (Nat.not_lt_zero j)⟩, hB, hW, hw⟩ ?_
 clear hB hW hw
 rintro ⟨i, n⟩ w2 ⟨hi, hI2, hB, hW, hw⟩
 simp only at hi hI2
 dsimp only
 refine WC.seq (WC.sr (WL.move rfl rfl (WL.move rfl rfl (WL.nilCheck rfl rfl (WL.fieldAddr (fld_87_2) rfl rfl (WL.qb Tryz.isAgg85 hB rfl rfl rfl (WL.len Tryz.underlying85 rfl rfl (WL.qh rfl rfl rfl (fun h15 => ?_) (fun h15 => ?_)))))))))
 ·refine WL.t (WC.qb rfl (WC.skip (WX.qa (WC.seq (WC.block (WC.seq (WC.region (WL.move rfl rfl (WL.nilCheck rfl rfl (WL.fieldAddr (fld_87_2) rfl rfl (WL.qb Tryz.isAgg85 hB rfl rfl rfl (WL.move rfl rfl (?_)))))))))))))
  obtain ⟨⟨⟨x1, x2⟩, xb⟩, hx⟩ : ∃ x, s.waits[i]? = some x := ⟨_, List.getElem?_eq_getElem (by omega)⟩
  refine WL.qg Tryz.underlying85 Tryz.sizeOf104 hW rfl rfl ⟨hx, rfl⟩ rfl ?_
  intro b_1 o_1 hc_1
  refine WL.fieldAddr (fld_104_0) rfl rfl (WL.load Tryz.isAgg3 rfl (hc_1 _ _ rfl) rfl (WL.move rfl rfl (WL.qi rfl rfl rfl (fun h27 => ?_) (fun h27 => ?_))))
  ·refine WL.move rfl rfl (WL.qa rfl rfl rfl (WL.move rfl rfl (WL.qa rfl rfl rfl (WL.nilCheck rfl rfl (WL.qa rfl rfl rfl (WL.fieldAddr (fld_87_2) rfl rfl (WL.qa rfl rfl rfl (WL.qb Tryz.isAgg85 hB rfl rfl rfl (WL.qa rfl rfl rfl (WL.move rfl rfl (WL.qa rfl rfl rfl (WL.qg Tryz.underlying85 Tryz.sizeOf104 hW rfl rfl ⟨hx, rfl⟩ rfl ?_))))))))))))
   intro b_2 o_2 hc_2
   refine WL.qa rfl rfl rfl (WL.fieldAddr (fld_104_1) rfl rfl (WL.qa rfl rfl rfl (WL.load Tryz.isAgg3 rfl (hc_2 _ _ rfl) rfl (WL.qa rfl rfl rfl (WL.move rfl rfl (WL.qa rfl rfl rfl (WL.qi rfl rfl rfl (fun h38 => ?_) (fun h38 => ?_))))))))
   ·refine WL.qd rfl rfl rfl (WL.t (WC.qb rfl (WC.region (WL.move rfl rfl (WL.assign rfl rfl (WL.nil (WX.qc (WX.qa (WC.region (WL.move rfl rfl (WL.qe rfl rfl (by omega) rfl (WL.assign rfl rfl (WL.nil (?_))))))))))))))
    refine WX.qf (i + 1, (i : Int)) ⟨rfl, rfl, rfl, rfl, rfl, trivial⟩ ⟨by show i + 1 ≤ _; omega, .inr ⟨i, _, rfl, hx, ?_, fun j y h1 h2 _ => ?_⟩, hB, hW, hw⟩ (by show s.waits.length - (i + 1) < s.waits.length - i; omega)
    ·exact Prod.ext h27 h38
    ·exfalso
     omega
   ·refine WL.qd rfl rfl rfl (WL.t (WC.qa rfl (WC.skip (WX.qc (WX.qa (WC.region (WL.move rfl rfl (WL.qe rfl rfl (by omega) rfl (WL.assign rfl rfl (WL.nil (?_)))))))))))
    refine WX.qf (i + 1, n) ⟨rfl, rfl, rfl, rfl, rfl, trivial⟩ ⟨by show i + 1 ≤ _; omega, ?_, hB, hW, hw⟩ (by show s.waits.length - (i + 1) < s.waits.length - i; omega)
    have hne : (x1, x2) ≠ (d, a) := fun e => by
     injection e with e1 e2
     first
      |exact h27 e1
      |exact h38 e2
    rcases hI2 with ⟨h1, h2⟩ | ⟨i', x', h1, h2, h3, h4⟩
    ·refine .inl ⟨h1, fun j x hj hxj => ?_⟩
     rcases Nat.lt_or_ge j i with h5 | h5
     ·exact h2 j x h5 hxj
     ·have h6 : j < i + 1 := hj
      obtain rfl : j = i := by omega
      rw [hx] at hxj
      injection hxj with hxj
      rw [← hxj]
      exact hne
    ·refine .inr ⟨i', x', h1, h2, h3, fun j y hj hj2 hy => ?_⟩
     rcases Nat.lt_or_ge j i with h5 | h5
     ·exact h4 j y hj h5 hy
     ·have h6 : j < i + 1 := hj2
      obtain rfl : j = i := by omega
      rw [hx] at hy
      injection hy with hy
      rw [← hy]
      exact hne
  ·refine WL.move rfl rfl (WL.pass rfl rfl rfl rfl (WL.pass rfl rfl rfl rfl (WL.pass rfl rfl rfl rfl (WL.pass rfl rfl rfl rfl (WL.pass rfl rfl rfl rfl (WL.pass rfl rfl rfl rfl (WL.pass rfl rfl rfl rfl (WL.pass rfl rfl rfl rfl (WL.pass rfl rfl rfl rfl (WL.pass rfl rfl rfl rfl (WL.qc rfl rfl rfl (WL.t (WC.qa rfl (WC.skip (WX.qc (WX.qa (WC.region (WL.move rfl rfl (WL.qe rfl rfl (by omega) rfl (WL.assign rfl rfl (WL.nil (?_))))))))))))))))))))))
   refine WX.qf (i + 1, n) ⟨rfl, rfl, rfl, rfl, rfl, trivial⟩ ⟨by show i + 1 ≤ _; omega, ?_, hB, hW, hw⟩ (by show s.waits.length - (i + 1) < s.waits.length - i; omega)
   have hne : (x1, x2) ≠ (d, a) := fun e => by
    injection e with e1 e2
    first
     |exact h27 e1
     |exact h38 e2
   rcases hI2 with ⟨h1, h2⟩ | ⟨i', x', h1, h2, h3, h4⟩
   ·refine .inl ⟨h1, fun j x hj hxj => ?_⟩
    rcases Nat.lt_or_ge j i with h5 | h5
    ·exact h2 j x h5 hxj
    ·have h6 : j < i + 1 := hj
     obtain rfl : j = i := by omega
     rw [hx] at hxj
     injection hxj with hxj
     rw [← hxj]
     exact hne
   ·refine .inr ⟨i', x', h1, h2, h3, fun j y hj hj2 hy => ?_⟩
    rcases Nat.lt_or_ge j i with h5 | h5
    ·exact h4 j y hj h5 hy
    ·have h6 : j < i + 1 := hj2
     obtain rfl : j = i := by omega
     rw [hx] at hy
     injection hy with hy
     rw [← hy]
     exact hne
 ·refine WL.t (WC.qa rfl (WC.exit (WX.qd (WX.qd (WX.qh (WX.qa (WC.sr (WL.move rfl rfl (WL.assign rfl rfl (WL.t (WC.ret (WX.qg (.inl rfl) Tryz.results63 rfl ?_))))))))))))
  refine ⟨_, rfl, ⟨n, rfl, ?_⟩, hw⟩
  rcases hI2 with ⟨h1, h2⟩ | ⟨i', x', h1, h2, h3, h4⟩
  ·refine .inl ⟨h1, fun x hx => ?_⟩
   obtain ⟨j, hj⟩ := List.getElem?_of_mem hx
   have hjl := (List.getElem?_eq_some_iff.1 hj).1
   exact h2 j x (by omega) hj
  ·refine .inr ⟨i', x', h1, h2, h3, fun j y hj hy => h4 j y hj ?_ hy⟩
   have hjl := (List.getElem?_eq_some_iff.1 hy).1
   omega
theorem dRead_calls {A : Nat → Prop} {w : World} {D : Nat} {s : RA} (h : RD A w D s) (hn : s.waits.length ≤ 1000000) (d a : Int) :
 Calls Tryz.prog 88 [ptr D, vi d, vi a].toArray w (Ret fun v w' => v = .tuple #[.string (if errS s d a = 0 then bs (heldS s (d, a)) else bs []), vi (errS s d a)] ∧ Chg Nob w w') := by
 have hw := Chg.refl Nob w
 have hok := h.ok
 refine Calls.of_WC Tryz.func88 rfl Tryz.ntmps88 (by simp) ?_
 refine WC.sr (WL.assign rfl rfl (WL.assign rfl rfl (WL.t (WC.seq (WC.seq (WC.region (WL.move rfl rfl (WL.move rfl rfl (WL.move rfl rfl (WL.call eg_62 rfl rfl (dIn_calls h d a) ?_))))))))))
 rintro v w1 ⟨rfl, k1⟩
 replace h := h.pure k1
 replace hw := hw.pure k1
 obtain ⟨la, lc, ls, ga, gc, wa, wc, hB, hI⟩ := h.ex
 have hlen := hI.ld.len
 by_cases h12 : inS s d a
 ·rw [decide_eq_true h12]
  refine WL.not rfl rfl (WL.t (WC.qa rfl (WC.skip (WX.qa (WC.seq (WC.seq (WC.region (WL.move rfl rfl (WL.nilCheck rfl rfl (WL.fieldAddr (fld_87_1) rfl rfl (WL.qb Tryz.isAgg84 hB rfl rfl rfl (WL.move rfl rfl (?_)))))))))))))
  have hgd := goneS_at hok (d := d) ⟨h12.1, h12.2.1⟩
  refine WL.qg (e := ebool) Tryz.underlying84 Tryz.sizeOf4 hI.gone.rsl rfl rfl ⟨hgd, by have := h12.1; omega⟩ rfl ?_
  intro bb oo hcc
  refine WL.load Tryz.isAgg4 rfl (hcc 0 _ rfl) rfl ?_
  rcases hg : goneS s d with _ | _
  ·refine WL.t (WC.qa rfl (WC.skip (WX.qa (WC.seq (WC.sr (WL.move rfl rfl (WL.nilCheck rfl rfl (WL.fieldAddr (fld_87_3) rfl rfl (WL.qb Tryz.isAgg4 hB rfl rfl rfl ?_)))))))))
   rcases ho : s.off with _ | _
   ·refine WL.t (WC.qa rfl (WC.skip (WX.qa (WC.sr (WL.move rfl rfl (WL.move rfl rfl (WL.move rfl rfl (WL.call eg_63 rfl rfl (dNewest_calls h hn d a) ?_))))))))
    rintro v w2 ⟨⟨k, rfl, hk⟩, k2⟩
    replace hw := hw.pure k2
    replace hB := hB.pure k2
    replace hI := hI.pure k2
    have hE : errS s d a = 0 := by simp [errS, h12, hg, ho]
    refine WL.assign rfl rfl (WL.t (WC.seq (WC.sr (WL.move rfl rfl (?_)))))
    rcases hk with ⟨h1, h2⟩ | ⟨i, x, h1, h2, h3, h4⟩
    ·refine WL.geqF rfl rfl rfl (by omega) ?_
     refine WL.t (WC.qa rfl (WC.skip (WX.qa (WC.sr (WL.move rfl rfl (WL.nilCheck rfl rfl (WL.fieldAddr (fld_87_0) rfl rfl (WL.qb Tryz.isAgg83 hB rfl rfl rfl (WL.move rfl rfl (?_))))))))))
     obtain ⟨r, hr⟩ : ∃ r, ls[d.toNat]? = some r := ⟨_, List.getElem?_eq_getElem (by have := h12.1; have := h12.2.1; omega)⟩
     obtain ⟨g, hgr, _, hrow⟩ := hI.ld.own d.toNat r hr
     have hra := hI.ld.at hr (a := a.toNat) (by have := h12.2.2; omega)
     refine WL.qg (e := esr) Tryz.underlying83 Tryz.sizeOf70 hI.ld.outer.rsl (by show some (Value.slice la s.dn lc) = some (Value.slice la ls.length lc); rw [hlen]) rfl ⟨hr, by have := h12.1; omega⟩ rfl ?_
     intro bb oo hcc5
     refine WL.load Tryz.isAgg70 rfl (hcc5 0 _ rfl) rfl (WL.move rfl rfl (?_))
     refine WL.qg (e := es) Tryz.underlying70 Tryz.sizeOf9 hrow.rsl (by show some (Value.slice r.ao _ _) = _; rw [hgr]) rfl ⟨hra, by have := h12.2.2.1; omega⟩ rfl ?_
     intro bb6 oo6 hcc6
     refine WL.load Tryz.isAgg9 rfl (hcc6 0 _ rfl) rfl ?_
     rw [show lf s d.toNat a.toNat = bs (heldS s (d, a)) from by
      rw [heldS_eq, newV_none h2, lf, show ((d.toNat : Int)) = d from by have := h12.1; omega, show ((a.toNat : Int)) = a from by have := h12.2.2.1; omega]]
     refine WL.assign rfl rfl (WL.assign rfl rfl (WL.t (WC.ret (WX.qi (.inl rfl) Tryz.results88 rfl rfl ?_))))
     refine ⟨_, rfl, ?_, hw⟩
     rw [hE]
     rw [if_pos rfl]; done
    ·refine WL.geqT rfl rfl rfl (by omega) ?_
     refine WL.t (WC.qb rfl (WC.sr (WL.move rfl rfl (WL.nilCheck rfl rfl (WL.fieldAddr (fld_87_2) rfl rfl (WL.qb Tryz.isAgg85 hB rfl rfl rfl (WL.move rfl rfl (WL.qg Tryz.underlying85 Tryz.sizeOf104 hI.waits.rsl rfl rfl ⟨h2, h1⟩ rfl ?_))))))))
     intro b_1 o_1 hc_1
     refine WL.fieldAddr (fld_104_2) rfl rfl (WL.load Tryz.isAgg9 rfl (hc_1 _ _ rfl) rfl (WL.assign rfl rfl (WL.assign rfl rfl (WL.t (WC.ret (WX.qb (WX.qi (.inl rfl) Tryz.results88 rfl rfl ?_)))))))
     refine ⟨_, rfl, ?_, hw⟩
     rw [hE]
     rw [if_pos rfl, heldS_eq, newV_some h2 h3 h4]; done
   ·have hE : errS s d a = 16 := by simp [errS, h12, hg, ho]
    refine WL.t (WC.qb rfl (WC.sr (WL.assign rfl rfl (WL.assign rfl rfl (WL.nil (WX.qa (WC.ret (WX.qb (WX.qi (.inl rfl) Tryz.results88 rfl rfl ?_)))))))))
    refine ⟨_, rfl, ?_, hw⟩
    rw [hE]
    rw [if_neg (by decide)]
  ·have hE : errS s d a = 3 := by simp [errS, h12, hg]
   refine WL.t (WC.qb rfl (WC.sr (WL.assign rfl rfl (WL.assign rfl rfl (WL.nil (WX.qa (WC.ret (WX.qb (WX.qi (.inl rfl) Tryz.results88 rfl rfl ?_)))))))))
   refine ⟨_, rfl, ?_, hw⟩
   rw [hE]
   rw [if_neg (by decide)]
 ·have hE : errS s d a = 1 := by simp [errS, h12]
  rw [decide_eq_false h12]
  refine WL.not rfl rfl (WL.t (WC.qb rfl (WC.sr (WL.assign rfl rfl (WL.assign rfl rfl (WL.t (WC.ret (WX.qb (WX.qi (.inl rfl) Tryz.results88 rfl rfl ?_)))))))))
  refine ⟨_, rfl, ?_, hw⟩
  rw [hE]
  rw [if_neg (by decide)]
theorem armD_range {s : RA} (h : s.ok) : -1 ≤ armD s ∧ armD s ≤ 9223372036854775807 := by
 have h1 := h.lf
 unfold armD
 split
 ·rename_i h2
  have := h1.1 h2
  omega
 ·omega
theorem offD {s : RA} (h : s.ok) : offS s = (s.off || decide (armD s = 0)) := by
 unfold offS armD
 cases s.armed
 ·simp
 ·simp
theorem spend_lastS (s : RA) (q : Pl) : lastS (spendS s) q = lastS s q := by rw [lastS, lastS, spendS_last]
theorem spend_lf (s : RA) : lf (spendS s) = lf s := by
 funext d a
 rw [lf, lf, spend_lastS]
theorem dcells_off {s : RA} (h : offS s = true) (la : Option Addr) (ln lc : Nat) (ga : Option Addr) (gc : Nat) (wa : Option Addr) (wc : Nat) : dcells (spendS s) la ln lc ga gc wa wc = [.slice la ln lc, .slice ga s.gone.length gc, .slice wa s.waits.length wc, .bool true, vi (armD s)] := by
 unfold dcells armD spendS
 rw [if_pos h]
theorem dcells_on {s : RA} (hok : s.ok) (h : offS s = false) (la : Option Addr) (ln lc : Nat) (ga : Option Addr) (gc : Nat) (wa : Option Addr) (wc : Nat) : dcells (spendS s) la ln lc ga gc wa wc = [.slice la ln lc, .slice ga s.gone.length gc, .slice wa s.waits.length wc, .bool s.off, vi (if 0 < armD s then armD s - 1 else armD s)] := by
 have h1 := hok.lf
 unfold dcells armD spendS
 rw [if_neg (by rw [h]; decide)]
 cases ha : s.armed
 ·rfl
 ·have h2 : s.left ≠ 0 := fun e => by
   unfold offS at h
   rw [ha, e] at h
   simp at h
  have h3 := h1.1 ha
  simp only [if_true]
  rw [if_pos (by omega)]
set_option maxHeartbeats 1000000 in
theorem dSpend_calls {A : Nat → Prop} {w : World} {D : Nat} {s : RA} (h : RD A w D s) :
 Calls Tryz.prog 52 [ptr D].toArray w (Ret fun v w' => v = .bool (!offS s) ∧ RD A w' D (spendS s) ∧ Chg A w w' ∧ w'.heap.size = w.heap.size) := by
 have aD := h.aD
 have hok := h.ok
 have hrg := armD_range hok
 have hof := offD hok
 have hwin := h.win
 obtain ⟨la, lc, ls, ga, gc, wa, wc, hB0, hI⟩ := h.ex
 have hB := hB0
 have fin : ∀ w' cs, Blk w' D 87 cs → cs = dcells (spendS s) la s.dn lc ga gc wa wc → DI A w' la lc ls ga gc wa wc s.dn s.sn (lf s) s.gone s.waits → RD A w' D (spendS s) := by
  rintro w' cs hB' rfl hI'
  refine ⟨aD, spendS_ok hok, fun p hp => ?_, la, lc, ls, ga, gc, wa, wc, ?_, ?_⟩
  ·rw [spendS_waits] at hp
   have := hwin p hp
   unfold inS at *
   rw [spendS_dn, spendS_sn]
   exact this
  ·rw [spendS_dn]
   exact hB'
  ·rw [spendS_dn, spendS_sn, spendS_gone, spendS_waits, spend_lf]
   exact hI'
 refine Calls.of_WC Tryz.func52 rfl Tryz.ntmps52 (by simp) ?_
 refine WC.sr (WL.assign rfl rfl (WL.t (WC.seq (WC.sr (WL.move rfl rfl (WL.nilCheck rfl rfl (WL.fieldAddr (fld_87_3) rfl rfl (WL.qb Tryz.isAgg4 hB rfl rfl rfl ?_))))))))
 rcases ho : s.off with _ | _
 ·refine WL.move rfl rfl (WL.qa rfl rfl rfl (WL.move rfl rfl (WL.qa rfl rfl rfl (WL.nilCheck rfl rfl (WL.qa rfl rfl rfl (WL.fieldAddr (fld_87_4) rfl rfl (WL.qa rfl rfl rfl (WL.qb Tryz.isAgg3 hB rfl rfl rfl (WL.qa rfl rfl rfl (WL.qi rfl rfl rfl (fun h12 => ?_) (fun h12 => ?_)))))))))))
  ·refine WL.qc rfl rfl rfl (WL.t (WC.qb rfl (WC.sr (WL.move rfl rfl (WL.nilCheck rfl rfl (WL.fieldAddr (fld_87_3) rfl rfl (WL.store Tryz.sizeOf4 hB rfl rfl rfl rfl ?_)))))))
   intro w_1 hs_1 hn_1 k_1
   replace hB := hn_1
   refine WL.t (WC.sr (WL.assign rfl rfl (WL.t (WC.ret (WX.qb (WX.qg (.inl rfl) Tryz.results52 rfl ?_))))))
   rcases hoff : offS s with _ | _
   ·exfalso; rw [hof, ho, h12] at hoff; simp at hoff; done
   ·exact ⟨_, rfl, rfl, fin _ _ hB (by rw [dcells_off hoff]; rfl) (hI.own hB0 k_1), k_1.mono (fun x _ hx => by rw [show x = D from hx]; exact aD), hs_1⟩
  ·refine WL.qc rfl rfl rfl (WL.t (WC.qa rfl (WC.skip (WX.qa (WC.seq (WC.seq (WC.region (WL.move rfl rfl (WL.nilCheck rfl rfl (WL.fieldAddr (fld_87_4) rfl rfl (WL.qb Tryz.isAgg3 hB rfl rfl rfl (WL.qn rfl rfl rfl (fun h21 => ?_) (fun h21 => ?_)))))))))))))
   ·refine WL.t (WC.qb rfl (WC.region (WL.move rfl rfl (WL.nilCheck rfl rfl (WL.fieldAddr (fld_87_4) rfl rfl (WL.qb Tryz.isAgg3 hB rfl rfl rfl (WL.qj rfl rfl (by omega) rfl (WL.nilCheck rfl rfl (WL.fieldAddr (fld_87_4) rfl rfl (?_))))))))))
    refine WL.store Tryz.sizeOf3 hB rfl rfl rfl rfl ?_
    intro w_1 hs_1 hn_1 k_1
    replace hB := hn_1
    refine WL.t (WC.sr (WL.assign rfl rfl (WL.t (WC.ret (WX.qg (.inl rfl) Tryz.results52 rfl ?_)))))
    rcases hoff : offS s with _ | _
    ·exact ⟨_, rfl, rfl, fin _ _ hB (by rw [dcells_on hok hoff, if_pos (by omega)]; rfl) (hI.own hB0 k_1), k_1.mono (fun x _ hx => by rw [show x = D from hx]; exact aD), hs_1⟩
    ·exfalso; rw [hof, ho] at hoff; simp [h12] at hoff; done
   ·refine WL.t (WC.qa rfl (WC.skip (WX.qa (WC.sr (WL.assign rfl rfl (WL.t (WC.ret (WX.qg (.inl rfl) Tryz.results52 rfl ?_))))))))
    rcases hoff : offS s with _ | _
    ·exact ⟨_, rfl, rfl, fin _ _ hB (by rw [dcells_on hok hoff, if_neg (by omega)]) hI, Chg.refl _ _, rfl⟩
    ·exfalso; rw [hof, ho] at hoff; simp [h12] at hoff; done
 ·refine WL.move rfl rfl (WL.pass rfl rfl rfl rfl (WL.pass rfl rfl rfl rfl (WL.pass rfl rfl rfl rfl (WL.pass rfl rfl rfl rfl (WL.pass rfl rfl rfl rfl (WL.qd rfl rfl rfl (WL.nil (WX.qa (WC.qb rfl (WC.sr (WL.move rfl rfl (WL.nilCheck rfl rfl (WL.fieldAddr (fld_87_3) rfl rfl (WL.store Tryz.sizeOf4 hB rfl rfl rfl rfl ?_))))))))))))))
  intro w_1 hs_1 hn_1 k_1
  replace hB := hn_1
  refine WL.t (WC.sr (WL.assign rfl rfl (WL.t (WC.ret (WX.qb (WX.qg (.inl rfl) Tryz.results52 rfl ?_))))))
  rcases hoff : offS s with _ | _
  ·exfalso; rw [hof, ho] at hoff; simp at hoff; done
  ·exact ⟨_, rfl, rfl, fin _ _ hB (by rw [dcells_off hoff]; rfl) (hI.own hB0 k_1), k_1.mono (fun x _ hx => by rw [show x = D from hx]; exact aD), hs_1⟩
set_option maxHeartbeats 1000000 in
theorem dWrite_calls {A : Nat → Prop} {w : World} {D : Nat} {s : RA} (h : RD A w D s) (hn : s.waits.length ≤ 1000000) (d a : Int) (b : List UInt8) :
 Calls Tryz.prog 23 [ptr D, vi d, vi a, .string (bs b)].toArray w (Ret fun v w' => v = vi (writeE s d a b.length) ∧ RD (fun x => A x ∨ w.heap.size ≤ x) w' D (writeS s d a b) ∧ Chg A w w') := by
 have hok := h.ok
 have aD := h.aD
 have hwok := writeS_ok h.ok d a b
 have hw := Chg.refl A w
 have hsz := bs_size b
 refine Calls.of_WC Tryz.func23 rfl Tryz.ntmps23 (by simp) ?_
 refine WC.sr (WL.assign rfl rfl (WL.t (WC.seq (WC.sr (WL.move rfl rfl (WL.move rfl rfl (WL.move rfl rfl (WL.call eg_62 rfl rfl (dIn_calls h d a) ?_))))))))
 rintro v w1 ⟨rfl, k1⟩
 have zs_k1 := k1.size
 replace h := h.pure k1
 replace hw := hw.pure k1
 obtain ⟨la, lc, ls, ga, gc, wa, wc, hB, hI⟩ := h.ex
 by_cases h12 : inS s d a
 ·rw [decide_eq_true h12]
  refine WL.not rfl rfl (WL.move rfl rfl (WL.qa rfl rfl rfl (WL.move rfl rfl (WL.qa rfl rfl rfl (WL.qr Tryz.underlying9 rfl rfl (WL.qa rfl rfl rfl (?_)))))))
  rw [hsz]
  by_cases h17 : b.length = 128
  ·refine WL.qs rfl rfl rfl (by omega) ?_
   refine WL.qc rfl rfl rfl (WL.t (WC.qa rfl (WC.skip (WX.qa (WC.seq (WC.seq (WC.region (WL.move rfl rfl (WL.nilCheck rfl rfl (WL.fieldAddr (fld_87_1) rfl rfl (WL.qb Tryz.isAgg84 hB rfl rfl rfl ?_)))))))))))
   refine WL.move rfl rfl (?_)
   have hgd := goneS_at hok (d := d) ⟨h12.1, h12.2.1⟩
   refine WL.qg (e := ebool) Tryz.underlying84 Tryz.sizeOf4 hI.gone.rsl rfl rfl ⟨hgd, by have := h12.1; omega⟩ rfl ?_
   intro bb oo hcc
   refine WL.load Tryz.isAgg4 rfl (hcc 0 _ rfl) rfl ?_
   rcases hg : goneS s d with _ | _
   ·refine WL.t (WC.qa rfl (WC.skip (WX.qa (WC.seq (WC.sr (WL.move rfl rfl (?_)))))))
    clear hB hI hcc
    refine WL.call eg_52 rfl rfl (dSpend_calls h) ?_
    rintro v w2 ⟨rfl, h2, k2, z2⟩
    replace hw := hw.chg k2 (by intro x h1 h2; exact h2)
    rcases ho : offS s with _ | _
    ·have hE : writeE s d a b.length = 0 := by simp [writeE, h12, h17, hg, ho]
     have hS : writeS s d a b = { spendS s with waits := s.waits ++ [((d, a), b)] } := by rw [writeS, if_pos hE]
     have hdn : (writeS s d a b).dn = s.dn := by rw [hS]; exact spendS_dn s
     have hsn : (writeS s d a b).sn = s.sn := by rw [hS]; exact spendS_sn s
     have hww : (writeS s d a b).waits = s.waits ++ [((d, a), b)] := by rw [hS]
     have hwin : ∀ p ∈ (writeS s d a b).waits, inS (writeS s d a b) p.1.1 p.1.2 := fun p hp => by
      rw [hww] at hp
      show 0 ≤ _ ∧ _ < ((writeS s d a b).dn : Int) ∧ 0 ≤ _ ∧ _ < ((writeS s d a b).sn : Int)
      rw [hdn, hsn]
      rcases List.mem_append.1 hp with h3 | h3
      ·exact h.win p h3
      ·rw [List.mem_singleton.1 h3]
       exact h12
     obtain ⟨la, lc, ls, ga, gc, wa, wc, hB, hI⟩ := h2.ex
     refine WL.not rfl rfl (WL.t (WC.qa rfl (WC.skip (WX.qa (WC.sr (WL.move rfl rfl (WL.move rfl rfl (WL.nilCheck rfl rfl (WL.fieldAddr (fld_87_2) rfl rfl (WL.qb Tryz.isAgg85 hB rfl rfl rfl (WL.move rfl rfl (WL.move rfl rfl (WL.move rfl rfl (WL.bld rfl (bld_104_0_1_2 _ _ _) rfl (?_)))))))))))))))
     refine WL.build (e := ewt) [((d, a), b)] Tryz.underlying85 Tryz.sizeOf104 Tryz.zeroValue104 rfl rfl rfl (by simp [Value.cells] <;> rfl) (by decide) rfl ?_
     intro a_b38 w_b38 b38 l_b38 z_b38 k_b38
     replace hw := hw.pure k_b38
     replace hB := hB.pure k_b38
     replace hI := hI.pure k_b38
     refine WL.append (e := ewt) (S := fun x => A x ∨ w.heap.size ≤ x) info_104 rfl Tryz.underlying85 rfl rfl (hI.waits.mono (fun x hx => .inl hx)) (b38.rsl.src Tryz.underlying85) (by rw [spendS_waits]; constructor <;> (simp only [List.length_cons, List.length_nil]; omega)) (fun x hx => .inr (by omega)) rfl ?_
     intro a9 c9 w9 hW9 g9 n9
     have k9 := g9.chg
     have hI9 := (hI.mono (S' := fun x => A x ∨ w.heap.size ≤ x) (fun x hx => .inl hx)).setWaits hW9 k9 (fun b h => h.1)
     replace hB := hB.chg k9 (fun hm => hI.neW hB hm.1)
     have hB0 := hB
     have hw9 := hw.chg k9 (fun x h0 hm => hm.2.resolve_right (by omega))
     refine WL.nilCheck rfl rfl (WL.fieldAddr (fld_87_2) rfl rfl (WL.store Tryz.sizeOf85 hB rfl rfl rfl rfl ?_))
     intro w_1 hs_1 hn_1 k_1
     have zs_k_1 := k_1.size
     replace hB := hn_1
     refine WL.t (WC.sr (WL.assign rfl rfl (WL.t (WC.ret (WX.qg (.inl rfl) Tryz.results23 rfl ?_)))))
     refine ⟨_, rfl, by rw [hE], ⟨.inl aD, hwok, hwin, la, lc, ls, ga, gc, a9, c9, ?_, ?_⟩, hw9.chg k_1 (fun x _ hx => by rw [show x = D from hx]; exact aD)⟩
     ·rw [hS]
      rw [spendS_waits] at hB
      exact hB
     ·rw [hS]
      rw [spendS_waits] at hI9
      exact hI9.own hB0 k_1
    ·have hE : writeE s d a b.length = 16 := by simp [writeE, h12, h17, hg, ho]
     have hS : writeS s d a b = spendS s := by rw [writeS, if_neg (by rw [hE]; decide), if_pos hE]
     refine WL.not rfl rfl (WL.t (WC.qb rfl (WC.sr (WL.assign rfl rfl (WL.nil (WX.qa (WC.ret (WX.qb (WX.qg (.inl rfl) Tryz.results23 rfl ?_)))))))))
     refine ⟨_, rfl, by rw [hE], ?_, hw⟩
     rw [hS]
     exact h2.mono (fun x hx => .inl hx)
   ·have hE : writeE s d a b.length = 3 := by simp [writeE, h12, h17, hg]
    refine WL.t (WC.qb rfl (WC.sr (WL.assign rfl rfl (WL.t (WC.ret (WX.qb (WX.qg (.inl rfl) Tryz.results23 rfl ?_)))))))
    refine ⟨_, rfl, by rw [hE], ?_, hw⟩
    rw [show writeS s d a b = s from by rw [writeS, if_neg (by rw [hE]; decide), if_neg (by rw [hE]; decide)]]
    exact h.mono (fun x hx => .inl hx)
  ·have hE : writeE s d a b.length = 1 := by simp [writeE, h17]
   refine WL.neqT rfl rfl rfl (by omega) ?_
   refine WL.qc rfl rfl rfl (WL.t (WC.qb rfl (WC.sr (WL.assign rfl rfl (WL.nil (WX.qa (WC.ret (WX.qb (WX.qg (.inl rfl) Tryz.results23 rfl ?_)))))))))
   refine ⟨_, rfl, by rw [hE], ?_, hw⟩
   rw [show writeS s d a b = s from by rw [writeS, if_neg (by rw [hE]; decide), if_neg (by rw [hE]; decide)]]
   exact h.mono (fun x hx => .inl hx)
 ·have hE : writeE s d a b.length = 1 := by simp [writeE, h12]
  rw [decide_eq_false h12]
  refine WL.not rfl rfl (WL.move rfl rfl (WL.pass rfl rfl rfl rfl (WL.pass rfl rfl rfl rfl (WL.pass rfl rfl rfl rfl (WL.qd rfl rfl rfl (WL.t (WC.qb rfl (WC.sr (WL.assign rfl rfl (WL.t (WC.ret (WX.qb (WX.qg (.inl rfl) Tryz.results23 rfl ?_)))))))))))))
  refine ⟨_, rfl, by rw [hE], ?_, hw⟩
  rw [show writeS s d a b = s from by rw [writeS, if_neg (by rw [hE]; decide), if_neg (by rw [hE]; decide)]]
  exact h.mono (fun x hx => .inl hx)
end Go.Proofs.YtjeldcjchipdgaaGreatDoor
namespace Go.Proofs.YtjeldcjchipdgaaGreatDoor
open Go.RowKit Go.HL
set_option maxRecDepth 100000
theorem tmod_two (x : Int) : x.tmod 2 ≠ 0 ↔ x % 2 = 1 := by
 constructor
 ·intro h
  rcases Int.emod_two_eq x with h1 | h1
  ·exact absurd (Int.tmod_eq_zero_of_dvd (Int.dvd_of_emod_eq_zero h1)) h
  ·exact h1
 ·intro h h1
  have h2 := Int.emod_eq_zero_of_dvd (Int.dvd_of_tmod_eq_zero h1)
  omega
end Go.Proofs.YtjeldcjchipdgaaGreatDoor
namespace Go.Proofs.YtjeldcjchipdgaaGreatDoor
open Go.RowKit Go.HL
set_option maxRecDepth 100000
def putLast (s : RA) (p : Pl) (b : List UInt8) : RA := { s with last := mput s.last p b }
theorem putLast_ok {s : RA} (h : s.ok) (p : Pl) {b : List UInt8} (hb : b.length = 128) : (putLast s p b).ok :=
 ⟨h.dn, h.sn, h.gl, fun q hq => by
  rcases mput_mem hq with h1 | h1
  ·exact h.ll q h1
  ·rw [h1]; exact hb, h.lw, h.lf, mput_nodup h.nd⟩
theorem putLast_lf {s : RA} (d a : Int) (hd : 0 ≤ d) (ha : 0 ≤ a) (b : List UInt8) (d' a' : Nat) : lf (putLast s (d, a) b) d' a' = if d' = d.toNat ∧ a' = a.toNat then bs b else lf s d' a' := by
 rw [lf, lf, lastS, lastS, show (putLast s (d, a) b).last = mput s.last (d, a) b from rfl, mget_put]
 by_cases h : d' = d.toNat ∧ a' = a.toNat
 ·rw [if_pos h, if_pos (show ((d' : Int), (a' : Int)) = (d, a) from Prod.ext (by show (d' : Int) = d; omega) (by show (a' : Int) = a; omega))]
  rfl
 ·rw [if_neg h, if_neg (fun e => h (by
   injection e with e1 e2
   exact ⟨by omega, by omega⟩))]
set_option maxHeartbeats 1000000 in
theorem dLast_calls {A : Nat → Prop} {w : World} {D : Nat} {s : RA} (h : RD A w D s) {d a : Int} (hi : inS s d a) {b : List UInt8} (hb : b.length = 128) :
 Calls Tryz.prog 53 [ptr D, .agg #[vi d, vi a, .string (bs b)]].toArray w (Ret fun v w' => v = .tuple #[] ∧ RD A w' D (putLast s (d, a) b) ∧ Chg A w w') := by
 have aD := h.aD
 have hok := h.ok
 have hwin := h.win
 replace h := h.old
 obtain ⟨la, lc, ls, ga, gc, wa, wc, hB, hI⟩ := h.ex
 have hlen := hI.ld.len
 have hd0 := hi.1
 have hd1 := hi.2.1
 have ha0 := hi.2.2.1
 have ha1 := hi.2.2.2
 have hw := Chg.refl A w
 refine Calls.of_WC Tryz.func53 rfl Tryz.ntmps53 (by simp) ?_
 refine WC.sr (WL.box rfl rfl ?_)
 intro g_1 w_1 hge_1 hlt_1 hb_1 k_1
 replace hB := hB.pure k_1
 replace hI := hI.pure k_1
 replace hw := hw.pure k_1
 refine WL.t (?_)
 obtain ⟨⟨rao, rc, rxs⟩, hr⟩ : ∃ r, ls[d.toNat]? = some r := ⟨_, List.getElem?_eq_getElem (by omega)⟩
 obtain ⟨g, hg, ⟨hgA, hgw⟩, hrow⟩ := hI.ld.own _ _ hr
 have hg' : rao = some ⟨g, 0, none⟩ := hg
 subst hg'
 have hrl : rxs.length = s.sn := hI.ld.rlen hr
 have hkg : kb _ g = some (some 9) := (hrow.kb.at_ _ rfl).2
 have hDg : D ≠ g := fun e => by
  have h1 := hB.kb
  rw [e, hkg] at h1
  exact absurd h1 (by decide)
 have hxg : g_1 ≠ g := by omega
 obtain ⟨go, hgo⟩ := hI.ld.outer.place0 (j := d.toNat) (by omega)
 subst hgo
 have hkgo : kb _ go = some (some 70) := (hI.ld.outer.kb.at_ _ rfl).2
 have hgog : go ≠ g := fun e => by
  rw [e, hkg] at hkgo
  exact absurd hkgo (by decide)
 have hOo : RSl (fun x => x ≠ g) w_1 esr (some ⟨go, 0, none⟩) lc ls := ⟨fun _ a ea => by injection ea with ea; subst ea; exact hgog, hI.ld.outer.rsl.cap, hI.ld.outer.rsl.sl⟩
 have hk6 := Chg.refl (fun x => x = g) w_1
 replace hrow : Row (fun x => x = g) w_1 9 es (some ⟨g, 0, none⟩) rc rxs := hrow
 refine WC.qc (fun x => x = g) [0, 1, 2, 3, 4, 5, 6, 7, 8, 9, 10, 11, 12] [13] mixed rfl rfl (fun wd_2 kd_2 zd_2 => ?_)
 replace hB := hB.pure kd_2
 replace hb_1 := hb_1.pure kd_2
 replace hOo := hOo.pure kd_2
 replace hrow := hrow.pure kd_2
 replace hk6 := hk6.pure kd_2
 apply DQ.step [(0, _)] rfl ⟨rfl, trivial⟩ rfl (fun _ _ => WL.move rfl rfl  WL.q)
 apply DQ.step [(4, _)] rfl ⟨rfl, trivial⟩ rfl (fun _ _ => WL.nilCheck rfl rfl  WL.q)
 apply DQ.step [(5, _)] rfl ⟨rfl, trivial⟩ rfl (fun _ _ => WL.fieldAddr (fld_87_0) rfl rfl  WL.q)
 apply DQ.step [(6, _)] rfl ⟨rfl, trivial⟩ rfl
 ·intro wq_7 kq_7
  replace hB := hB.chg kq_7 (by intro h1; have h2 : _ = _ := h1; exfalso; omega)
  refine WL.qb Tryz.isAgg83 hB rfl rfl rfl (WL.q)
 apply DQ.step [(3, _)] rfl ⟨rfl, trivial⟩ rfl (fun _ _ => WL.fieldAddr (fld_104_0) rfl rfl  WL.q)
 apply DQ.step [(8, _)] rfl ⟨rfl, trivial⟩ rfl
 ·intro wq_9 kq_9
  replace hb_1 := hb_1.chg kq_9 (by intro h1; have h2 : _ = _ := h1; exfalso; omega)
  refine WL.qb Tryz.isAgg3 hb_1 rfl rfl rfl (WL.q)
 apply DQ.step [(7, _), (9, _)] rfl ⟨rfl, rfl, trivial⟩ rfl
 ·intro wq_10 kq_10
  replace hOo := hOo.chg kq_10 (by intro x h1 h2; exact h2)
  refine WL.qf (e := esr) hOo Tryz.underlying83 Tryz.sizeOf70 (by show some (Value.slice _ s.dn _) = some (Value.slice _ ls.length _); rw [hlen]) rfl ⟨hr, by omega⟩ rfl ?_
  exact WL.q
 apply DQ.step [(10, _)] rfl ⟨rfl, trivial⟩ rfl
 ·intro wq_11 kq_11
  replace hOo := hOo.chg kq_11 (by intro x h1 h2; exact h2)
  refine WL.load Tryz.isAgg70 rfl ((hOo.cellsAt hr) 0 _ rfl) rfl (WL.q)
 apply DQ.step [(3, _)] rfl ⟨rfl, trivial⟩ rfl (fun _ _ => WL.fieldAddr (fld_104_1) rfl rfl  WL.q)
 apply DQ.step [(12, _)] rfl ⟨rfl, trivial⟩ rfl
 ·intro wq_13 kq_13
  replace hb_1 := hb_1.chg kq_13 (by intro h1; have h2 : _ = _ := h1; exfalso; omega)
  refine WL.qb Tryz.isAgg3 hb_1 rfl rfl rfl (WL.q)
 apply DQ.step [(3, _)] rfl ⟨rfl, trivial⟩ rfl (fun _ _ => WL.fieldAddr (fld_104_2) rfl rfl  WL.q)
 apply DQ.step [(14, _)] rfl ⟨rfl, trivial⟩ rfl
 ·intro wq_15 kq_15
  replace hb_1 := hb_1.chg kq_15 (by intro h1; have h2 : _ = _ := h1; exfalso; omega)
  refine WL.qb Tryz.isAgg9 hb_1 rfl rfl rfl (WL.q)
 apply DQ.step [(11, _), (13, _)] rfl ⟨rfl, rfl, trivial⟩ rfl
 ·intro wq_16 kq_16
  refine WL.index (sz := 1) (j := a.toNat) Tryz.underlying70 Tryz.sizeOf9 rfl rfl (by omega) (by show a.toNat < rxs.length; omega) rfl ?_
  exact WL.q
 refine DQ.done (fun hd_3 => ?_)
 refine DL.step [(16, _), (15, _)] rfl ⟨rfl, rfl, trivial⟩ rfl (fun wq_17 kq_17 => ?_)
 replace hB := hB.pure kq_17
 replace hrow := hrow.pure kq_17
 replace hk6 := hk6.pure kq_17
 replace hd_3 := hd_3.pure kq_17
 refine WL.qx (z := bs b) (a.toNat) Tryz.sizeOf9 hrow rfl rfl rfl (by simp; done) (by omega) rfl ?_
 intro w_18 zs_18 nr_18 k_18
 replace hB := hB.chg k_18 (by intro h1; have h2 : _ = _ := h1; exfalso; omega)
 replace hk6 := hk6.chg k_18 (by intro x h1 h2; exact h2)
 replace hd_3 := hd_3.chg k_18 (by intro x h1 h2; exact h2)
 replace hrow := nr_18
 refine WL.nil (WX.qk (v := undef) ⟨hd_3, ?_⟩)
 refine DL.done (fun we_19 ke_19 => ?_)
 replace hB := hB.pure ke_19
 replace hrow := hrow.pure ke_19
 replace hk6 := hk6.pure ke_19
 refine WX.ql (.inr rfl) Tryz.results53 ?_
 have hL := hI.ld.set (f' := lf (putLast s (d, a) b)) hr hk6 hkg hrow (fun d' a' _ _ => putLast_lf d a hd0 ha0 b d' a')
 have hI2 := (hI.setLd hL hk6 (fun b' _ e => .inl (by rw [show b' = g from e]; exact hkg))).mono (S' := A) (fun x hx => hx.1)
 exact ⟨_, rfl, rfl, ⟨aD, putLast_ok hok _ hb, hwin, some ⟨go, 0, none⟩, lc, ls.set d.toNat ⟨some ⟨g, 0, none⟩, rc, rxs.set a.toNat (bs b)⟩, ga, gc, wa, wc, hB, hI2⟩, hw.chg hk6 (fun x _ hx => by rw [show x = g from hx]; exact hgA)⟩
def pS (s : RA) (kp : Nat → Bool) (i : Nat) : RA := { s with last := puts kp s.waits s.last i }
theorem pS_yes {s : RA} {kp : Nat → Bool} {i : Nat} {x : Pl × List UInt8} (hx : s.waits[i]? = some x) (hk : kp i = true) : pS s kp (i + 1) = putLast (pS s kp i) x.1 x.2 := by
 unfold pS putLast
 rw [puts_yes hx hk]
theorem pS_not {s : RA} {kp : Nat → Bool} {i : Nat} {x : Pl × List UInt8} (hx : s.waits[i]? = some x) (hk : kp i = false) : pS s kp (i + 1) = pS s kp i := by
 unfold pS
 rw [puts_not hx hk]
theorem puts_stop {V : Type} {kp : Nat → Bool} {ws l : List (Pl × V)} {i : Nat} (h : ∀ j, i ≤ j → j < ws.length → kp j = false) : ∀ n, i ≤ n → puts kp ws l n = puts kp ws l i
 |0, hn => by rw [show i = 0 from by omega]
 |n + 1, hn => by
  rcases Nat.lt_or_ge n i with h1 | h1
  ·rw [show n + 1 = i from by omega]
  ·rw [puts]
   have ih := puts_stop (ws := ws) (l := l) h n h1
   split
   ·rename_i x hx
    rw [h n h1 (List.getElem?_eq_some_iff.1 hx).1, if_neg (by decide)]
    exact ih
   ·exact ih
theorem RD.emptied {A : Nat → Prop} {w w' : World} {D : Nat} {t t' : RA} (h : RD A w D t) (e1 : t'.dn = t.dn) (e2 : t'.sn = t.sn) (e3 : t'.last = t.last) (e4 : t'.gone = t.gone) (e5 : t'.waits = []) (hok : t'.ok) {la ga wa : Option Addr} {lc gc wc : Nat} {ls : List Sr} (hB : Blk w D 87 (dcells t la t.dn lc ga gc wa wc)) (hI : DI A w la lc ls ga gc wa wc t.dn t.sn (lf t) t.gone t.waits)
 (k : Chg (· = D) w w') (hB' : Blk w' D 87 (dcells t' la t'.dn lc ga gc none 0)) : RD A w' D t' := by
 refine ⟨h.aD, hok, (fun p hp => by rw [e5] at hp; cases hp), la, lc, ls, ga, gc, none, 0, hB', ?_⟩
 have h1 := hI.own hB k
 have el : lf t' = lf t := by
  funext d a
  rw [lf, lf, lastS, lastS, e3]
 rw [e1, e2, e4, e5, el]
 exact ⟨h1.ld, h1.gone, Row.nil _ _ _ _⟩
set_option maxHeartbeats 2000000 in
theorem dFlush_calls {A : Nat → Prop} {w : World} {D : Nat} {s : RA} (h : RD A w D s) (hn : s.waits.length ≤ 1000000) :
 Calls Tryz.prog 12 [ptr D].toArray w (Ret fun v w' => v = vi (if offS s = true then 16 else 0) ∧ RD A w' D (flushS s) ∧ Chg A w w') := by
 have aD := h.aD
 have hok := h.ok
 have hwin := h.win
 have hfok := flushS_ok hok
 have hw := Chg.refl A w
 refine Calls.of_WC Tryz.func12 rfl Tryz.ntmps12 (by simp) ?_
 refine WC.sr (WL.assign rfl rfl (WL.t (WC.seq (WC.sr (WL.move rfl rfl (WL.call eg_52 rfl rfl (dSpend_calls h) ?_))))))
 rintro v w2 ⟨rfl, h2, k2, z2⟩
 replace hw := hw.chg k2 (by intro x h1 h2; exact h2)
 rcases ho : offS s with _ | _
 ·refine WL.not rfl rfl (WL.t (WC.qa rfl (WC.skip (WX.qa (WC.seq (WC.seq (WC.region (WL.assign rfl rfl (WL.t (WC.block (?_)))))))))))
  have h20 : RD A w2 D (pS (spendS s) (fun _ => true) 0) := h2
  refine WC.loop (σ := Nat) (fun i => [(0, ptr D), (3, vi i)])
   (fun i w' => i ≤ s.waits.length ∧ RD A w' D (pS (spendS s) (fun _ => true) i) ∧ Chg A w w') (fun i => s.waits.length - i) 0 ⟨rfl, rfl, trivial⟩ ⟨Nat.zero_le _, h20, hw⟩ ?_
  clear h2 h20 hw
  rintro i w3 ⟨hi, h2, hw⟩
  have hwe : (pS (spendS s) (fun _ => true) i).waits = s.waits := spendS_waits s
  obtain ⟨la, lc, ls, ga, gc, wa, wc, hB, hI⟩ := h2.ex
  have hB0 := hB
  have hI0 := hI
  refine WC.seq (WC.sr (WL.move rfl rfl (WL.move rfl rfl (WL.nilCheck rfl rfl (WL.fieldAddr (fld_87_2) rfl rfl (WL.qb Tryz.isAgg85 hB rfl rfl rfl (WL.len Tryz.underlying85 rfl rfl ?_)))))))
  rw [hwe]
  refine WL.qh rfl rfl rfl (fun h13 => ?_) (fun h13 => ?_)
  ·refine WL.t (WC.qb rfl (WC.skip (WX.qa (WC.seq (WC.block (WC.region (WL.move rfl rfl (WL.move rfl rfl (WL.nilCheck rfl rfl (WL.fieldAddr (fld_87_2) rfl rfl (WL.qb Tryz.isAgg85 hB rfl rfl rfl (WL.move rfl rfl (?_)))))))))))))
   obtain ⟨⟨⟨x1, x2⟩, xb⟩, hx⟩ : ∃ x, s.waits[i]? = some x := ⟨_, List.getElem?_eq_getElem (by omega)⟩
   have hx2 : (pS (spendS s) (fun _ => true) i).waits[i]? = some ((x1, x2), xb) := by rw [hwe]; exact hx
   refine WL.qg Tryz.underlying85 Tryz.sizeOf104 hI.waits.rsl rfl rfl ⟨hx2, rfl⟩ rfl ?_
   intro b_1 o_1 hc_1
   refine WL.qw _ Tryz.isAgg104 Tryz.sizeOf104 rfl hc_1 rfl rfl (?_)
   have hxi := hwin _ (List.mem_of_getElem? hx)
   have hxl := hok.lw _ (List.mem_of_getElem? hx)
   have hin : inS (pS (spendS s) (fun _ => true) i) x1 x2 := by
    show 0 ≤ _ ∧ _ < ((spendS s).dn : Int) ∧ 0 ≤ _ ∧ _ < ((spendS s).sn : Int)
    rw [spendS_dn, spendS_sn]
    exact hxi
   refine WL.call eg_53 rfl rfl (dLast_calls h2 hin hxl) ?_
   rintro v w4 ⟨rfl, h4, k4⟩
   replace hw := hw.trans k4 (fun _ _ h => h)
   rw [← pS_yes (x := ((x1, x2), xb)) (by show (spendS s).waits[i]? = _; rw [spendS_waits]; exact hx) rfl] at h4
   refine WL.nil (WX.qc (WX.qa (WC.region (WL.move rfl rfl (WL.qe rfl rfl (by omega) rfl (WL.assign rfl rfl (WL.nil (?_))))))))
   exact WX.qf (i + 1) ⟨rfl, rfl, trivial⟩ ⟨by omega, h4, hw⟩ (by show s.waits.length - (i + 1) < s.waits.length - i; omega)
  ·refine WL.t (WC.qa rfl (WC.exit (WX.qd (WX.qd (WX.qh (WX.qa (WC.sr (?_))))))))
   have hil : i = s.waits.length := by omega
   have hkD := Chg.refl (fun x => x = D) w3
   refine WL.move rfl rfl (WL.nilCheck rfl rfl (WL.fieldAddr (fld_87_2) rfl rfl (WL.store Tryz.sizeOf85 hB rfl rfl rfl rfl ?_)))
   intro w_1 hs_1 hn_1 k_1
   have zs_k_1 := k_1.size
   replace hkD := hkD.chg k_1 (by intro x h1 h2; exact h2)
   replace hB := hn_1
   refine WL.t (WC.sr (WL.assign rfl rfl (WL.t (WC.ret (WX.qg (.inl rfl) Tryz.results12 rfl ?_)))))
   have hfl : flushS s = { pS (spendS s) (fun _ => true) i with waits := [] } := by
    rw [flushS, if_neg (by rw [ho]; decide), hil]
    unfold pS
    rw [spendS_waits, spendS_last]
   refine ⟨_, rfl, rfl, ?_, hw.chg hkD (fun x _ hx => by rw [show x = D from hx]; exact aD)⟩
   rw [hfl] at hfok ⊢
   exact h2.emptied rfl rfl rfl rfl rfl hfok hB0 hI0 hkD hB
 ·refine WL.not rfl rfl (WL.t (WC.qb rfl (WC.sr (WL.assign rfl rfl (WL.nil (WX.qa (WC.ret (WX.qb (WX.qg (.inl rfl) Tryz.results12 rfl ?_)))))))))
  exact ⟨_, rfl, rfl, by rw [flushS, if_pos ho]; exact h2, hw⟩
theorem dArm_calls {A : Nat → Prop} {w : World} {D : Nat} {s : RA} (h : RD A w D s) (n : Int) (hn : -9223372036854775808 ≤ n ∧ n ≤ 9223372036854775807) :
 Calls Tryz.prog 25 [ptr D, vi n].toArray w (Ret fun v w' => v = .tuple #[] ∧ RD A w' D (armS s n) ∧ Chg A w w') := by
 have aD := h.aD
 have hok := armS_ok h.ok hn
 have hwin := h.win
 obtain ⟨la, lc, ls, ga, gc, wa, wc, hB, hI⟩ := h.ex
 have hB0 := hB
 have hkD := Chg.refl (fun x => x = D) w
 refine Calls.of_WC Tryz.func25 rfl Tryz.ntmps25 (by simp) ?_
 refine WC.region (WL.move rfl rfl (WL.move rfl rfl (WL.maxi rfl rfl rfl ?_)))
 refine WL.nilCheck rfl rfl (WL.fieldAddr (fld_87_4) rfl rfl (WL.store Tryz.sizeOf3 hB rfl rfl rfl rfl ?_))
 intro w_1 hs_1 hn_1 k_1
 replace hkD := hkD.chg k_1 (by intro x h1 h2; exact h2)
 replace hB := hn_1
 refine WL.nil (WX.ql (.inr rfl) Tryz.results25 ?_)
 refine ⟨_, rfl, rfl, ⟨aD, hok, hwin, la, lc, ls, ga, gc, wa, wc, ?_, hI.own hB0 hkD⟩, hkD.mono (fun x _ hx => by rw [show x = D from hx]; exact aD)⟩
 have e : armD (armS s n) = if -1 > n then -1 else n := by
  unfold armD armS
  by_cases h1 : 0 ≤ n
  ·rw [if_pos (by simpa using h1), if_neg (by omega)]
  ·rw [if_neg (by simpa using h1)]
   split <;> omega
 show Blk _ D 87 [.slice la s.dn lc, .slice ga s.gone.length gc, .slice wa s.waits.length wc, .bool s.off, vi (armD (armS s n))]
 rw [e]
 exact hB
set_option maxHeartbeats 2000000 in
theorem dCrash_calls {A S : Nat → Prop} {w : World} {D : Nat} {s : RA} (h : RD A w D s) (hn : s.waits.length ≤ 1000000) {ao : Option Addr} {c : Nat} {ps : List Int} (hp : RSl S w ei ao c ps) (hS : ∀ x, S x → A x → False) :
 Calls Tryz.prog 14 [ptr D, .slice ao ps.length c].toArray w (Ret fun v w' => v = .tuple #[] ∧ RD A w' D (crashS s ps) ∧ Chg A w w') := by
 have aD := h.aD
 have hok := h.ok
 have hwin := h.win
 have hcok := crashS_ok hok ps
 have hw := Chg.refl A w
 refine Calls.of_WC Tryz.func14 rfl Tryz.ntmps14 (by simp) ?_
 refine WC.seq (WC.sr (WL.assign rfl rfl (WL.t (WC.block (?_)))))
 have h20 : RD A w D (pS s (keep ps) 0) := h
 refine WC.loop (σ := Nat) (fun i => [(0, ptr D), (1, .slice ao ps.length c), (4, vi i)])
  (fun i w' => i ≤ s.waits.length ∧ RD A w' D (pS s (keep ps) i) ∧ RSl S w' ei ao c ps ∧ Chg A w w') (fun i => s.waits.length - i) 0 ⟨rfl, rfl, rfl, trivial⟩ ⟨Nat.zero_le _, h20, hp, hw⟩ ?_
 clear h h20 hp hw
 rintro i w3 ⟨hi, h2, hp, hw⟩
 obtain ⟨la, lc, ls, ga, gc, wa, wc, hB, hI⟩ := h2.ex
 have hB0 := hB
 have hI0 := hI
 have hkD := Chg.refl (fun x => x = D) w3
 refine WC.seq (WC.sr (WL.move rfl rfl (WL.move rfl rfl (WL.nilCheck rfl rfl (WL.fieldAddr (fld_87_2) rfl rfl (WL.qb Tryz.isAgg85 hB rfl rfl rfl (WL.len Tryz.underlying85 rfl rfl ?_)))))))
 rw [show (pS s (keep ps) i).waits = s.waits from rfl]
 refine WL.qh rfl rfl rfl (fun h11 => ?_) (fun h11 => ?_)
 ·refine WL.move rfl rfl (WL.qa rfl rfl rfl (WL.move rfl rfl (WL.qa rfl rfl rfl (WL.move rfl rfl (WL.qa rfl rfl rfl (WL.len Tryz.underlying32 rfl rfl (WL.qa rfl rfl rfl (WL.qh rfl rfl rfl (fun h16 => ?_) (fun h16 => ?_)))))))))
  ·refine WL.qd rfl rfl rfl (WL.t (WC.qb rfl (WC.skip (WX.qa (WC.seq (WC.block (WC.sr (WL.move rfl rfl (WL.move rfl rfl (?_))))))))))
   obtain ⟨⟨⟨x1, x2⟩, xb⟩, hx⟩ : ∃ x, s.waits[i]? = some x := ⟨_, List.getElem?_eq_getElem (by omega)⟩
   obtain ⟨q, hq⟩ : ∃ q, ps[i]? = some q := ⟨_, List.getElem?_eq_getElem (by omega)⟩
   refine WL.qg Tryz.underlying32 Tryz.sizeOf3 hp rfl rfl ⟨hq, rfl⟩ rfl ?_
   intro b_1 o_1 hc_1
   refine WL.load Tryz.isAgg3 rfl (hc_1 0 _ rfl) rfl (WL.remk rfl rfl (by decide) rfl ?_)
   by_cases hq2 : q % 2 = 1
   ·have hkp : keep ps i = true := by rw [keep, hq]; exact decide_eq_true hq2
    refine WL.neqT rfl rfl rfl ((tmod_two q).2 hq2) (WL.t (WC.qb rfl (WC.region (WL.move rfl rfl (WL.move rfl rfl (WL.nilCheck rfl rfl (WL.fieldAddr (fld_87_2) rfl rfl (WL.qb Tryz.isAgg85 hB rfl rfl rfl (WL.move rfl rfl (WL.qg Tryz.underlying85 Tryz.sizeOf104 hI.waits.rsl rfl rfl ⟨hx, rfl⟩ rfl ?_))))))))))
    intro b_2 o_2 hc_2
    refine WL.qw _ Tryz.isAgg104 Tryz.sizeOf104 rfl hc_2 rfl rfl (?_)
    have hxi := hwin _ (List.mem_of_getElem? hx)
    have hxl := hok.lw _ (List.mem_of_getElem? hx)
    have hin : inS (pS s (keep ps) i) x1 x2 := hxi
    refine WL.call eg_53 rfl rfl (dLast_calls h2 hin hxl) ?_
    rintro v w4 ⟨rfl, h4, k4⟩
    replace hw := hw.trans k4 (fun _ _ h => h)
    replace hp := hp.chg k4 (fun x _ h1 h3 => hS x h1 h3)
    rw [← pS_yes (x := ((x1, x2), xb)) hx hkp] at h4
    refine WL.nil (WX.qc (WX.qa (WC.region (WL.move rfl rfl (WL.qe rfl rfl (by omega) rfl (WL.assign rfl rfl (WL.nil (?_))))))))
    exact WX.qf (i + 1) ⟨rfl, rfl, rfl, trivial⟩ ⟨by omega, h4, hp, hw⟩ (by show s.waits.length - (i + 1) < s.waits.length - i; omega)
   ·have hkp : keep ps i = false := by rw [keep, hq]; exact decide_eq_false hq2
    refine WL.qs rfl rfl rfl ((Decidable.not_not.1 (fun h => hq2 ((tmod_two q).1 h)))) (WL.t (WC.qa rfl (WC.skip (WX.qc (WX.qa (WC.region (WL.move rfl rfl (WL.qe rfl rfl (by omega) rfl (WL.assign rfl rfl (WL.nil (?_)))))))))))
    rw [← pS_not hx hkp] at h2
    exact WX.qf (i + 1) ⟨rfl, rfl, rfl, trivial⟩ ⟨by omega, h2, hp, hw⟩ (by show s.waits.length - (i + 1) < s.waits.length - i; omega)
  ·refine WL.qd rfl rfl rfl (WL.t (WC.qa rfl (WC.exit (WX.qd (WX.qd (WX.qh (WX.qa (WC.region (WL.move rfl rfl ?_)))))))))
   refine WL.move rfl rfl (WL.move rfl rfl (WL.nilCheck rfl rfl (WL.fieldAddr (fld_87_2) rfl rfl (WL.store Tryz.sizeOf85 hB rfl rfl rfl rfl ?_))))
   intro w_1 hs_1 hn_1 k_1
   have zs_k_1 := k_1.size
   replace hkD := hkD.chg k_1 (by intro x h1 h2; exact h2)
   replace hB := hn_1
   refine WL.nilCheck rfl rfl (WL.fieldAddr (fld_87_3) rfl rfl (WL.store Tryz.sizeOf4 hB rfl rfl rfl rfl ?_))
   intro w_2 hs_2 hn_2 k_2
   have zs_k_2 := k_2.size
   replace hkD := hkD.chg k_2 (by intro x h1 h2; exact h2)
   replace hB := hn_2
   refine WL.nilCheck rfl rfl (WL.fieldAddr (fld_87_4) rfl rfl (WL.store Tryz.sizeOf3 hB rfl rfl rfl rfl ?_))
   intro w_3 hs_3 hn_3 k_3
   have zs_k_3 := k_3.size
   replace hkD := hkD.chg k_3 (by intro x h1 h2; exact h2)
   replace hB := hn_3
   refine WL.nil (WX.ql (.inr rfl) Tryz.results14 ?_)
   have hfl : crashS s ps = { pS s (keep ps) i with waits := [], off := false, armed := false } := by
    unfold crashS pS
    rw [puts_stop (i := i) (kp := keep ps) (fun j hj hj2 => by rw [keep, List.getElem?_eq_none (by omega)]) s.waits.length hi]
   refine ⟨_, rfl, rfl, ?_, hw.chg hkD (fun x _ hx => by rw [show x = D from hx]; exact aD)⟩
   rw [hfl] at hcok ⊢
   exact h2.emptied rfl rfl rfl rfl rfl hcok hB0 hI0 hkD hB
 ·refine WL.move rfl rfl (WL.pass rfl rfl rfl rfl (WL.pass rfl rfl rfl rfl (WL.pass rfl rfl rfl rfl (WL.pass rfl rfl rfl rfl (WL.qc rfl rfl rfl (WL.t (WC.qa rfl (WC.exit (WX.qd (WX.qd (WX.qh (WX.qa (WC.region (WL.move rfl rfl ?_))))))))))))))
  refine WL.move rfl rfl (WL.move rfl rfl (WL.nilCheck rfl rfl (WL.fieldAddr (fld_87_2) rfl rfl (WL.store Tryz.sizeOf85 hB rfl rfl rfl rfl ?_))))
  intro w_1 hs_1 hn_1 k_1
  have zs_k_1 := k_1.size
  replace hkD := hkD.chg k_1 (by intro x h1 h2; exact h2)
  replace hB := hn_1
  refine WL.nilCheck rfl rfl (WL.fieldAddr (fld_87_3) rfl rfl (WL.store Tryz.sizeOf4 hB rfl rfl rfl rfl ?_))
  intro w_2 hs_2 hn_2 k_2
  have zs_k_2 := k_2.size
  replace hkD := hkD.chg k_2 (by intro x h1 h2; exact h2)
  replace hB := hn_2
  refine WL.nilCheck rfl rfl (WL.fieldAddr (fld_87_4) rfl rfl (WL.store Tryz.sizeOf3 hB rfl rfl rfl rfl ?_))
  intro w_3 hs_3 hn_3 k_3
  have zs_k_3 := k_3.size
  replace hkD := hkD.chg k_3 (by intro x h1 h2; exact h2)
  replace hB := hn_3
  refine WL.nil (WX.ql (.inr rfl) Tryz.results14 ?_)
  have hfl : crashS s ps = { pS s (keep ps) i with waits := [], off := false, armed := false } := by
   unfold crashS pS
   rw [puts_stop (i := i) (kp := keep ps) (fun j hj hj2 => by rw [keep, List.getElem?_eq_none (by omega)]) s.waits.length hi]
  refine ⟨_, rfl, rfl, ?_, hw.chg hkD (fun x _ hx => by rw [show x = D from hx]; exact aD)⟩
  rw [hfl] at hcok ⊢
  exact h2.emptied rfl rfl rfl rfl rfl hcok hB0 hI0 hkD hB
end Go.Proofs.YtjeldcjchipdgaaGreatDoor
