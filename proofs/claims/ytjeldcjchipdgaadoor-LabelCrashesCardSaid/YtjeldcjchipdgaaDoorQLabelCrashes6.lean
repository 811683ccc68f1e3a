import Derived.Test.YtjeldcjchipdgaaDoorQLabelCrashes5
namespace Go.Proofs.YtjeldcjchipdgaaDoor
open Go.RowKit Go.HL
set_option maxRecDepth 100000

/-! pointers -/
structure PtrV where
  a : Int
  z : Int
  b : Int
  s : ByteArray
theorem PtrV.eq_iff (p q : PtrV) : (p.a = q.a ∧ p.z = q.z ∧ p.b = q.b ∧ p.s = q.s) ↔ p = q := by
  obtain ⟨a, z, b, s⟩ := p
  obtain ⟨a2, z2, b2, s2⟩ := q
  simp
instance : DecidableEq PtrV := fun a b => decidable_of_iff _ (PtrV.eq_iff a b)
def ept : Enc PtrV := ⟨4, fun p => [vi p.a, vi p.z, vi p.b, .string p.s], fun _ => rfl, by simp [Value.oneCell'], by decide⟩
def WfP (p : PtrV) : Prop := (-9223372036854775808 ≤ p.a ∧ p.a ≤ 9223372036854775807) ∧ (-9223372036854775808 ≤ p.z ∧ p.z ≤ 9223372036854775807) ∧ (-9223372036854775808 ≤ p.b ∧ p.b ≤ 9223372036854775807)
theorem eqg_ptr : Tryd.prog.eqGuardType Tryd.prog.depth 23 = false := by kernel_rfl
theorem eq_ptr (a b : PtrV) (w : World) : (Op.equalIn 10000 23 (.agg (ept.f a).toArray) (.agg (ept.f b).toArray)).run Tryd.prog w = .ok (decide (a = b)) w := by
  refine eqA_of (d := 9999) Tryd.underlying23 (by kernel_rfl) ?_
  have h3 : (decide (a.a = b.a) && (decide (a.z = b.z) && (decide (a.b = b.b) && (decide (a.s = b.s) && true)))) = decide (a = b) := by
    have : decide (a = b) = decide (a.a = b.a ∧ a.z = b.z ∧ a.b = b.b ∧ a.s = b.s) := decide_eq_decide.2 (PtrV.eq_iff a b).symm
    rw [this]
    simp [Bool.decide_and]
  rw [← h3]
  refine eqf_cons rfl (part1 Tryd.sizeOf3 Tryd.isAgg3 rfl) (part1 Tryd.sizeOf3 Tryd.isAgg3 rfl) (run_equalIn_int w 9998 _ _ _ _ _ Tryd.underlying3) ?_
  refine eqf_cons rfl (part1 Tryd.sizeOf3 Tryd.isAgg3 rfl) (part1 Tryd.sizeOf3 Tryd.isAgg3 rfl) (run_equalIn_int w 9998 _ _ _ _ _ Tryd.underlying3) ?_
  refine eqf_cons rfl (part1 Tryd.sizeOf3 Tryd.isAgg3 rfl) (part1 Tryd.sizeOf3 Tryd.isAgg3 rfl) (run_equalIn_int w 9998 _ _ _ _ _ Tryd.underlying3) ?_
  refine eqf_cons rfl (part1 Tryd.sizeOf9 Tryd.isAgg9 rfl) (part1 Tryd.sizeOf9 Tryd.isAgg9 rfl) (by rw [← beq_bytes]; exact run_equalIn_string w 9998 _ _ _ Tryd.underlying9) eqf_nil

def rightP (p : PtrV) : Prop := 0 ≤ p.a ∧ 0 ≤ p.b ∧ 1 ≤ p.z ∧ p.z ≤ 1024 ∧ p.s.size = 32
instance (p : PtrV) : Decidable (rightP p) := by unfold rightP; infer_instance
def pit (p : PtrV) : List Item := [⟨1, p.a, ⟨#[]⟩⟩, ⟨1, p.z, ⟨#[]⟩⟩, ⟨1, p.b, ⟨#[]⟩⟩, ⟨2, 0, p.s⟩]
theorem pit_good {p : PtrV} (h : rightP p) (hw : WfP p) : ∀ i ∈ pit p, Good i := by
  obtain ⟨h1, h2, h3, h4, h5⟩ := h
  obtain ⟨w1, w2, w3⟩ := hw
  intro i hi
  simp only [pit, List.mem_cons, List.not_mem_nil, or_false] at hi
  rcases hi with rfl | rfl | rfl | rfl
  · exact ⟨by simp [longI], by simp [okI], w1⟩
  · exact ⟨by simp [longI], by simp [okI], w2⟩
  · exact ⟨by simp [longI], by simp [okI], w3⟩
  · exact ⟨by simp [longI]; omega, by simp [okI], ⟨show (-9223372036854775808 : Int) ≤ 0 by decide, show (0 : Int) ≤ 9223372036854775807 by decide⟩⟩
theorem pit_check {p : PtrV} (h : rightP p) (hw : WfP p) : checkE (pit p) = 0 := icheck_good (by simp [pit]) (pit_good h hw)
def ptrS (p : PtrV) : ByteArray := if rightP p then ⟨(encAll (pit p)).toArray⟩ else ⟨#[]⟩
def ptrE (p : PtrV) : Int := if rightP p then 0 else 2

theorem ptr_calls (p : PtrV) (w : World) (hw : WfP p) : Calls Tryd.prog 36 [.agg (ept.f p).toArray].toArray w (Ret fun v w' => v = .tuple #[.string (ptrS p), vi (ptrE p)] ∧ Chg Nob w w') := by
  have kk := Chg.refl Nob w
  refine Calls.of_WC Tryd.func36 rfl Tryd.ntmps36 (by simp) ?_
  refine WC.seq (WC.region (?_))
  refine WL.box rfl rfl ?_
  intro g_1 w_1 hge_1 hlt_1 hb_1 k_1
  have zs_k_1 := k_1.size
  replace kk := kk.pure k_1
  refine WL.assign rfl rfl (WL.assign rfl rfl (WL.nil (WX.then_normal (WC.seq (WC.seq (WC.region (WL.fieldAddr (fld_23_0) rfl rfl (?_))))))))
  refine WL.loadB Tryd.isAgg3 hb_1 rfl rfl rfl (?_)
  refine WL.lss? rfl rfl rfl (fun h8 => ?_) (fun h8 => ?_)
  ·
    refine WL.move rfl rfl (WL.pass rfl rfl rfl rfl (WL.pass rfl rfl rfl rfl (WL.pass rfl rfl rfl rfl (WL.pickT rfl rfl rfl (WL.move rfl rfl (WL.pass rfl rfl rfl rfl (WL.pass rfl rfl rfl rfl (?_))))))))
    refine WL.pass rfl rfl rfl rfl (WL.pickT rfl rfl rfl (WL.move rfl rfl (WL.pass rfl rfl rfl rfl (WL.pass rfl rfl rfl rfl (WL.pass rfl rfl rfl rfl (WL.pickT rfl rfl rfl (WL.move rfl rfl (?_))))))))
    refine WL.pass rfl rfl rfl rfl (WL.pass rfl rfl rfl rfl (WL.pass rfl rfl rfl rfl (WL.pass rfl rfl rfl rfl (WL.pickT rfl rfl rfl (WL.nil (WX.then_normal (WC.cond_true rfl (?_))))))))
    refine WC.seq (WC.region (WL.assign rfl rfl (WL.assign rfl rfl (WL.nil (WX.then_normal (WC.ret (WX.then_ret (?_))))))))
    refine WX.ret2 (.inl rfl) Tryd.results36 rfl rfl ?_
    first
      | (have hr : ¬ rightP p := by unfold rightP; omega
         refine ⟨_, rfl, ?_, kk⟩
         rw [ptrS, ptrE, if_neg hr, if_neg hr])
      | (refine ⟨_, rfl, ?_, kk⟩
         rw [ptrS, ptrE, if_pos hr, if_pos hr]
         rfl)
  ·
    refine WL.move rfl rfl (WL.want rfl rfl rfl (WL.fieldAddr (fld_23_2) rfl rfl (WL.want rfl rfl rfl (WL.loadB Tryd.isAgg3 hb_1 rfl rfl rfl (WL.want rfl rfl rfl (?_))))))
    refine WL.lss? rfl rfl rfl (fun h12 => ?_) (fun h12 => ?_)
    ·
      refine WL.pickF rfl rfl rfl (WL.move rfl rfl (WL.pass rfl rfl rfl rfl (WL.pass rfl rfl rfl rfl (WL.pass rfl rfl rfl rfl (WL.pickT rfl rfl rfl (WL.move rfl rfl (WL.pass rfl rfl rfl rfl (?_))))))))
      refine WL.pass rfl rfl rfl rfl (WL.pass rfl rfl rfl rfl (WL.pickT rfl rfl rfl (WL.move rfl rfl (WL.pass rfl rfl rfl rfl (WL.pass rfl rfl rfl rfl (WL.pass rfl rfl rfl rfl (WL.pass rfl rfl rfl rfl (?_))))))))
      refine WL.pickT rfl rfl rfl (WL.nil (WX.then_normal (WC.cond_true rfl (WC.seq (WC.region (WL.assign rfl rfl (WL.assign rfl rfl (?_))))))))
      refine WL.nil (WX.then_normal (WC.ret (WX.then_ret (?_))))
      refine WX.ret2 (.inl rfl) Tryd.results36 rfl rfl ?_
      first
        | (have hr : ¬ rightP p := by unfold rightP; omega
           refine ⟨_, rfl, ?_, kk⟩
           rw [ptrS, ptrE, if_neg hr, if_neg hr])
        | (refine ⟨_, rfl, ?_, kk⟩
           rw [ptrS, ptrE, if_pos hr, if_pos hr]
           rfl)
    ·
      refine WL.pickF rfl rfl rfl (WL.move rfl rfl (WL.want rfl rfl rfl (WL.fieldAddr (fld_23_1) rfl rfl (WL.want rfl rfl rfl (WL.loadB Tryd.isAgg3 hb_1 rfl rfl rfl (WL.want rfl rfl rfl (?_)))))))
      refine WL.lss? rfl rfl rfl (fun h17 => ?_) (fun h17 => ?_)
      ·
        refine WL.pickF rfl rfl rfl (WL.move rfl rfl (WL.pass rfl rfl rfl rfl (WL.pass rfl rfl rfl rfl (WL.pass rfl rfl rfl rfl (WL.pickT rfl rfl rfl (WL.move rfl rfl (WL.pass rfl rfl rfl rfl (?_))))))))
        refine WL.pass rfl rfl rfl rfl (WL.pass rfl rfl rfl rfl (WL.pass rfl rfl rfl rfl (WL.pickT rfl rfl rfl (WL.nil (WX.then_normal (WC.cond_true rfl (WC.seq (?_))))))))
        refine WC.region (WL.assign rfl rfl (WL.assign rfl rfl (WL.nil (WX.then_normal (WC.ret (WX.then_ret (?_)))))))
        refine WX.ret2 (.inl rfl) Tryd.results36 rfl rfl ?_
        first
          | (have hr : ¬ rightP p := by unfold rightP; omega
             refine ⟨_, rfl, ?_, kk⟩
             rw [ptrS, ptrE, if_neg hr, if_neg hr])
          | (refine ⟨_, rfl, ?_, kk⟩
             rw [ptrS, ptrE, if_pos hr, if_pos hr]
             rfl)
      ·
        refine WL.pickF rfl rfl rfl (WL.move rfl rfl (WL.want rfl rfl rfl (WL.fieldAddr (fld_23_1) rfl rfl (WL.want rfl rfl rfl (WL.loadB Tryd.isAgg3 hb_1 rfl rfl rfl (WL.want rfl rfl rfl (?_)))))))
        refine WL.gtr? rfl rfl rfl (fun h22 => ?_) (fun h22 => ?_)
        ·
          refine WL.pickF rfl rfl rfl (WL.move rfl rfl (WL.pass rfl rfl rfl rfl (WL.pass rfl rfl rfl rfl (WL.pass rfl rfl rfl rfl (WL.pass rfl rfl rfl rfl (WL.pickT rfl rfl rfl (WL.nil (?_))))))))
          refine WX.then_normal (WC.cond_true rfl (WC.seq (WC.region (WL.assign rfl rfl (WL.assign rfl rfl (WL.nil (WX.then_normal (?_))))))))
          refine WC.ret (WX.then_ret (?_))
          refine WX.ret2 (.inl rfl) Tryd.results36 rfl rfl ?_
          first
            | (have hr : ¬ rightP p := by unfold rightP; omega
               refine ⟨_, rfl, ?_, kk⟩
               rw [ptrS, ptrE, if_neg hr, if_neg hr])
            | (refine ⟨_, rfl, ?_, kk⟩
               rw [ptrS, ptrE, if_pos hr, if_pos hr]
               rfl)
        ·
          refine WL.pickF rfl rfl rfl (WL.move rfl rfl (WL.want rfl rfl rfl (WL.fieldAddr (fld_23_3) rfl rfl (WL.want rfl rfl rfl (WL.loadB Tryd.isAgg9 hb_1 rfl rfl rfl (WL.want rfl rfl rfl (WL.lens Tryd.underlying9 rfl rfl (?_))))))))
          refine WL.want rfl rfl rfl (?_)
          refine WL.neq? rfl rfl rfl (fun h28 => ?_) (fun h28 => ?_)
          ·
            refine WL.pickF rfl rfl rfl (WL.nil (WX.then_normal (WC.cond_true rfl (WC.seq (WC.region (WL.assign rfl rfl (WL.assign rfl rfl (?_))))))))
            refine WL.nil (WX.then_normal (WC.ret (WX.then_ret (?_))))
            refine WX.ret2 (.inl rfl) Tryd.results36 rfl rfl ?_
            first
              | (have hr : ¬ rightP p := by unfold rightP; omega
                 refine ⟨_, rfl, ?_, kk⟩
                 rw [ptrS, ptrE, if_neg hr, if_neg hr])
              | (refine ⟨_, rfl, ?_, kk⟩
                 rw [ptrS, ptrE, if_pos hr, if_pos hr]
                 rfl)
          ·
            refine WL.pickF rfl rfl rfl (WL.nil (WX.then_normal (WC.cond_false rfl (WC.skip (WX.then_normal (WC.seq (WC.region (?_))))))))
            refine WL.fieldAddr (fld_23_0) rfl rfl (WL.loadB Tryd.isAgg3 hb_1 rfl rfl rfl (WL.bld rfl (bld_75_0_1 _ _) rfl (WL.fieldAddr (fld_23_1) rfl rfl (WL.loadB Tryd.isAgg3 hb_1 rfl rfl rfl (WL.bld rfl (bld_75_0_1 _ _) rfl (WL.fieldAddr (fld_23_2) rfl rfl (WL.loadB Tryd.isAgg3 hb_1 rfl rfl rfl (?_))))))))
            refine WL.bld rfl (bld_75_0_1 _ _) rfl (WL.fieldAddr (fld_23_3) rfl rfl (WL.loadB Tryd.isAgg9 hb_1 rfl rfl rfl (WL.bld rfl (bld_75_0_2 _ _) rfl (?_))))
            have hr : rightP p := by unfold rightP; omega
            refine WL.build (e := eit) [⟨1, p.a, ⟨#[]⟩⟩, ⟨1, p.z, ⟨#[]⟩⟩, ⟨1, p.b, ⟨#[]⟩⟩, ⟨2, 0, p.s⟩] Tryd.underlying76 Tryd.sizeOf75 Tryd.zeroValue75 rfl rfl rfl (by first | (simp [Value.cells]; done) | (simp [Value.cells] <;> rfl) | (simp [Value.cells, eb, ei, es, ebool, e32, e64]; done) | (simp [Value.cells] <;> (repeat' apply And.intro) <;> rfl)) (by decide) rfl ?_
            intro a_ha w_ha ha l_ha z_ha k_ha
            have zs_k_ha := k_ha.size
            replace kk := kk.pure k_ha
            replace hb_1 := hb_1.pure k_ha
            refine WL.call eg_64 rfl rfl (encode_calls ha.rsl (by simp)) ?_
            rintro v w2 ⟨ax, cx, rfl, hx, k2⟩
            rw [show checkE [⟨1, p.a, ⟨#[]⟩⟩, ⟨1, p.z, ⟨#[]⟩⟩, ⟨1, p.b, ⟨#[]⟩⟩, ⟨2, 0, p.s⟩] = 0 from pit_check hr hw] at hx ⊢
            rw [if_pos rfl] at hx ⊢
            have zs_k2 := k2.size
            replace kk := kk.pure k2
            replace hb_1 := hb_1.pure k2
            replace ha := ha.pure k2
            replace hx := hx.lt
            refine WL.move rfl rfl (WL.extract rfl rfl rfl (WL.extract rfl rfl rfl (WL.assign rfl rfl (WL.assign rfl rfl (WL.nil (WX.then_normal (WC.seq (?_))))))))
            refine WC.region (WL.move rfl rfl (WL.toStr Tryd.underlying26 Tryd.underlying5 Tryd.underlying9 hx.rsl rfl rfl (WL.move rfl rfl (WL.assign rfl rfl (WL.assign rfl rfl (WL.nil (WX.then_normal (?_))))))))
            refine WC.ret (?_)
            refine WX.ret2 (.inl rfl) Tryd.results36 rfl rfl ?_
            first
              | (have hr : ¬ rightP p := by unfold rightP; omega
                 refine ⟨_, rfl, ?_, kk⟩
                 rw [ptrS, ptrE, if_neg hr, if_neg hr])
              | (refine ⟨_, rfl, ?_, kk⟩
                 rw [ptrS, ptrE, if_pos hr, if_pos hr]
                 rfl)
end Go.Proofs.YtjeldcjchipdgaaDoor
namespace Go.Proofs.YtjeldcjchipdgaaDoor
open Go.RowKit Go.HL
set_option maxRecDepth 100000

def zeroP : PtrV := ⟨0, 0, 0, ⟨#[]⟩⟩
def ptr4 (i0 i1 i2 i3 : Item) : PtrV := ⟨i0.n, i1.n, i2.n, i3.s⟩
def unpR (s : ByteArray) : PtrV × Int :=
  match decL s.data.toList with
  | [i0, i1, i2, i3] => if decE s.data.toList = 0 ∧ (i0.kind = 1 ∧ i1.kind = 1 ∧ i2.kind = 1 ∧ i3.kind = 2) ∧ rightP (ptr4 i0 i1 i2 i3) then (ptr4 i0 i1 i2 i3, 0) else (zeroP, 2)
  | _ => (zeroP, 2)
theorem unpR_four {s : ByteArray} {i0 i1 i2 i3 : Item} (h : decL s.data.toList = [i0, i1, i2, i3]) : unpR s = if decE s.data.toList = 0 ∧ (i0.kind = 1 ∧ i1.kind = 1 ∧ i2.kind = 1 ∧ i3.kind = 2) ∧ rightP (ptr4 i0 i1 i2 i3) then (ptr4 i0 i1 i2 i3, 0) else (zeroP, 2) := by
  unfold unpR
  rw [h]
theorem unpR_bad {s : ByteArray} (h : decE s.data.toList ≠ 0 ∨ (decL s.data.toList).length ≠ 4) : unpR s = (zeroP, 2) := by
  unfold unpR
  split
  · rename_i hl
    rcases h with h | h
    · rw [if_neg (fun x => h x.1)]
    · rw [hl] at h; exact absurd rfl h
  · rfl
theorem four {l : List Item} (h : l.length = 4) : ∃ i0 i1 i2 i3, l = [i0, i1, i2, i3] := by
  match l, h with
  | [a, b, c, d], _ => exact ⟨a, b, c, d, rfl⟩
theorem decE_items {b : List UInt8} (h : decE b = 0) : ∀ i ∈ decL b, Good i := (dec_spec b.length b (Nat.le_refl _) 0 (decL b) (by omega) (decE_zero h)).2.1
theorem four_wf {b : List UInt8} {i0 i1 i2 i3 : Item} (h : decE b = 0) (hL : decL b = [i0, i1, i2, i3]) : WfP (ptr4 i0 i1 i2 i3) := by
  have hg := decE_items h
  rw [hL] at hg
  exact ⟨(hg i0 (by simp)).2.2, (hg i1 (by simp)).2.2, (hg i2 (by simp)).2.2⟩
theorem unp_ptr {p : PtrV} (hr : rightP p) (hw : WfP p) : unpR (ptrS p) = (p, 0) := by
  have e : (ptrS p).data.toList = encAll (pit p) := by rw [ptrS, if_pos hr]
  have hp := pit_check hr hw
  have hL : decL (ptrS p).data.toList = pit p := by rw [e]; exact decL_enc hp (fun i hi => (pit_good hr hw i hi).2.2)
  have hE : decE (ptrS p).data.toList = 0 := by rw [e]; exact decE_enc hp (fun i hi => (pit_good hr hw i hi).2.2)
  have h4 := unpR_four (s := ptrS p) (i0 := ⟨1, p.a, ⟨#[]⟩⟩) (i1 := ⟨1, p.z, ⟨#[]⟩⟩) (i2 := ⟨1, p.b, ⟨#[]⟩⟩) (i3 := ⟨2, 0, p.s⟩) hL
  rw [h4, if_pos ⟨hE, ⟨rfl, rfl, rfl, rfl⟩, hr⟩]
  rfl

theorem unptr_calls (s : ByteArray) (w : World) (hs : s.size ≤ 140737488351232) : Calls Tryd.prog 41 [.string s].toArray w (Ret fun v w' => v = .tuple #[.agg (ept.f (unpR s).1).toArray, vi (unpR s).2] ∧ Chg Nob w w') := by
  have kk := Chg.refl Nob w
  refine Calls.of_WC Tryd.func41 rfl Tryd.ntmps41 (by simp) ?_
  refine WC.seq (WC.region (?_))
  refine WL.alloc Tryd.zeroValue23 rfl ?_
  intro g_1 w_1 hge_1 hlt_1 hb_1 k_1
  have zs_k_1 := k_1.size
  replace kk := kk.pure k_1
  refine WL.assign rfl rfl (WL.nil (WX.then_normal (WC.seq (WC.region (WL.move rfl rfl (?_))))))
  refine WL.toBytes Tryd.underlying9 Tryd.underlying26 Tryd.underlying5 rfl (by omega) rfl ?_
  intro a_hb c_hb w_hb hb k_hb z_hb
  have zs_k_hb := k_hb.size
  replace kk := kk.pure k_hb
  replace hb_1 := hb_1.pure k_hb
  have hb2 := hb.rsl.old
  refine WL.call eg_70 rfl rfl (decode_calls' hb2 (by simpa using hs)) ?_
  rintro v w4 ⟨⟨ak, ck, rfl, hk⟩, k4⟩
  have zs_k4 := k4.size
  replace kk := kk.pure k4
  replace hb_1 := hb_1.pure k4
  replace hk := hk.lt
  refine WL.move rfl rfl (WL.extract rfl rfl rfl (WL.extract rfl rfl rfl (WL.assign rfl rfl (WL.assign rfl rfl (WL.nil (WX.then_normal (WC.seq (?_))))))))
  refine WC.seq (WC.region (WL.move rfl rfl (?_)))
  refine WL.neq? rfl rfl rfl (fun h16 => ?_) (fun h16 => ?_)
  ·
    refine WL.move rfl rfl (WL.pass rfl rfl rfl rfl (WL.pass rfl rfl rfl rfl (WL.pass rfl rfl rfl rfl (WL.pickT rfl rfl rfl (WL.move rfl rfl (WL.pass rfl rfl rfl rfl (WL.pass rfl rfl rfl rfl (?_))))))))
    refine WL.pass rfl rfl rfl rfl (WL.pass rfl rfl rfl rfl (WL.pass rfl rfl rfl rfl (WL.pickT rfl rfl rfl (WL.move rfl rfl (WL.pass rfl rfl rfl rfl (WL.pass rfl rfl rfl rfl (WL.pass rfl rfl rfl rfl (?_))))))))
    refine WL.pass rfl rfl rfl rfl (WL.pass rfl rfl rfl rfl (WL.pickT rfl rfl rfl (WL.move rfl rfl (WL.pass rfl rfl rfl rfl (WL.pass rfl rfl rfl rfl (WL.pass rfl rfl rfl rfl (WL.pass rfl rfl rfl rfl (?_))))))))
    refine WL.pass rfl rfl rfl rfl (WL.pickT rfl rfl rfl (WL.move rfl rfl (WL.pass rfl rfl rfl rfl (WL.pass rfl rfl rfl rfl (WL.pass rfl rfl rfl rfl (WL.pass rfl rfl rfl rfl (WL.pass rfl rfl rfl rfl (?_))))))))
    refine WL.pickT rfl rfl rfl (WL.nil (WX.then_normal (WC.cond_true rfl (WC.seq (WC.region (WL.bld rfl (bld_23_z) rfl (?_)))))))
    refine WL.stores Tryd.sizeOf23 hb_1 rfl rfl (by first | (simp; done) | (simp; omega) | rfl) (by first | exact Enc.one _ _ | (intro u hu; obtain ⟨x, _, rfl⟩ := List.mem_map.1 hu; rfl) | (simp [Value.oneCell']; done) | (simp [Value.oneCell', Value.cells]; done)) (by first | (simp; done) | (simp; omega) | (simp [Value.cells]; done) | (simp [Value.cells]; omega) | exact Nat.le_of_ble_eq_true rfl) rfl ?_
    intro w_2 hs_2 hn_2 k_2
    have zs_k_2 := k_2.size
    replace kk := kk.chg k_2 (by first | (intro x h1 h2; exact h2) | (intro x h0 h1 h2; exact hS x h1 h2) | (intro x h0 h1 h2; have h3 : _ = _ := h2; subst h3; exact hSR h1.1) | (intro x h1 h2; have h3 : _ = _ := h2; subst h3; assumption) | (intro x h1 h2; have h3 : _ = _ := h2; exfalso; omega) | (intro b h1 h2 h3; have h4 : _ = _ := h3; (try dsimp only at h2); exfalso; omega) | (intro h1; have h2 : _ = _ := h1; exfalso; omega) | (intro h1; have h2 : _ ≤ _ := h1; exfalso; omega) | (intros; exfalso; (try dsimp only at *); omega) | (intro b h1 h2 h3; exfalso; have h4 := h3.2; (try dsimp only at *); omega) | (intro h1; exfalso; have h4 := h1.2; (try dsimp only at *); omega) | (intro x h1 h2; exfalso; have h4 := h2.2; (try dsimp only at *); omega) | (intro x h1 h2; exact ⟨_, rfl, h2⟩) | (intro x h1 h2; have h4 := h2.1; have h5 := h2.2; exfalso; omega) | (intro x h1 h2; exact h2.1) | (intro x h1 h2; rcases h2.1 with h3 | h3; exact h3; exfalso; omega) | (intro x h1 h2; rcases h2 with h3 | h3; exact h3; exfalso; omega))
    replace hk := hk.chg k_2 (by first | (intro x h1 h2; exact h2) | (intro x h0 h1 h2; exact hS x h1 h2) | (intro x h0 h1 h2; have h3 : _ = _ := h2; subst h3; exact hSR h1.1) | (intro x h1 h2; have h3 : _ = _ := h2; subst h3; assumption) | (intro x h1 h2; have h3 : _ = _ := h2; exfalso; omega) | (intro b h1 h2 h3; have h4 : _ = _ := h3; (try dsimp only at h2); exfalso; omega) | (intro h1; have h2 : _ = _ := h1; exfalso; omega) | (intro h1; have h2 : _ ≤ _ := h1; exfalso; omega) | (intros; exfalso; (try dsimp only at *); omega) | (intro b h1 h2 h3; exfalso; have h4 := h3.2; (try dsimp only at *); omega) | (intro h1; exfalso; have h4 := h1.2; (try dsimp only at *); omega) | (intro x h1 h2; exfalso; have h4 := h2.2; (try dsimp only at *); omega) | (intro x h1 h2; exact ⟨_, rfl, h2⟩) | (intro x h1 h2; have h4 := h2.1; have h5 := h2.2; exfalso; omega) | (intro x h1 h2; exact h2.1) | (intro x h1 h2; rcases h2.1 with h3 | h3; exact h3; exfalso; omega) | (intro x h1 h2; rcases h2 with h3 | h3; exact h3; exfalso; omega))
    replace hb_1 := hn_2
    refine WL.assign rfl rfl (WL.nil (WX.then_normal (WC.ret (WX.then_ret (?_)))))
    refine WX.ret2c (.inl rfl) Tryd.results41 Tryd.isAgg23 Tryd.sizeOf23 hb_1 rfl (by first | (simp; done) | (simp; omega) | rfl) rfl ?_
    first
      | (refine ⟨_, rfl, ?_, kk⟩
         rw [unpR_bad (by omega)]
         rfl)
      | (refine ⟨_, rfl, ?_, kk⟩
         rw [unpR_four hL, if_neg (by omega)]
         rfl)
      | (have hr : ¬ rightP (ptr4 i0 i1 i2 i3) := fun hr => h74 (by rw [ptrE, if_pos hr])
         refine ⟨_, rfl, ?_, kk⟩
         rw [unpR_four hL, if_neg (fun x => hr x.2.2)]
         rw [ptrE, if_neg hr]
         rfl)
      | (have hr : rightP (ptr4 i0 i1 i2 i3) := by
           by_cases hr : rightP (ptr4 i0 i1 i2 i3)
           ·
             exact hr
           ·
             rw [ptrE, if_neg hr] at h74; cases h74
         refine ⟨_, rfl, ?_, kk⟩
         rw [unpR_four hL, if_pos ⟨by omega, ⟨by omega, by omega, by omega, by omega⟩, hr⟩]
         rfl)
  ·
    refine WL.move rfl rfl (WL.want rfl rfl rfl (WL.move rfl rfl (WL.want rfl rfl rfl (WL.len Tryd.underlying76 rfl rfl (WL.want rfl rfl rfl (?_))))))
    refine WL.neq? rfl rfl rfl (fun h20 => ?_) (fun h20 => ?_)
    ·
      refine WL.pickF rfl rfl rfl (WL.move rfl rfl (WL.pass rfl rfl rfl rfl (WL.pass rfl rfl rfl rfl (WL.pass rfl rfl rfl rfl (WL.pass rfl rfl rfl rfl (WL.pass rfl rfl rfl rfl (WL.pickT rfl rfl rfl (?_))))))))
      refine WL.move rfl rfl (WL.pass rfl rfl rfl rfl (WL.pass rfl rfl rfl rfl (WL.pass rfl rfl rfl rfl (WL.pass rfl rfl rfl rfl (WL.pass rfl rfl rfl rfl (WL.pickT rfl rfl rfl (WL.move rfl rfl (?_))))))))
      refine WL.pass rfl rfl rfl rfl (WL.pass rfl rfl rfl rfl (WL.pass rfl rfl rfl rfl (WL.pass rfl rfl rfl rfl (WL.pass rfl rfl rfl rfl (WL.pickT rfl rfl rfl (WL.move rfl rfl (WL.pass rfl rfl rfl rfl (?_))))))))
      refine WL.pass rfl rfl rfl rfl (WL.pass rfl rfl rfl rfl (WL.pass rfl rfl rfl rfl (WL.pass rfl rfl rfl rfl (WL.pickT rfl rfl rfl (WL.nil (WX.then_normal (WC.cond_true rfl (?_))))))))
      refine WC.seq (WC.region (WL.bld rfl (bld_23_z) rfl (?_)))
      refine WL.stores Tryd.sizeOf23 hb_1 rfl rfl (by first | (simp; done) | (simp; omega) | rfl) (by first | exact Enc.one _ _ | (intro u hu; obtain ⟨x, _, rfl⟩ := List.mem_map.1 hu; rfl) | (simp [Value.oneCell']; done) | (simp [Value.oneCell', Value.cells]; done)) (by first | (simp; done) | (simp; omega) | (simp [Value.cells]; done) | (simp [Value.cells]; omega) | exact Nat.le_of_ble_eq_true rfl) rfl ?_
      intro w_2 hs_2 hn_2 k_2
      have zs_k_2 := k_2.size
      replace kk := kk.chg k_2 (by first | (intro x h1 h2; exact h2) | (intro x h0 h1 h2; exact hS x h1 h2) | (intro x h0 h1 h2; have h3 : _ = _ := h2; subst h3; exact hSR h1.1) | (intro x h1 h2; have h3 : _ = _ := h2; subst h3; assumption) | (intro x h1 h2; have h3 : _ = _ := h2; exfalso; omega) | (intro b h1 h2 h3; have h4 : _ = _ := h3; (try dsimp only at h2); exfalso; omega) | (intro h1; have h2 : _ = _ := h1; exfalso; omega) | (intro h1; have h2 : _ ≤ _ := h1; exfalso; omega) | (intros; exfalso; (try dsimp only at *); omega) | (intro b h1 h2 h3; exfalso; have h4 := h3.2; (try dsimp only at *); omega) | (intro h1; exfalso; have h4 := h1.2; (try dsimp only at *); omega) | (intro x h1 h2; exfalso; have h4 := h2.2; (try dsimp only at *); omega) | (intro x h1 h2; exact ⟨_, rfl, h2⟩) | (intro x h1 h2; have h4 := h2.1; have h5 := h2.2; exfalso; omega) | (intro x h1 h2; exact h2.1) | (intro x h1 h2; rcases h2.1 with h3 | h3; exact h3; exfalso; omega) | (intro x h1 h2; rcases h2 with h3 | h3; exact h3; exfalso; omega))
      replace hk := hk.chg k_2 (by first | (intro x h1 h2; exact h2) | (intro x h0 h1 h2; exact hS x h1 h2) | (intro x h0 h1 h2; have h3 : _ = _ := h2; subst h3; exact hSR h1.1) | (intro x h1 h2; have h3 : _ = _ := h2; subst h3; assumption) | (intro x h1 h2; have h3 : _ = _ := h2; exfalso; omega) | (intro b h1 h2 h3; have h4 : _ = _ := h3; (try dsimp only at h2); exfalso; omega) | (intro h1; have h2 : _ = _ := h1; exfalso; omega) | (intro h1; have h2 : _ ≤ _ := h1; exfalso; omega) | (intros; exfalso; (try dsimp only at *); omega) | (intro b h1 h2 h3; exfalso; have h4 := h3.2; (try dsimp only at *); omega) | (intro h1; exfalso; have h4 := h1.2; (try dsimp only at *); omega) | (intro x h1 h2; exfalso; have h4 := h2.2; (try dsimp only at *); omega) | (intro x h1 h2; exact ⟨_, rfl, h2⟩) | (intro x h1 h2; have h4 := h2.1; have h5 := h2.2; exfalso; omega) | (intro x h1 h2; exact h2.1) | (intro x h1 h2; rcases h2.1 with h3 | h3; exact h3; exfalso; omega) | (intro x h1 h2; rcases h2 with h3 | h3; exact h3; exfalso; omega))
      replace hb_1 := hn_2
      refine WL.assign rfl rfl (WL.nil (WX.then_normal (WC.ret (WX.then_ret (?_)))))
      refine WX.ret2c (.inl rfl) Tryd.results41 Tryd.isAgg23 Tryd.sizeOf23 hb_1 rfl (by first | (simp; done) | (simp; omega) | rfl) rfl ?_
      first
        | (refine ⟨_, rfl, ?_, kk⟩
           rw [unpR_bad (by omega)]
           rfl)
        | (refine ⟨_, rfl, ?_, kk⟩
           rw [unpR_four hL, if_neg (by omega)]
           rfl)
        | (have hr : ¬ rightP (ptr4 i0 i1 i2 i3) := fun hr => h74 (by rw [ptrE, if_pos hr])
           refine ⟨_, rfl, ?_, kk⟩
           rw [unpR_four hL, if_neg (fun x => hr x.2.2)]
           rw [ptrE, if_neg hr]
           rfl)
        | (have hr : rightP (ptr4 i0 i1 i2 i3) := by
             by_cases hr : rightP (ptr4 i0 i1 i2 i3)
             ·
               exact hr
             ·
               rw [ptrE, if_neg hr] at h74; cases h74
           refine ⟨_, rfl, ?_, kk⟩
           rw [unpR_four hL, if_pos ⟨by omega, ⟨by omega, by omega, by omega, by omega⟩, hr⟩]
           rfl)
    ·
      refine WL.pickF rfl rfl rfl (WL.move rfl rfl (WL.want rfl rfl rfl (WL.move rfl rfl (WL.want rfl rfl rfl (?_)))))
      obtain ⟨i0, i1, i2, i3, hL⟩ := four (l := decL s.data.toList) (by omega)
      have hx0 : (decL s.data.toList)[0]? = some i0 := by rw [hL]; rfl
      have hx1 : (decL s.data.toList)[1]? = some i1 := by rw [hL]; rfl
      have hx2 : (decL s.data.toList)[2]? = some i2 := by rw [hL]; rfl
      have hx3 : (decL s.data.toList)[3]? = some i3 := by rw [hL]; rfl
      obtain ⟨bp, op, rfl⟩ := hk.rsl.place hx0
      refine WL.indexT Tryd.underlying76 Tryd.sizeOf75 hk.rsl rfl rfl ⟨hx0, rfl⟩ rfl ?_
      intro b_2 o_2 hc_2
      refine WL.want rfl rfl rfl (WL.fieldAddr (fld_75_0) rfl rfl (WL.want rfl rfl rfl (WL.load Tryd.isAgg3 rfl (hc_2 _ _ rfl) rfl (WL.want rfl rfl rfl (?_)))))
      refine WL.neq? rfl rfl rfl (fun h27 => ?_) (fun h27 => ?_)
      ·
        refine WL.pickF rfl rfl rfl (WL.move rfl rfl (WL.pass rfl rfl rfl rfl (WL.pass rfl rfl rfl rfl (WL.pass rfl rfl rfl rfl (WL.pass rfl rfl rfl rfl (WL.pass rfl rfl rfl rfl (WL.pickT rfl rfl rfl (?_))))))))
        refine WL.move rfl rfl (WL.pass rfl rfl rfl rfl (WL.pass rfl rfl rfl rfl (WL.pass rfl rfl rfl rfl (WL.pass rfl rfl rfl rfl (WL.pass rfl rfl rfl rfl (WL.pickT rfl rfl rfl (WL.move rfl rfl (?_))))))))
        refine WL.pass rfl rfl rfl rfl (WL.pass rfl rfl rfl rfl (WL.pass rfl rfl rfl rfl (WL.pass rfl rfl rfl rfl (WL.pass rfl rfl rfl rfl (WL.pickT rfl rfl rfl (WL.nil (WX.then_normal (?_))))))))
        refine WC.cond_true rfl (WC.seq (WC.region (WL.bld rfl (bld_23_z) rfl (?_))))
        refine WL.stores Tryd.sizeOf23 hb_1 rfl rfl (by first | (simp; done) | (simp; omega) | rfl) (by first | exact Enc.one _ _ | (intro u hu; obtain ⟨x, _, rfl⟩ := List.mem_map.1 hu; rfl) | (simp [Value.oneCell']; done) | (simp [Value.oneCell', Value.cells]; done)) (by first | (simp; done) | (simp; omega) | (simp [Value.cells]; done) | (simp [Value.cells]; omega) | exact Nat.le_of_ble_eq_true rfl) rfl ?_
        intro w_3 hs_3 hn_3 k_3
        have zs_k_3 := k_3.size
        replace kk := kk.chg k_3 (by first | (intro x h1 h2; exact h2) | (intro x h0 h1 h2; exact hS x h1 h2) | (intro x h0 h1 h2; have h3 : _ = _ := h2; subst h3; exact hSR h1.1) | (intro x h1 h2; have h3 : _ = _ := h2; subst h3; assumption) | (intro x h1 h2; have h3 : _ = _ := h2; exfalso; omega) | (intro b h1 h2 h3; have h4 : _ = _ := h3; (try dsimp only at h2); exfalso; omega) | (intro h1; have h2 : _ = _ := h1; exfalso; omega) | (intro h1; have h2 : _ ≤ _ := h1; exfalso; omega) | (intros; exfalso; (try dsimp only at *); omega) | (intro b h1 h2 h3; exfalso; have h4 := h3.2; (try dsimp only at *); omega) | (intro h1; exfalso; have h4 := h1.2; (try dsimp only at *); omega) | (intro x h1 h2; exfalso; have h4 := h2.2; (try dsimp only at *); omega) | (intro x h1 h2; exact ⟨_, rfl, h2⟩) | (intro x h1 h2; have h4 := h2.1; have h5 := h2.2; exfalso; omega) | (intro x h1 h2; exact h2.1) | (intro x h1 h2; rcases h2.1 with h3 | h3; exact h3; exfalso; omega) | (intro x h1 h2; rcases h2 with h3 | h3; exact h3; exfalso; omega))
        replace hk := hk.chg k_3 (by first | (intro x h1 h2; exact h2) | (intro x h0 h1 h2; exact hS x h1 h2) | (intro x h0 h1 h2; have h3 : _ = _ := h2; subst h3; exact hSR h1.1) | (intro x h1 h2; have h3 : _ = _ := h2; subst h3; assumption) | (intro x h1 h2; have h3 : _ = _ := h2; exfalso; omega) | (intro b h1 h2 h3; have h4 : _ = _ := h3; (try dsimp only at h2); exfalso; omega) | (intro h1; have h2 : _ = _ := h1; exfalso; omega) | (intro h1; have h2 : _ ≤ _ := h1; exfalso; omega) | (intros; exfalso; (try dsimp only at *); omega) | (intro b h1 h2 h3; exfalso; have h4 := h3.2; (try dsimp only at *); omega) | (intro h1; exfalso; have h4 := h1.2; (try dsimp only at *); omega) | (intro x h1 h2; exfalso; have h4 := h2.2; (try dsimp only at *); omega) | (intro x h1 h2; exact ⟨_, rfl, h2⟩) | (intro x h1 h2; have h4 := h2.1; have h5 := h2.2; exfalso; omega) | (intro x h1 h2; exact h2.1) | (intro x h1 h2; rcases h2.1 with h3 | h3; exact h3; exfalso; omega) | (intro x h1 h2; rcases h2 with h3 | h3; exact h3; exfalso; omega))
        replace hb_1 := hn_3
        refine WL.assign rfl rfl (WL.nil (WX.then_normal (WC.ret (WX.then_ret (?_)))))
        refine WX.ret2c (.inl rfl) Tryd.results41 Tryd.isAgg23 Tryd.sizeOf23 hb_1 rfl (by first | (simp; done) | (simp; omega) | rfl) rfl ?_
        first
          | (refine ⟨_, rfl, ?_, kk⟩
             rw [unpR_bad (by omega)]
             rfl)
          | (refine ⟨_, rfl, ?_, kk⟩
             rw [unpR_four hL, if_neg (by omega)]
             rfl)
          | (have hr : ¬ rightP (ptr4 i0 i1 i2 i3) := fun hr => h74 (by rw [ptrE, if_pos hr])
             refine ⟨_, rfl, ?_, kk⟩
             rw [unpR_four hL, if_neg (fun x => hr x.2.2)]
             rw [ptrE, if_neg hr]
             rfl)
          | (have hr : rightP (ptr4 i0 i1 i2 i3) := by
               by_cases hr : rightP (ptr4 i0 i1 i2 i3)
               ·
                 exact hr
               ·
                 rw [ptrE, if_neg hr] at h74; cases h74
             refine ⟨_, rfl, ?_, kk⟩
             rw [unpR_four hL, if_pos ⟨by omega, ⟨by omega, by omega, by omega, by omega⟩, hr⟩]
             rfl)
      ·
        refine WL.pickF rfl rfl rfl (WL.move rfl rfl (WL.want rfl rfl rfl (WL.move rfl rfl (WL.want rfl rfl rfl (?_)))))
        refine WL.indexT Tryd.underlying76 Tryd.sizeOf75 hk.rsl rfl rfl ⟨hx1, rfl⟩ rfl ?_
        intro b_3 o_3 hc_3
        refine WL.want rfl rfl rfl (WL.fieldAddr (fld_75_0) rfl rfl (WL.want rfl rfl rfl (WL.load Tryd.isAgg3 rfl (hc_3 _ _ rfl) rfl (WL.want rfl rfl rfl (?_)))))
        refine WL.neq? rfl rfl rfl (fun h34 => ?_) (fun h34 => ?_)
        ·
          refine WL.pickF rfl rfl rfl (WL.move rfl rfl (WL.pass rfl rfl rfl rfl (WL.pass rfl rfl rfl rfl (WL.pass rfl rfl rfl rfl (WL.pass rfl rfl rfl rfl (WL.pass rfl rfl rfl rfl (WL.pickT rfl rfl rfl (?_))))))))
          refine WL.move rfl rfl (WL.pass rfl rfl rfl rfl (WL.pass rfl rfl rfl rfl (WL.pass rfl rfl rfl rfl (WL.pass rfl rfl rfl rfl (WL.pass rfl rfl rfl rfl (WL.pickT rfl rfl rfl (WL.nil (?_))))))))
          refine WX.then_normal (WC.cond_true rfl (WC.seq (WC.region (WL.bld rfl (bld_23_z) rfl (?_)))))
          refine WL.stores Tryd.sizeOf23 hb_1 rfl rfl (by first | (simp; done) | (simp; omega) | rfl) (by first | exact Enc.one _ _ | (intro u hu; obtain ⟨x, _, rfl⟩ := List.mem_map.1 hu; rfl) | (simp [Value.oneCell']; done) | (simp [Value.oneCell', Value.cells]; done)) (by first | (simp; done) | (simp; omega) | (simp [Value.cells]; done) | (simp [Value.cells]; omega) | exact Nat.le_of_ble_eq_true rfl) rfl ?_
          intro w_4 hs_4 hn_4 k_4
          have zs_k_4 := k_4.size
          replace kk := kk.chg k_4 (by first | (intro x h1 h2; exact h2) | (intro x h0 h1 h2; exact hS x h1 h2) | (intro x h0 h1 h2; have h3 : _ = _ := h2; subst h3; exact hSR h1.1) | (intro x h1 h2; have h3 : _ = _ := h2; subst h3; assumption) | (intro x h1 h2; have h3 : _ = _ := h2; exfalso; omega) | (intro b h1 h2 h3; have h4 : _ = _ := h3; (try dsimp only at h2); exfalso; omega) | (intro h1; have h2 : _ = _ := h1; exfalso; omega) | (intro h1; have h2 : _ ≤ _ := h1; exfalso; omega) | (intros; exfalso; (try dsimp only at *); omega) | (intro b h1 h2 h3; exfalso; have h4 := h3.2; (try dsimp only at *); omega) | (intro h1; exfalso; have h4 := h1.2; (try dsimp only at *); omega) | (intro x h1 h2; exfalso; have h4 := h2.2; (try dsimp only at *); omega) | (intro x h1 h2; exact ⟨_, rfl, h2⟩) | (intro x h1 h2; have h4 := h2.1; have h5 := h2.2; exfalso; omega) | (intro x h1 h2; exact h2.1) | (intro x h1 h2; rcases h2.1 with h3 | h3; exact h3; exfalso; omega) | (intro x h1 h2; rcases h2 with h3 | h3; exact h3; exfalso; omega))
          replace hk := hk.chg k_4 (by first | (intro x h1 h2; exact h2) | (intro x h0 h1 h2; exact hS x h1 h2) | (intro x h0 h1 h2; have h3 : _ = _ := h2; subst h3; exact hSR h1.1) | (intro x h1 h2; have h3 : _ = _ := h2; subst h3; assumption) | (intro x h1 h2; have h3 : _ = _ := h2; exfalso; omega) | (intro b h1 h2 h3; have h4 : _ = _ := h3; (try dsimp only at h2); exfalso; omega) | (intro h1; have h2 : _ = _ := h1; exfalso; omega) | (intro h1; have h2 : _ ≤ _ := h1; exfalso; omega) | (intros; exfalso; (try dsimp only at *); omega) | (intro b h1 h2 h3; exfalso; have h4 := h3.2; (try dsimp only at *); omega) | (intro h1; exfalso; have h4 := h1.2; (try dsimp only at *); omega) | (intro x h1 h2; exfalso; have h4 := h2.2; (try dsimp only at *); omega) | (intro x h1 h2; exact ⟨_, rfl, h2⟩) | (intro x h1 h2; have h4 := h2.1; have h5 := h2.2; exfalso; omega) | (intro x h1 h2; exact h2.1) | (intro x h1 h2; rcases h2.1 with h3 | h3; exact h3; exfalso; omega) | (intro x h1 h2; rcases h2 with h3 | h3; exact h3; exfalso; omega))
          replace hb_1 := hn_4
          refine WL.assign rfl rfl (WL.nil (WX.then_normal (WC.ret (WX.then_ret (?_)))))
          refine WX.ret2c (.inl rfl) Tryd.results41 Tryd.isAgg23 Tryd.sizeOf23 hb_1 rfl (by first | (simp; done) | (simp; omega) | rfl) rfl ?_
          first
            | (refine ⟨_, rfl, ?_, kk⟩
               rw [unpR_bad (by omega)]
               rfl)
            | (refine ⟨_, rfl, ?_, kk⟩
               rw [unpR_four hL, if_neg (by omega)]
               rfl)
            | (have hr : ¬ rightP (ptr4 i0 i1 i2 i3) := fun hr => h74 (by rw [ptrE, if_pos hr])
               refine ⟨_, rfl, ?_, kk⟩
               rw [unpR_four hL, if_neg (fun x => hr x.2.2)]
               rw [ptrE, if_neg hr]
               rfl)
            | (have hr : rightP (ptr4 i0 i1 i2 i3) := by
                 by_cases hr : rightP (ptr4 i0 i1 i2 i3)
                 ·
                   exact hr
                 ·
                   rw [ptrE, if_neg hr] at h74; cases h74
               refine ⟨_, rfl, ?_, kk⟩
               rw [unpR_four hL, if_pos ⟨by omega, ⟨by omega, by omega, by omega, by omega⟩, hr⟩]
               rfl)
        ·
          refine WL.pickF rfl rfl rfl (WL.move rfl rfl (WL.want rfl rfl rfl (WL.move rfl rfl (WL.want rfl rfl rfl (?_)))))
          refine WL.indexT Tryd.underlying76 Tryd.sizeOf75 hk.rsl rfl rfl ⟨hx2, rfl⟩ rfl ?_
          intro b_4 o_4 hc_4
          refine WL.want rfl rfl rfl (WL.fieldAddr (fld_75_0) rfl rfl (WL.want rfl rfl rfl (WL.load Tryd.isAgg3 rfl (hc_4 _ _ rfl) rfl (WL.want rfl rfl rfl (?_)))))
          refine WL.neq? rfl rfl rfl (fun h41 => ?_) (fun h41 => ?_)
          ·
            refine WL.pickF rfl rfl rfl (WL.move rfl rfl (WL.pass rfl rfl rfl rfl (WL.pass rfl rfl rfl rfl (WL.pass rfl rfl rfl rfl (WL.pass rfl rfl rfl rfl (WL.pass rfl rfl rfl rfl (WL.pickT rfl rfl rfl (?_))))))))
            refine WL.nil (WX.then_normal (WC.cond_true rfl (WC.seq (WC.region (WL.bld rfl (bld_23_z) rfl (?_))))))
            refine WL.stores Tryd.sizeOf23 hb_1 rfl rfl (by first | (simp; done) | (simp; omega) | rfl) (by first | exact Enc.one _ _ | (intro u hu; obtain ⟨x, _, rfl⟩ := List.mem_map.1 hu; rfl) | (simp [Value.oneCell']; done) | (simp [Value.oneCell', Value.cells]; done)) (by first | (simp; done) | (simp; omega) | (simp [Value.cells]; done) | (simp [Value.cells]; omega) | exact Nat.le_of_ble_eq_true rfl) rfl ?_
            intro w_5 hs_5 hn_5 k_5
            have zs_k_5 := k_5.size
            replace kk := kk.chg k_5 (by first | (intro x h1 h2; exact h2) | (intro x h0 h1 h2; exact hS x h1 h2) | (intro x h0 h1 h2; have h3 : _ = _ := h2; subst h3; exact hSR h1.1) | (intro x h1 h2; have h3 : _ = _ := h2; subst h3; assumption) | (intro x h1 h2; have h3 : _ = _ := h2; exfalso; omega) | (intro b h1 h2 h3; have h4 : _ = _ := h3; (try dsimp only at h2); exfalso; omega) | (intro h1; have h2 : _ = _ := h1; exfalso; omega) | (intro h1; have h2 : _ ≤ _ := h1; exfalso; omega) | (intros; exfalso; (try dsimp only at *); omega) | (intro b h1 h2 h3; exfalso; have h4 := h3.2; (try dsimp only at *); omega) | (intro h1; exfalso; have h4 := h1.2; (try dsimp only at *); omega) | (intro x h1 h2; exfalso; have h4 := h2.2; (try dsimp only at *); omega) | (intro x h1 h2; exact ⟨_, rfl, h2⟩) | (intro x h1 h2; have h4 := h2.1; have h5 := h2.2; exfalso; omega) | (intro x h1 h2; exact h2.1) | (intro x h1 h2; rcases h2.1 with h3 | h3; exact h3; exfalso; omega) | (intro x h1 h2; rcases h2 with h3 | h3; exact h3; exfalso; omega))
            replace hk := hk.chg k_5 (by first | (intro x h1 h2; exact h2) | (intro x h0 h1 h2; exact hS x h1 h2) | (intro x h0 h1 h2; have h3 : _ = _ := h2; subst h3; exact hSR h1.1) | (intro x h1 h2; have h3 : _ = _ := h2; subst h3; assumption) | (intro x h1 h2; have h3 : _ = _ := h2; exfalso; omega) | (intro b h1 h2 h3; have h4 : _ = _ := h3; (try dsimp only at h2); exfalso; omega) | (intro h1; have h2 : _ = _ := h1; exfalso; omega) | (intro h1; have h2 : _ ≤ _ := h1; exfalso; omega) | (intros; exfalso; (try dsimp only at *); omega) | (intro b h1 h2 h3; exfalso; have h4 := h3.2; (try dsimp only at *); omega) | (intro h1; exfalso; have h4 := h1.2; (try dsimp only at *); omega) | (intro x h1 h2; exfalso; have h4 := h2.2; (try dsimp only at *); omega) | (intro x h1 h2; exact ⟨_, rfl, h2⟩) | (intro x h1 h2; have h4 := h2.1; have h5 := h2.2; exfalso; omega) | (intro x h1 h2; exact h2.1) | (intro x h1 h2; rcases h2.1 with h3 | h3; exact h3; exfalso; omega) | (intro x h1 h2; rcases h2 with h3 | h3; exact h3; exfalso; omega))
            replace hb_1 := hn_5
            refine WL.assign rfl rfl (WL.nil (WX.then_normal (WC.ret (WX.then_ret (?_)))))
            refine WX.ret2c (.inl rfl) Tryd.results41 Tryd.isAgg23 Tryd.sizeOf23 hb_1 rfl (by first | (simp; done) | (simp; omega) | rfl) rfl ?_
            first
              | (refine ⟨_, rfl, ?_, kk⟩
                 rw [unpR_bad (by omega)]
                 rfl)
              | (refine ⟨_, rfl, ?_, kk⟩
                 rw [unpR_four hL, if_neg (by omega)]
                 rfl)
              | (have hr : ¬ rightP (ptr4 i0 i1 i2 i3) := fun hr => h74 (by rw [ptrE, if_pos hr])
                 refine ⟨_, rfl, ?_, kk⟩
                 rw [unpR_four hL, if_neg (fun x => hr x.2.2)]
                 rw [ptrE, if_neg hr]
                 rfl)
              | (have hr : rightP (ptr4 i0 i1 i2 i3) := by
                   by_cases hr : rightP (ptr4 i0 i1 i2 i3)
                   ·
                     exact hr
                   ·
                     rw [ptrE, if_neg hr] at h74; cases h74
                 refine ⟨_, rfl, ?_, kk⟩
                 rw [unpR_four hL, if_pos ⟨by omega, ⟨by omega, by omega, by omega, by omega⟩, hr⟩]
                 rfl)
          ·
            refine WL.pickF rfl rfl rfl (WL.move rfl rfl (WL.want rfl rfl rfl (WL.move rfl rfl (WL.want rfl rfl rfl (?_)))))
            refine WL.indexT Tryd.underlying76 Tryd.sizeOf75 hk.rsl rfl rfl ⟨hx3, rfl⟩ rfl ?_
            intro b_5 o_5 hc_5
            refine WL.want rfl rfl rfl (WL.fieldAddr (fld_75_0) rfl rfl (WL.want rfl rfl rfl (WL.load Tryd.isAgg3 rfl (hc_5 _ _ rfl) rfl (WL.want rfl rfl rfl (?_)))))
            refine WL.neq? rfl rfl rfl (fun h48 => ?_) (fun h48 => ?_)
            ·
              refine WL.pickF rfl rfl rfl (WL.nil (WX.then_normal (WC.cond_true rfl (WC.seq (WC.region (WL.bld rfl (bld_23_z) rfl (?_)))))))
              refine WL.stores Tryd.sizeOf23 hb_1 rfl rfl (by first | (simp; done) | (simp; omega) | rfl) (by first | exact Enc.one _ _ | (intro u hu; obtain ⟨x, _, rfl⟩ := List.mem_map.1 hu; rfl) | (simp [Value.oneCell']; done) | (simp [Value.oneCell', Value.cells]; done)) (by first | (simp; done) | (simp; omega) | (simp [Value.cells]; done) | (simp [Value.cells]; omega) | exact Nat.le_of_ble_eq_true rfl) rfl ?_
              intro w_6 hs_6 hn_6 k_6
              have zs_k_6 := k_6.size
              replace kk := kk.chg k_6 (by first | (intro x h1 h2; exact h2) | (intro x h0 h1 h2; exact hS x h1 h2) | (intro x h0 h1 h2; have h3 : _ = _ := h2; subst h3; exact hSR h1.1) | (intro x h1 h2; have h3 : _ = _ := h2; subst h3; assumption) | (intro x h1 h2; have h3 : _ = _ := h2; exfalso; omega) | (intro b h1 h2 h3; have h4 : _ = _ := h3; (try dsimp only at h2); exfalso; omega) | (intro h1; have h2 : _ = _ := h1; exfalso; omega) | (intro h1; have h2 : _ ≤ _ := h1; exfalso; omega) | (intros; exfalso; (try dsimp only at *); omega) | (intro b h1 h2 h3; exfalso; have h4 := h3.2; (try dsimp only at *); omega) | (intro h1; exfalso; have h4 := h1.2; (try dsimp only at *); omega) | (intro x h1 h2; exfalso; have h4 := h2.2; (try dsimp only at *); omega) | (intro x h1 h2; exact ⟨_, rfl, h2⟩) | (intro x h1 h2; have h4 := h2.1; have h5 := h2.2; exfalso; omega) | (intro x h1 h2; exact h2.1) | (intro x h1 h2; rcases h2.1 with h3 | h3; exact h3; exfalso; omega) | (intro x h1 h2; rcases h2 with h3 | h3; exact h3; exfalso; omega))
              replace hk := hk.chg k_6 (by first | (intro x h1 h2; exact h2) | (intro x h0 h1 h2; exact hS x h1 h2) | (intro x h0 h1 h2; have h3 : _ = _ := h2; subst h3; exact hSR h1.1) | (intro x h1 h2; have h3 : _ = _ := h2; subst h3; assumption) | (intro x h1 h2; have h3 : _ = _ := h2; exfalso; omega) | (intro b h1 h2 h3; have h4 : _ = _ := h3; (try dsimp only at h2); exfalso; omega) | (intro h1; have h2 : _ = _ := h1; exfalso; omega) | (intro h1; have h2 : _ ≤ _ := h1; exfalso; omega) | (intros; exfalso; (try dsimp only at *); omega) | (intro b h1 h2 h3; exfalso; have h4 := h3.2; (try dsimp only at *); omega) | (intro h1; exfalso; have h4 := h1.2; (try dsimp only at *); omega) | (intro x h1 h2; exfalso; have h4 := h2.2; (try dsimp only at *); omega) | (intro x h1 h2; exact ⟨_, rfl, h2⟩) | (intro x h1 h2; have h4 := h2.1; have h5 := h2.2; exfalso; omega) | (intro x h1 h2; exact h2.1) | (intro x h1 h2; rcases h2.1 with h3 | h3; exact h3; exfalso; omega) | (intro x h1 h2; rcases h2 with h3 | h3; exact h3; exfalso; omega))
              replace hb_1 := hn_6
              refine WL.assign rfl rfl (WL.nil (WX.then_normal (WC.ret (WX.then_ret (?_)))))
              refine WX.ret2c (.inl rfl) Tryd.results41 Tryd.isAgg23 Tryd.sizeOf23 hb_1 rfl (by first | (simp; done) | (simp; omega) | rfl) rfl ?_
              first
                | (refine ⟨_, rfl, ?_, kk⟩
                   rw [unpR_bad (by omega)]
                   rfl)
                | (refine ⟨_, rfl, ?_, kk⟩
                   rw [unpR_four hL, if_neg (by omega)]
                   rfl)
                | (have hr : ¬ rightP (ptr4 i0 i1 i2 i3) := fun hr => h74 (by rw [ptrE, if_pos hr])
                   refine ⟨_, rfl, ?_, kk⟩
                   rw [unpR_four hL, if_neg (fun x => hr x.2.2)]
                   rw [ptrE, if_neg hr]
                   rfl)
                | (have hr : rightP (ptr4 i0 i1 i2 i3) := by
                     by_cases hr : rightP (ptr4 i0 i1 i2 i3)
                     ·
                       exact hr
                     ·
                       rw [ptrE, if_neg hr] at h74; cases h74
                   refine ⟨_, rfl, ?_, kk⟩
                   rw [unpR_four hL, if_pos ⟨by omega, ⟨by omega, by omega, by omega, by omega⟩, hr⟩]
                   rfl)
            ·
              refine WL.pickF rfl rfl rfl (WL.nil (WX.then_normal (WC.cond_false rfl (WC.skip (WX.then_normal (WC.seq (?_)))))))
              refine WC.draw (Nob) [0, 1, 2, 3, 4, 5, 6, 7, 8, 9, 10, 11, 12, 13, 14, 15, 16] [17, 18] mixed rfl rfl (fun wd_6 kd_6 zd_6 => ?_)
              have zs_kd_6 := kd_6.size
              replace kk := kk.pure kd_6
              replace hb_1 := hb_1.pure kd_6
              replace hk := hk.pure kd_6
              apply DQ.step (E' := [(4, _)])
              case ho => rfl
              case hs => exact ⟨rfl, trivial⟩
              case hk => rfl
              case h1 =>
                intro wq_8 kq_8
                refine WL.move rfl rfl (?_)
                refine WL.nil ?_
                exact WX.one ⟨rfl, by first | exact Chg.refl _ _ | assumption⟩
              apply DQ.step (E' := [(51, _)])
              case ho => rfl
              case hs => exact ⟨rfl, trivial⟩
              case hk => rfl
              case h1 =>
                intro wq_9 kq_9
                have zs_kq_9 := kq_9.size
                replace kk := kk.pure kq_9
                replace hb_1 := hb_1.pure kq_9
                replace hk := hk.pure kq_9
                refine WL.indexC hk.rsl Tryd.underlying76 Tryd.sizeOf75 rfl rfl ⟨hx0, rfl⟩ rfl ?_
                refine WL.nil ?_
                exact WX.one ⟨rfl, by first | exact Chg.refl _ _ | assumption⟩
              apply DQ.step (E' := [(52, _)])
              case ho => rfl
              case hs => exact ⟨rfl, trivial⟩
              case hk => rfl
              case h1 =>
                intro wq_10 kq_10
                refine WL.fieldAddr (fld_75_1) rfl rfl (?_)
                refine WL.nil ?_
                exact WX.one ⟨rfl, by first | exact Chg.refl _ _ | assumption⟩
              apply DQ.step (E' := [(53, _)])
              case ho => rfl
              case hs => exact ⟨rfl, trivial⟩
              case hk => rfl
              case h1 =>
                intro wq_11 kq_11
                have zs_kq_11 := kq_11.size
                replace kk := kk.pure kq_11
                replace hb_1 := hb_1.pure kq_11
                replace hk := hk.pure kq_11
                refine WL.load Tryd.isAgg3 rfl ((hk.rsl.cellsAt hx0) _ _ rfl) rfl (?_)
                refine WL.nil ?_
                exact WX.one ⟨rfl, by first | exact Chg.refl _ _ | assumption⟩
              apply DQ.step (E' := [(4, _)])
              case ho => rfl
              case hs => exact ⟨rfl, trivial⟩
              case hk => rfl
              case h1 =>
                intro wq_12 kq_12
                refine WL.move rfl rfl (?_)
                refine WL.nil ?_
                exact WX.one ⟨rfl, by first | exact Chg.refl _ _ | assumption⟩
              apply DQ.step (E' := [(55, _)])
              case ho => rfl
              case hs => exact ⟨rfl, trivial⟩
              case hk => rfl
              case h1 =>
                intro wq_13 kq_13
                have zs_kq_13 := kq_13.size
                replace kk := kk.pure kq_13
                replace hb_1 := hb_1.pure kq_13
                replace hk := hk.pure kq_13
                refine WL.indexC hk.rsl Tryd.underlying76 Tryd.sizeOf75 rfl rfl ⟨hx1, rfl⟩ rfl ?_
                refine WL.nil ?_
                exact WX.one ⟨rfl, by first | exact Chg.refl _ _ | assumption⟩
              apply DQ.step (E' := [(56, _)])
              case ho => rfl
              case hs => exact ⟨rfl, trivial⟩
              case hk => rfl
              case h1 =>
                intro wq_14 kq_14
                refine WL.fieldAddr (fld_75_1) rfl rfl (?_)
                refine WL.nil ?_
                exact WX.one ⟨rfl, by first | exact Chg.refl _ _ | assumption⟩
              apply DQ.step (E' := [(57, _)])
              case ho => rfl
              case hs => exact ⟨rfl, trivial⟩
              case hk => rfl
              case h1 =>
                intro wq_15 kq_15
                have zs_kq_15 := kq_15.size
                replace kk := kk.pure kq_15
                replace hb_1 := hb_1.pure kq_15
                replace hk := hk.pure kq_15
                refine WL.load Tryd.isAgg3 rfl ((hk.rsl.cellsAt hx1) _ _ rfl) rfl (?_)
                refine WL.nil ?_
                exact WX.one ⟨rfl, by first | exact Chg.refl _ _ | assumption⟩
              apply DQ.step (E' := [(4, _)])
              case ho => rfl
              case hs => exact ⟨rfl, trivial⟩
              case hk => rfl
              case h1 =>
                intro wq_16 kq_16
                refine WL.move rfl rfl (?_)
                refine WL.nil ?_
                exact WX.one ⟨rfl, by first | exact Chg.refl _ _ | assumption⟩
              apply DQ.step (E' := [(59, _)])
              case ho => rfl
              case hs => exact ⟨rfl, trivial⟩
              case hk => rfl
              case h1 =>
                intro wq_17 kq_17
                have zs_kq_17 := kq_17.size
                replace kk := kk.pure kq_17
                replace hb_1 := hb_1.pure kq_17
                replace hk := hk.pure kq_17
                refine WL.indexC hk.rsl Tryd.underlying76 Tryd.sizeOf75 rfl rfl ⟨hx2, rfl⟩ rfl ?_
                refine WL.nil ?_
                exact WX.one ⟨rfl, by first | exact Chg.refl _ _ | assumption⟩
              apply DQ.step (E' := [(60, _)])
              case ho => rfl
              case hs => exact ⟨rfl, trivial⟩
              case hk => rfl
              case h1 =>
                intro wq_18 kq_18
                refine WL.fieldAddr (fld_75_1) rfl rfl (?_)
                refine WL.nil ?_
                exact WX.one ⟨rfl, by first | exact Chg.refl _ _ | assumption⟩
              apply DQ.step (E' := [(61, _)])
              case ho => rfl
              case hs => exact ⟨rfl, trivial⟩
              case hk => rfl
              case h1 =>
                intro wq_19 kq_19
                have zs_kq_19 := kq_19.size
                replace kk := kk.pure kq_19
                replace hb_1 := hb_1.pure kq_19
                replace hk := hk.pure kq_19
                refine WL.load Tryd.isAgg3 rfl ((hk.rsl.cellsAt hx2) _ _ rfl) rfl (?_)
                refine WL.nil ?_
                exact WX.one ⟨rfl, by first | exact Chg.refl _ _ | assumption⟩
              apply DQ.step (E' := [(4, _)])
              case ho => rfl
              case hs => exact ⟨rfl, trivial⟩
              case hk => rfl
              case h1 =>
                intro wq_20 kq_20
                refine WL.move rfl rfl (?_)
                refine WL.nil ?_
                exact WX.one ⟨rfl, by first | exact Chg.refl _ _ | assumption⟩
              apply DQ.step (E' := [(63, _)])
              case ho => rfl
              case hs => exact ⟨rfl, trivial⟩
              case hk => rfl
              case h1 =>
                intro wq_21 kq_21
                have zs_kq_21 := kq_21.size
                replace kk := kk.pure kq_21
                replace hb_1 := hb_1.pure kq_21
                replace hk := hk.pure kq_21
                refine WL.indexC hk.rsl Tryd.underlying76 Tryd.sizeOf75 rfl rfl ⟨hx3, rfl⟩ rfl ?_
                refine WL.nil ?_
                exact WX.one ⟨rfl, by first | exact Chg.refl _ _ | assumption⟩
              apply DQ.step (E' := [(64, _)])
              case ho => rfl
              case hs => exact ⟨rfl, trivial⟩
              case hk => rfl
              case h1 =>
                intro wq_22 kq_22
                refine WL.fieldAddr (fld_75_2) rfl rfl (?_)
                refine WL.nil ?_
                exact WX.one ⟨rfl, by first | exact Chg.refl _ _ | assumption⟩
              apply DQ.step (E' := [(65, _)])
              case ho => rfl
              case hs => exact ⟨rfl, trivial⟩
              case hk => rfl
              case h1 =>
                intro wq_23 kq_23
                have zs_kq_23 := kq_23.size
                replace kk := kk.pure kq_23
                replace hb_1 := hb_1.pure kq_23
                replace hk := hk.pure kq_23
                refine WL.load Tryd.isAgg9 rfl ((hk.rsl.cellsAt hx3) _ _ rfl) rfl (?_)
                refine WL.nil ?_
                exact WX.one ⟨rfl, by first | exact Chg.refl _ _ | assumption⟩
              apply DQ.step (E' := [(54, _), (58, _), (62, _), (66, _)])
              case ho => rfl
              case hs => exact ⟨rfl, rfl, rfl, rfl, trivial⟩
              case hk => rfl
              case h1 =>
                intro wq_24 kq_24
                refine WL.bld rfl (bld_23_0_1_2_3 _ _ _ _) rfl (?_)
                refine WL.nil ?_
                exact WX.one ⟨rfl, by first | exact Chg.refl _ _ | assumption⟩
              refine DQ.done (fun hd_7 => ?_)
              refine DL.step [] rfl trivial rfl (fun wq_25 kq_25 => ?_)
              have zs_kq_25 := kq_25.size
              replace kk := kk.pure kq_25
              replace hb_1 := hb_1.pure kq_25
              replace hk := hk.pure kq_25
              replace hd_7 := hd_7.pure kq_25
              refine WL.alloc Tryd.zeroValue23 rfl ?_
              intro g_26 w_26 hge_26 hlt_26 hb_26 k_26
              have zs_k_26 := k_26.size
              replace kk := kk.pure k_26
              replace hb_1 := hb_1.pure k_26
              replace hk := hk.pure k_26
              replace hd_7 := hd_7.pure k_26
              refine WL.nil ?_
              refine WX.one ⟨hd_7, ?_⟩
              refine DL.step [(6, _), (67, _)] rfl ⟨rfl, rfl, trivial⟩ rfl (fun wq_27 kq_27 => ?_)
              have zs_kq_27 := kq_27.size
              replace kk := kk.pure kq_27
              replace hb_1 := hb_1.pure kq_27
              replace hk := hk.pure kq_27
              replace hd_7 := hd_7.pure kq_27
              replace hb_26 := hb_26.pure kq_27
              refine WL.stores Tryd.sizeOf23 hb_26 rfl rfl (by first | (simp; done) | (simp; omega) | rfl) (by first | exact Enc.one _ _ | (intro u hu; obtain ⟨x, _, rfl⟩ := List.mem_map.1 hu; rfl) | (simp [Value.oneCell']; done) | (simp [Value.oneCell', Value.cells]; done)) (by first | (simp; done) | (simp; omega) | (simp [Value.cells]; done) | (simp [Value.cells]; omega) | exact Nat.le_of_ble_eq_true rfl) rfl ?_
              intro w_28 hs_28 hn_28 k_28
              have zs_k_28 := k_28.size
              replace kk := kk.chg k_28 (by first | (intro x h1 h2; exact h2) | (intro x h0 h1 h2; exact hS x h1 h2) | (intro x h0 h1 h2; have h3 : _ = _ := h2; subst h3; exact hSR h1.1) | (intro x h1 h2; have h3 : _ = _ := h2; subst h3; assumption) | (intro x h1 h2; have h3 : _ = _ := h2; exfalso; omega) | (intro b h1 h2 h3; have h4 : _ = _ := h3; (try dsimp only at h2); exfalso; omega) | (intro h1; have h2 : _ = _ := h1; exfalso; omega) | (intro h1; have h2 : _ ≤ _ := h1; exfalso; omega) | (intros; exfalso; (try dsimp only at *); omega) | (intro b h1 h2 h3; exfalso; have h4 := h3.2; (try dsimp only at *); omega) | (intro h1; exfalso; have h4 := h1.2; (try dsimp only at *); omega) | (intro x h1 h2; exfalso; have h4 := h2.2; (try dsimp only at *); omega) | (intro x h1 h2; exact ⟨_, rfl, h2⟩) | (intro x h1 h2; have h4 := h2.1; have h5 := h2.2; exfalso; omega) | (intro x h1 h2; exact h2.1) | (intro x h1 h2; rcases h2.1 with h3 | h3; exact h3; exfalso; omega) | (intro x h1 h2; rcases h2 with h3 | h3; exact h3; exfalso; omega))
              replace hb_1 := hb_1.chg k_28 (by first | (intro x h1 h2; exact h2) | (intro x h0 h1 h2; exact hS x h1 h2) | (intro x h0 h1 h2; have h3 : _ = _ := h2; subst h3; exact hSR h1.1) | (intro x h1 h2; have h3 : _ = _ := h2; subst h3; assumption) | (intro x h1 h2; have h3 : _ = _ := h2; exfalso; omega) | (intro b h1 h2 h3; have h4 : _ = _ := h3; (try dsimp only at h2); exfalso; omega) | (intro h1; have h2 : _ = _ := h1; exfalso; omega) | (intro h1; have h2 : _ ≤ _ := h1; exfalso; omega) | (intros; exfalso; (try dsimp only at *); omega) | (intro b h1 h2 h3; exfalso; have h4 := h3.2; (try dsimp only at *); omega) | (intro h1; exfalso; have h4 := h1.2; (try dsimp only at *); omega) | (intro x h1 h2; exfalso; have h4 := h2.2; (try dsimp only at *); omega) | (intro x h1 h2; exact ⟨_, rfl, h2⟩) | (intro x h1 h2; have h4 := h2.1; have h5 := h2.2; exfalso; omega) | (intro x h1 h2; exact h2.1) | (intro x h1 h2; rcases h2.1 with h3 | h3; exact h3; exfalso; omega) | (intro x h1 h2; rcases h2 with h3 | h3; exact h3; exfalso; omega))
              replace hk := hk.chg k_28 (by first | (intro x h1 h2; exact h2) | (intro x h0 h1 h2; exact hS x h1 h2) | (intro x h0 h1 h2; have h3 : _ = _ := h2; subst h3; exact hSR h1.1) | (intro x h1 h2; have h3 : _ = _ := h2; subst h3; assumption) | (intro x h1 h2; have h3 : _ = _ := h2; exfalso; omega) | (intro b h1 h2 h3; have h4 : _ = _ := h3; (try dsimp only at h2); exfalso; omega) | (intro h1; have h2 : _ = _ := h1; exfalso; omega) | (intro h1; have h2 : _ ≤ _ := h1; exfalso; omega) | (intros; exfalso; (try dsimp only at *); omega) | (intro b h1 h2 h3; exfalso; have h4 := h3.2; (try dsimp only at *); omega) | (intro h1; exfalso; have h4 := h1.2; (try dsimp only at *); omega) | (intro x h1 h2; exfalso; have h4 := h2.2; (try dsimp only at *); omega) | (intro x h1 h2; exact ⟨_, rfl, h2⟩) | (intro x h1 h2; have h4 := h2.1; have h5 := h2.2; exfalso; omega) | (intro x h1 h2; exact h2.1) | (intro x h1 h2; rcases h2.1 with h3 | h3; exact h3; exfalso; omega) | (intro x h1 h2; rcases h2 with h3 | h3; exact h3; exfalso; omega))
              replace hd_7 := hd_7.chg k_28 (by first | (intro x h1 h2; exact h2) | (intro x h0 h1 h2; exact hS x h1 h2) | (intro x h0 h1 h2; have h3 : _ = _ := h2; subst h3; exact hSR h1.1) | (intro x h1 h2; have h3 : _ = _ := h2; subst h3; assumption) | (intro x h1 h2; have h3 : _ = _ := h2; exfalso; omega) | (intro b h1 h2 h3; have h4 : _ = _ := h3; (try dsimp only at h2); exfalso; omega) | (intro h1; have h2 : _ = _ := h1; exfalso; omega) | (intro h1; have h2 : _ ≤ _ := h1; exfalso; omega) | (intros; exfalso; (try dsimp only at *); omega) | (intro b h1 h2 h3; exfalso; have h4 := h3.2; (try dsimp only at *); omega) | (intro h1; exfalso; have h4 := h1.2; (try dsimp only at *); omega) | (intro x h1 h2; exfalso; have h4 := h2.2; (try dsimp only at *); omega) | (intro x h1 h2; exact ⟨_, rfl, h2⟩) | (intro x h1 h2; have h4 := h2.1; have h5 := h2.2; exfalso; omega) | (intro x h1 h2; exact h2.1) | (intro x h1 h2; rcases h2.1 with h3 | h3; exact h3; exfalso; omega) | (intro x h1 h2; rcases h2 with h3 | h3; exact h3; exfalso; omega))
              replace hb_26 := hn_28
              refine WL.nil ?_
              refine WX.one0 (v := undef) ⟨hd_7, ?_⟩
              refine DL.done (fun we_29 ke_29 => ?_)
              have zs_ke_29 := ke_29.size
              replace kk := kk.pure ke_29
              replace hb_1 := hb_1.pure ke_29
              replace hk := hk.pure ke_29
              replace hd_7 := hd_7.pure ke_29
              replace hb_26 := hb_26.pure ke_29
              refine WX.then_normal (WC.seq (WC.seq (WC.region (WL.loadsB Tryd.isAgg23 Tryd.sizeOf23 hb_26 rfl (by first | (simp; done) | (simp; omega) | rfl) rfl (?_)))))
              have hwf := four_wf (b := s.data.toList) (by omega) hL
              refine WL.call eg_36 rfl rfl (ptr_calls (ptr4 i0 i1 i2 i3) _ hwf) ?_
              rintro v w5 ⟨rfl, k5⟩
              have zs_k5 := k5.size
              replace kk := kk.pure k5
              replace hb_1 := hb_1.pure k5
              replace hk := hk.pure k5
              replace hb_26 := hb_26.pure k5
              refine WL.move rfl rfl (WL.extract rfl rfl rfl (WL.extract rfl rfl rfl (WL.assign rfl rfl (WL.assign rfl rfl (WL.nil (WX.then_normal (WC.seq (?_))))))))
              refine WC.region (WL.move rfl rfl (?_))
              refine WL.neq? rfl rfl rfl (fun h74 => ?_) (fun h74 => ?_)
              ·
                refine WL.nil (WX.then_normal (WC.cond_true rfl (WC.seq (WC.region (WL.bld rfl (bld_23_z) rfl (WL.move rfl rfl (?_)))))))
                refine WL.stores Tryd.sizeOf23 hb_1 rfl rfl (by first | (simp; done) | (simp; omega) | rfl) (by first | exact Enc.one _ _ | (intro u hu; obtain ⟨x, _, rfl⟩ := List.mem_map.1 hu; rfl) | (simp [Value.oneCell']; done) | (simp [Value.oneCell', Value.cells]; done)) (by first | (simp; done) | (simp; omega) | (simp [Value.cells]; done) | (simp [Value.cells]; omega) | exact Nat.le_of_ble_eq_true rfl) rfl ?_
                intro w_30 hs_30 hn_30 k_30
                have zs_k_30 := k_30.size
                replace kk := kk.chg k_30 (by first | (intro x h1 h2; exact h2) | (intro x h0 h1 h2; exact hS x h1 h2) | (intro x h0 h1 h2; have h3 : _ = _ := h2; subst h3; exact hSR h1.1) | (intro x h1 h2; have h3 : _ = _ := h2; subst h3; assumption) | (intro x h1 h2; have h3 : _ = _ := h2; exfalso; omega) | (intro b h1 h2 h3; have h4 : _ = _ := h3; (try dsimp only at h2); exfalso; omega) | (intro h1; have h2 : _ = _ := h1; exfalso; omega) | (intro h1; have h2 : _ ≤ _ := h1; exfalso; omega) | (intros; exfalso; (try dsimp only at *); omega) | (intro b h1 h2 h3; exfalso; have h4 := h3.2; (try dsimp only at *); omega) | (intro h1; exfalso; have h4 := h1.2; (try dsimp only at *); omega) | (intro x h1 h2; exfalso; have h4 := h2.2; (try dsimp only at *); omega) | (intro x h1 h2; exact ⟨_, rfl, h2⟩) | (intro x h1 h2; have h4 := h2.1; have h5 := h2.2; exfalso; omega) | (intro x h1 h2; exact h2.1) | (intro x h1 h2; rcases h2.1 with h3 | h3; exact h3; exfalso; omega) | (intro x h1 h2; rcases h2 with h3 | h3; exact h3; exfalso; omega))
                replace hk := hk.chg k_30 (by first | (intro x h1 h2; exact h2) | (intro x h0 h1 h2; exact hS x h1 h2) | (intro x h0 h1 h2; have h3 : _ = _ := h2; subst h3; exact hSR h1.1) | (intro x h1 h2; have h3 : _ = _ := h2; subst h3; assumption) | (intro x h1 h2; have h3 : _ = _ := h2; exfalso; omega) | (intro b h1 h2 h3; have h4 : _ = _ := h3; (try dsimp only at h2); exfalso; omega) | (intro h1; have h2 : _ = _ := h1; exfalso; omega) | (intro h1; have h2 : _ ≤ _ := h1; exfalso; omega) | (intros; exfalso; (try dsimp only at *); omega) | (intro b h1 h2 h3; exfalso; have h4 := h3.2; (try dsimp only at *); omega) | (intro h1; exfalso; have h4 := h1.2; (try dsimp only at *); omega) | (intro x h1 h2; exfalso; have h4 := h2.2; (try dsimp only at *); omega) | (intro x h1 h2; exact ⟨_, rfl, h2⟩) | (intro x h1 h2; have h4 := h2.1; have h5 := h2.2; exfalso; omega) | (intro x h1 h2; exact h2.1) | (intro x h1 h2; rcases h2.1 with h3 | h3; exact h3; exfalso; omega) | (intro x h1 h2; rcases h2 with h3 | h3; exact h3; exfalso; omega))
                replace hb_26 := hb_26.chg k_30 (by first | (intro x h1 h2; exact h2) | (intro x h0 h1 h2; exact hS x h1 h2) | (intro x h0 h1 h2; have h3 : _ = _ := h2; subst h3; exact hSR h1.1) | (intro x h1 h2; have h3 : _ = _ := h2; subst h3; assumption) | (intro x h1 h2; have h3 : _ = _ := h2; exfalso; omega) | (intro b h1 h2 h3; have h4 : _ = _ := h3; (try dsimp only at h2); exfalso; omega) | (intro h1; have h2 : _ = _ := h1; exfalso; omega) | (intro h1; have h2 : _ ≤ _ := h1; exfalso; omega) | (intros; exfalso; (try dsimp only at *); omega) | (intro b h1 h2 h3; exfalso; have h4 := h3.2; (try dsimp only at *); omega) | (intro h1; exfalso; have h4 := h1.2; (try dsimp only at *); omega) | (intro x h1 h2; exfalso; have h4 := h2.2; (try dsimp only at *); omega) | (intro x h1 h2; exact ⟨_, rfl, h2⟩) | (intro x h1 h2; have h4 := h2.1; have h5 := h2.2; exfalso; omega) | (intro x h1 h2; exact h2.1) | (intro x h1 h2; rcases h2.1 with h3 | h3; exact h3; exfalso; omega) | (intro x h1 h2; rcases h2 with h3 | h3; exact h3; exfalso; omega))
                replace hb_1 := hn_30
                refine WL.assign rfl rfl (WL.nil (WX.then_normal (WC.ret (WX.then_ret (?_)))))
                refine WX.ret2c (.inl rfl) Tryd.results41 Tryd.isAgg23 Tryd.sizeOf23 hb_1 rfl (by first | (simp; done) | (simp; omega) | rfl) rfl ?_
                first
                  | (refine ⟨_, rfl, ?_, kk⟩
                     rw [unpR_bad (by omega)]
                     rfl)
                  | (refine ⟨_, rfl, ?_, kk⟩
                     rw [unpR_four hL, if_neg (by omega)]
                     rfl)
                  | (have hr : ¬ rightP (ptr4 i0 i1 i2 i3) := fun hr => h74 (by rw [ptrE, if_pos hr])
                     refine ⟨_, rfl, ?_, kk⟩
                     rw [unpR_four hL, if_neg (fun x => hr x.2.2)]
                     rw [ptrE, if_neg hr]
                     rfl)
                  | (have hr : rightP (ptr4 i0 i1 i2 i3) := by
                       by_cases hr : rightP (ptr4 i0 i1 i2 i3)
                       ·
                         exact hr
                       ·
                         rw [ptrE, if_neg hr] at h74; cases h74
                     refine ⟨_, rfl, ?_, kk⟩
                     rw [unpR_four hL, if_pos ⟨by omega, ⟨by omega, by omega, by omega, by omega⟩, hr⟩]
                     rfl)
              ·
                refine WL.nil (WX.then_normal (WC.cond_false rfl (WC.skip (WX.then_normal (WC.seq (WC.region (WL.loadsB Tryd.isAgg23 Tryd.sizeOf23 hb_26 rfl (by first | (simp; done) | (simp; omega) | rfl) rfl (?_))))))))
                refine WL.stores Tryd.sizeOf23 hb_1 rfl rfl (by first | (simp; done) | (simp; omega) | rfl) (by first | exact Enc.one _ _ | (intro u hu; obtain ⟨x, _, rfl⟩ := List.mem_map.1 hu; rfl) | (simp [Value.oneCell']; done) | (simp [Value.oneCell', Value.cells]; done)) (by first | (simp; done) | (simp; omega) | (simp [Value.cells]; done) | (simp [Value.cells]; omega) | exact Nat.le_of_ble_eq_true rfl) rfl ?_
                intro w_30 hs_30 hn_30 k_30
                have zs_k_30 := k_30.size
                replace kk := kk.chg k_30 (by first | (intro x h1 h2; exact h2) | (intro x h0 h1 h2; exact hS x h1 h2) | (intro x h0 h1 h2; have h3 : _ = _ := h2; subst h3; exact hSR h1.1) | (intro x h1 h2; have h3 : _ = _ := h2; subst h3; assumption) | (intro x h1 h2; have h3 : _ = _ := h2; exfalso; omega) | (intro b h1 h2 h3; have h4 : _ = _ := h3; (try dsimp only at h2); exfalso; omega) | (intro h1; have h2 : _ = _ := h1; exfalso; omega) | (intro h1; have h2 : _ ≤ _ := h1; exfalso; omega) | (intros; exfalso; (try dsimp only at *); omega) | (intro b h1 h2 h3; exfalso; have h4 := h3.2; (try dsimp only at *); omega) | (intro h1; exfalso; have h4 := h1.2; (try dsimp only at *); omega) | (intro x h1 h2; exfalso; have h4 := h2.2; (try dsimp only at *); omega) | (intro x h1 h2; exact ⟨_, rfl, h2⟩) | (intro x h1 h2; have h4 := h2.1; have h5 := h2.2; exfalso; omega) | (intro x h1 h2; exact h2.1) | (intro x h1 h2; rcases h2.1 with h3 | h3; exact h3; exfalso; omega) | (intro x h1 h2; rcases h2 with h3 | h3; exact h3; exfalso; omega))
                replace hk := hk.chg k_30 (by first | (intro x h1 h2; exact h2) | (intro x h0 h1 h2; exact hS x h1 h2) | (intro x h0 h1 h2; have h3 : _ = _ := h2; subst h3; exact hSR h1.1) | (intro x h1 h2; have h3 : _ = _ := h2; subst h3; assumption) | (intro x h1 h2; have h3 : _ = _ := h2; exfalso; omega) | (intro b h1 h2 h3; have h4 : _ = _ := h3; (try dsimp only at h2); exfalso; omega) | (intro h1; have h2 : _ = _ := h1; exfalso; omega) | (intro h1; have h2 : _ ≤ _ := h1; exfalso; omega) | (intros; exfalso; (try dsimp only at *); omega) | (intro b h1 h2 h3; exfalso; have h4 := h3.2; (try dsimp only at *); omega) | (intro h1; exfalso; have h4 := h1.2; (try dsimp only at *); omega) | (intro x h1 h2; exfalso; have h4 := h2.2; (try dsimp only at *); omega) | (intro x h1 h2; exact ⟨_, rfl, h2⟩) | (intro x h1 h2; have h4 := h2.1; have h5 := h2.2; exfalso; omega) | (intro x h1 h2; exact h2.1) | (intro x h1 h2; rcases h2.1 with h3 | h3; exact h3; exfalso; omega) | (intro x h1 h2; rcases h2 with h3 | h3; exact h3; exfalso; omega))
                replace hb_26 := hb_26.chg k_30 (by first | (intro x h1 h2; exact h2) | (intro x h0 h1 h2; exact hS x h1 h2) | (intro x h0 h1 h2; have h3 : _ = _ := h2; subst h3; exact hSR h1.1) | (intro x h1 h2; have h3 : _ = _ := h2; subst h3; assumption) | (intro x h1 h2; have h3 : _ = _ := h2; exfalso; omega) | (intro b h1 h2 h3; have h4 : _ = _ := h3; (try dsimp only at h2); exfalso; omega) | (intro h1; have h2 : _ = _ := h1; exfalso; omega) | (intro h1; have h2 : _ ≤ _ := h1; exfalso; omega) | (intros; exfalso; (try dsimp only at *); omega) | (intro b h1 h2 h3; exfalso; have h4 := h3.2; (try dsimp only at *); omega) | (intro h1; exfalso; have h4 := h1.2; (try dsimp only at *); omega) | (intro x h1 h2; exfalso; have h4 := h2.2; (try dsimp only at *); omega) | (intro x h1 h2; exact ⟨_, rfl, h2⟩) | (intro x h1 h2; have h4 := h2.1; have h5 := h2.2; exfalso; omega) | (intro x h1 h2; exact h2.1) | (intro x h1 h2; rcases h2.1 with h3 | h3; exact h3; exfalso; omega) | (intro x h1 h2; rcases h2 with h3 | h3; exact h3; exfalso; omega))
                replace hb_1 := hn_30
                refine WL.assign rfl rfl (WL.nil (WX.then_normal (WC.ret (?_))))
                refine WX.ret2c (.inl rfl) Tryd.results41 Tryd.isAgg23 Tryd.sizeOf23 hb_1 rfl (by first | (simp; done) | (simp; omega) | rfl) rfl ?_
                first
                  | (refine ⟨_, rfl, ?_, kk⟩
                     rw [unpR_bad (by omega)]
                     rfl)
                  | (refine ⟨_, rfl, ?_, kk⟩
                     rw [unpR_four hL, if_neg (by omega)]
                     rfl)
                  | (have hr : ¬ rightP (ptr4 i0 i1 i2 i3) := fun hr => h74 (by rw [ptrE, if_pos hr])
                     refine ⟨_, rfl, ?_, kk⟩
                     rw [unpR_four hL, if_neg (fun x => hr x.2.2)]
                     rw [ptrE, if_neg hr]
                     rfl)
                  | (have hr : rightP (ptr4 i0 i1 i2 i3) := by
                       by_cases hr : rightP (ptr4 i0 i1 i2 i3)
                       ·
                         exact hr
                       ·
                         rw [ptrE, if_neg hr] at h74; cases h74
                     refine ⟨_, rfl, ?_, kk⟩
                     rw [unpR_four hL, if_pos ⟨by omega, ⟨by omega, by omega, by omega, by omega⟩, hr⟩]
                     rfl)
end Go.Proofs.YtjeldcjchipdgaaDoor
