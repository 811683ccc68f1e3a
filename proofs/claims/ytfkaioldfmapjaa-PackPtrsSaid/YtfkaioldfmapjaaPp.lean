import Derived.Test.YtfkaioldfmapjaaHk
import Derived.Test.YtfkaioldfmapjaaPn
namespace Go.Proofs.Ytfkaioldfmapjaa
open Go.RowKit Go.HL

/-! pointers -/
structure PtrV where
  a : Int
  z : Int
  b : Int
  s : ByteArray
theorem PtrV.eq_iff (p q : PtrV) : (p.a = q.a ∧ p.z = q.z ∧ p.b = q.b ∧ p.s = q.s) ↔ p = q := by
  obtain ⟨a, z, b, s⟩ := p
  obtain ⟨a2, z2, b2, s2⟩ := q
  simp
instance : DecidableEq PtrV := fun a b => decidable_of_iff _ (PtrV.eq_iff a b)
def ept : Enc PtrV := ⟨4, fun p => [vi p.a, vi p.z, vi p.b, .string p.s], fun _ => rfl, by simp [Value.oneCell'], by decide⟩
def WfP (p : PtrV) : Prop := (-9223372036854775808 ≤ p.a ∧ p.a ≤ 9223372036854775807) ∧ (-9223372036854775808 ≤ p.z ∧ p.z ≤ 9223372036854775807) ∧ (-9223372036854775808 ≤ p.b ∧ p.b ≤ 9223372036854775807)
theorem eqg_ptr : Try.prog.eqGuardType Try.prog.depth 49 = false := by kernel_rfl
theorem eq_ptr (a b : PtrV) (w : World) : (Op.equalIn 10000 49 (.agg (ept.f a).toArray) (.agg (ept.f b).toArray)).run Try.prog w = .ok (decide (a = b)) w := by
  refine eqA_of (d := 9999) Try.underlying49 (by kernel_rfl) ?_
  have h3 : (decide (a.a = b.a) && (decide (a.z = b.z) && (decide (a.b = b.b) && (decide (a.s = b.s) && true)))) = decide (a = b) := by
    have : decide (a = b) = decide (a.a = b.a ∧ a.z = b.z ∧ a.b = b.b ∧ a.s = b.s) := decide_eq_decide.2 (PtrV.eq_iff a b).symm
    rw [this]
    simp [Bool.decide_and]
  rw [← h3]
  refine eqf_cons rfl (part1 Try.sizeOf3 Try.isAgg3 rfl) (part1 Try.sizeOf3 Try.isAgg3 rfl) (run_equalIn_int w 9998 _ _ _ _ _ Try.underlying3) ?_
  refine eqf_cons rfl (part1 Try.sizeOf3 Try.isAgg3 rfl) (part1 Try.sizeOf3 Try.isAgg3 rfl) (run_equalIn_int w 9998 _ _ _ _ _ Try.underlying3) ?_
  refine eqf_cons rfl (part1 Try.sizeOf3 Try.isAgg3 rfl) (part1 Try.sizeOf3 Try.isAgg3 rfl) (run_equalIn_int w 9998 _ _ _ _ _ Try.underlying3) ?_
  refine eqf_cons rfl (part1 Try.sizeOf9 Try.isAgg9 rfl) (part1 Try.sizeOf9 Try.isAgg9 rfl) (by rw [← beq_bytes]; exact run_equalIn_string w 9998 _ _ _ Try.underlying9) eqf_nil

def rightP (p : PtrV) : Prop := 0 ≤ p.a ∧ 0 ≤ p.b ∧ 1 ≤ p.z ∧ p.z ≤ 1024 ∧ p.s.size = 32
instance (p : PtrV) : Decidable (rightP p) := by unfold rightP; infer_instance
def pit (p : PtrV) : List Item := [⟨1, p.a, ⟨#[]⟩⟩, ⟨1, p.z, ⟨#[]⟩⟩, ⟨1, p.b, ⟨#[]⟩⟩, ⟨2, 0, p.s⟩]
theorem pit_good {p : PtrV} (h : rightP p) (hw : WfP p) : ∀ i ∈ pit p, Good i := by
  obtain ⟨h1, h2, h3, h4, h5⟩ := h
  obtain ⟨w1, w2, w3⟩ := hw
  intro i hi
  simp only [pit, List.mem_cons, List.not_mem_nil, or_false] at hi
  rcases hi with rfl | rfl | rfl | rfl
  · exact ⟨by simp [longI], by simp [okI], w1⟩
  · exact ⟨by simp [longI], by simp [okI], w2⟩
  · exact ⟨by simp [longI], by simp [okI], w3⟩
  · exact ⟨by simp [longI]; omega, by simp [okI], ⟨show (-9223372036854775808 : Int) ≤ 0 by decide, show (0 : Int) ≤ 9223372036854775807 by decide⟩⟩
theorem pit_check {p : PtrV} (h : rightP p) (hw : WfP p) : checkE (pit p) = 0 := check_good (by simp [pit]) (pit_good h hw)
def ptrS (p : PtrV) : ByteArray := if rightP p then ⟨(encAll (pit p)).toArray⟩ else ⟨#[]⟩
def ptrE (p : PtrV) : Int := if rightP p then 0 else 2

theorem ptr_calls (p : PtrV) (w : World) (hw : WfP p) : Calls Try.prog 25 [.agg (ept.f p).toArray].toArray w (Ret fun v w' => v = .tuple #[.string (ptrS p), vi (ptrE p)] ∧ Chg Nob w w') := by
  have kk := Chg.refl Nob w
  refine Calls.of_WC Try.func25 rfl Try.ntmps25 (by simp) ?_
  refine WC.seq (WC.region (?_))
  refine WL.box rfl rfl ?_
  intro g_1 w_1 hge_1 hlt_1 hb_1 k_1
  have zs_k_1 := k_1.size
  replace kk := kk.pure k_1
  refine WL.assign rfl rfl (WL.assign rfl rfl (WL.nil (WX.then_normal (WC.seq (WC.seq (WC.region (WL.fieldAddr (fld_49_0) rfl rfl (?_))))))))
  refine WL.loadB Try.isAgg3 hb_1 rfl rfl rfl (?_)
  refine WL.lss? rfl rfl rfl (fun h8 => ?_) (fun h8 => ?_)
  ·
    refine WL.move rfl rfl (WL.pass rfl rfl rfl rfl (WL.pass rfl rfl rfl rfl (WL.pass rfl rfl rfl rfl (WL.pickT rfl rfl rfl (WL.move rfl rfl (WL.pass rfl rfl rfl rfl (WL.pass rfl rfl rfl rfl (?_))))))))
    refine WL.pass rfl rfl rfl rfl (WL.pickT rfl rfl rfl (WL.move rfl rfl (WL.pass rfl rfl rfl rfl (WL.pass rfl rfl rfl rfl (WL.pass rfl rfl rfl rfl (WL.pickT rfl rfl rfl (WL.move rfl rfl (?_))))))))
    refine WL.pass rfl rfl rfl rfl (WL.pass rfl rfl rfl rfl (WL.pass rfl rfl rfl rfl (WL.pass rfl rfl rfl rfl (WL.pickT rfl rfl rfl (WL.nil (WX.then_normal (WC.cond_true rfl (?_))))))))
    refine WC.seq (WC.region (WL.assign rfl rfl (WL.assign rfl rfl (WL.nil (WX.then_normal (WC.ret (WX.then_ret (?_))))))))
    refine WX.ret2 (.inl rfl) Try.results25 rfl rfl ?_
    first
      | (have hr : ¬ rightP p := by unfold rightP; omega
         refine ⟨_, rfl, ?_, kk⟩
         rw [ptrS, ptrE, if_neg hr, if_neg hr])
      | (refine ⟨_, rfl, ?_, kk⟩
         rw [ptrS, ptrE, if_pos hr, if_pos hr]
         rfl)
  ·
    refine WL.move rfl rfl (WL.want rfl rfl rfl (WL.fieldAddr (fld_49_2) rfl rfl (WL.want rfl rfl rfl (WL.loadB Try.isAgg3 hb_1 rfl rfl rfl (WL.want rfl rfl rfl (?_))))))
    refine WL.lss? rfl rfl rfl (fun h12 => ?_) (fun h12 => ?_)
    ·
      refine WL.pickF rfl rfl rfl (WL.move rfl rfl (WL.pass rfl rfl rfl rfl (WL.pass rfl rfl rfl rfl (WL.pass rfl rfl rfl rfl (WL.pickT rfl rfl rfl (WL.move rfl rfl (WL.pass rfl rfl rfl rfl (?_))))))))
      refine WL.pass rfl rfl rfl rfl (WL.pass rfl rfl rfl rfl (WL.pickT rfl rfl rfl (WL.move rfl rfl (WL.pass rfl rfl rfl rfl (WL.pass rfl rfl rfl rfl (WL.pass rfl rfl rfl rfl (WL.pass rfl rfl rfl rfl (?_))))))))
      refine WL.pickT rfl rfl rfl (WL.nil (WX.then_normal (WC.cond_true rfl (WC.seq (WC.region (WL.assign rfl rfl (WL.assign rfl rfl (?_))))))))
      refine WL.nil (WX.then_normal (WC.ret (WX.then_ret (?_))))
      refine WX.ret2 (.inl rfl) Try.results25 rfl rfl ?_
      first
        | (have hr : ¬ rightP p := by unfold rightP; omega
           refine ⟨_, rfl, ?_, kk⟩
           rw [ptrS, ptrE, if_neg hr, if_neg hr])
        | (refine ⟨_, rfl, ?_, kk⟩
           rw [ptrS, ptrE, if_pos hr, if_pos hr]
           rfl)
    ·
      refine WL.pickF rfl rfl rfl (WL.move rfl rfl (WL.want rfl rfl rfl (WL.fieldAddr (fld_49_1) rfl rfl (WL.want rfl rfl rfl (WL.loadB Try.isAgg3 hb_1 rfl rfl rfl (WL.want rfl rfl rfl (?_)))))))
      refine WL.lss? rfl rfl rfl (fun h17 => ?_) (fun h17 => ?_)
      ·
        refine WL.pickF rfl rfl rfl (WL.move rfl rfl (WL.pass rfl rfl rfl rfl (WL.pass rfl rfl rfl rfl (WL.pass rfl rfl rfl rfl (WL.pickT rfl rfl rfl (WL.move rfl rfl (WL.pass rfl rfl rfl rfl (?_))))))))
        refine WL.pass rfl rfl rfl rfl (WL.pass rfl rfl rfl rfl (WL.pass rfl rfl rfl rfl (WL.pickT rfl rfl rfl (WL.nil (WX.then_normal (WC.cond_true rfl (WC.seq (?_))))))))
        refine WC.region (WL.assign rfl rfl (WL.assign rfl rfl (WL.nil (WX.then_normal (WC.ret (WX.then_ret (?_)))))))
        refine WX.ret2 (.inl rfl) Try.results25 rfl rfl ?_
        first
          | (have hr : ¬ rightP p := by unfold rightP; omega
             refine ⟨_, rfl, ?_, kk⟩
             rw [ptrS, ptrE, if_neg hr, if_neg hr])
          | (refine ⟨_, rfl, ?_, kk⟩
             rw [ptrS, ptrE, if_pos hr, if_pos hr]
             rfl)
      ·
        refine WL.pickF rfl rfl rfl (WL.move rfl rfl (WL.want rfl rfl rfl (WL.fieldAddr (fld_49_1) rfl rfl (WL.want rfl rfl rfl (WL.loadB Try.isAgg3 hb_1 rfl rfl rfl (WL.want rfl rfl rfl (?_)))))))
        refine WL.gtr? rfl rfl rfl (fun h22 => ?_) (fun h22 => ?_)
        ·
          refine WL.pickF rfl rfl rfl (WL.move rfl rfl (WL.pass rfl rfl rfl rfl (WL.pass rfl rfl rfl rfl (WL.pass rfl rfl rfl rfl (WL.pass rfl rfl rfl rfl (WL.pickT rfl rfl rfl (WL.nil (?_))))))))
          refine WX.then_normal (WC.cond_true rfl (WC.seq (WC.region (WL.assign rfl rfl (WL.assign rfl rfl (WL.nil (WX.then_normal (?_))))))))
          refine WC.ret (WX.then_ret (?_))
          refine WX.ret2 (.inl rfl) Try.results25 rfl rfl ?_
          first
            | (have hr : ¬ rightP p := by unfold rightP; omega
               refine ⟨_, rfl, ?_, kk⟩
               rw [ptrS, ptrE, if_neg hr, if_neg hr])
            | (refine ⟨_, rfl, ?_, kk⟩
               rw [ptrS, ptrE, if_pos hr, if_pos hr]
               rfl)
        ·
          refine WL.pickF rfl rfl rfl (WL.move rfl rfl (WL.want rfl rfl rfl (WL.fieldAddr (fld_49_3) rfl rfl (WL.want rfl rfl rfl (WL.loadB Try.isAgg9 hb_1 rfl rfl rfl (WL.want rfl rfl rfl (WL.lens Try.underlying9 rfl rfl (?_))))))))
          refine WL.want rfl rfl rfl (?_)
          refine WL.neq? rfl rfl rfl (fun h28 => ?_) (fun h28 => ?_)
          ·
            refine WL.pickF rfl rfl rfl (WL.nil (WX.then_normal (WC.cond_true rfl (WC.seq (WC.region (WL.assign rfl rfl (WL.assign rfl rfl (?_))))))))
            refine WL.nil (WX.then_normal (WC.ret (WX.then_ret (?_))))
            refine WX.ret2 (.inl rfl) Try.results25 rfl rfl ?_
            first
              | (have hr : ¬ rightP p := by unfold rightP; omega
                 refine ⟨_, rfl, ?_, kk⟩
                 rw [ptrS, ptrE, if_neg hr, if_neg hr])
              | (refine ⟨_, rfl, ?_, kk⟩
                 rw [ptrS, ptrE, if_pos hr, if_pos hr]
                 rfl)
          ·
            refine WL.pickF rfl rfl rfl (WL.nil (WX.then_normal (WC.cond_false rfl (WC.skip (WX.then_normal (WC.seq (WC.region (?_))))))))
            refine WL.fieldAddr (fld_49_0) rfl rfl (WL.loadB Try.isAgg3 hb_1 rfl rfl rfl (WL.bld rfl (bld_37_0_1 _ _) rfl (WL.fieldAddr (fld_49_1) rfl rfl (WL.loadB Try.isAgg3 hb_1 rfl rfl rfl (WL.bld rfl (bld_37_0_1 _ _) rfl (WL.fieldAddr (fld_49_2) rfl rfl (WL.loadB Try.isAgg3 hb_1 rfl rfl rfl (?_))))))))
            refine WL.bld rfl (bld_37_0_1 _ _) rfl (WL.fieldAddr (fld_49_3) rfl rfl (WL.loadB Try.isAgg9 hb_1 rfl rfl rfl (WL.bld rfl (bld_37_0_2 _ _) rfl (?_))))
            have hr : rightP p := by unfold rightP; omega
            refine WL.build (e := eit) [⟨1, p.a, ⟨#[]⟩⟩, ⟨1, p.z, ⟨#[]⟩⟩, ⟨1, p.b, ⟨#[]⟩⟩, ⟨2, 0, p.s⟩] Try.underlying22 Try.sizeOf37 Try.zeroValue37 rfl rfl rfl (by first | (simp [Value.cells]; done) | (simp [Value.cells] <;> rfl) | (simp [Value.cells, eb, ei, es, ebool, e32, e64]; done)) (by decide) rfl ?_
            intro a_ha w_ha ha l_ha z_ha k_ha
            have zs_k_ha := k_ha.size
            replace kk := kk.pure k_ha
            replace hb_1 := hb_1.pure k_ha
            refine WL.call eg_14 rfl rfl (encode_calls ha.rsl (by simp)) ?_
            rintro v w2 ⟨ax, cx, rfl, hx, k2⟩
            rw [show checkE [⟨1, p.a, ⟨#[]⟩⟩, ⟨1, p.z, ⟨#[]⟩⟩, ⟨1, p.b, ⟨#[]⟩⟩, ⟨2, 0, p.s⟩] = 0 from pit_check hr hw] at hx ⊢
            rw [if_pos rfl] at hx ⊢
            have zs_k2 := k2.size
            replace kk := kk.pure k2
            replace hb_1 := hb_1.pure k2
            replace ha := ha.pure k2
            replace hx := hx.lt
            refine WL.move rfl rfl (WL.extract rfl rfl rfl (WL.extract rfl rfl rfl (WL.assign rfl rfl (WL.assign rfl rfl (WL.nil (WX.then_normal (WC.seq (?_))))))))
            refine WC.region (WL.move rfl rfl (WL.toStr Try.underlying24 Try.underlying5 Try.underlying9 hx.rsl rfl rfl (WL.move rfl rfl (WL.assign rfl rfl (WL.assign rfl rfl (WL.nil (WX.then_normal (?_))))))))
            refine WC.ret (?_)
            refine WX.ret2 (.inl rfl) Try.results25 rfl rfl ?_
            first
              | (have hr : ¬ rightP p := by unfold rightP; omega
                 refine ⟨_, rfl, ?_, kk⟩
                 rw [ptrS, ptrE, if_neg hr, if_neg hr])
              | (refine ⟨_, rfl, ?_, kk⟩
                 rw [ptrS, ptrE, if_pos hr, if_pos hr]
                 rfl)
theorem rightPtr_calls (p : PtrV) (w : World) : Calls Try.prog 42 [.agg (ept.f p).toArray].toArray w (Ret fun v w' => v = .bool (decide (rightP p)) ∧ Chg Nob w w') := by
  have kk := Chg.refl Nob w
  refine Calls.of_WC Try.func42 rfl Try.ntmps42 (by simp) ?_
  refine WC.seq (WC.region (?_))
  refine WL.box rfl rfl ?_
  intro g_1 w_1 hge_1 hlt_1 hb_1 k_1
  have zs_k_1 := k_1.size
  replace kk := kk.pure k_1
  refine WL.assign rfl rfl (WL.nil (WX.then_normal (WC.seq (WC.region (WL.fieldAddr (fld_49_0) rfl rfl (WL.loadB Try.isAgg3 hb_1 rfl rfl rfl (?_)))))))
  refine WL.geq? rfl rfl rfl (fun h5 => ?_) (fun h5 => ?_)
  ·
    refine WL.move rfl rfl (WL.want rfl rfl rfl (WL.fieldAddr (fld_49_2) rfl rfl (WL.want rfl rfl rfl (WL.loadB Try.isAgg3 hb_1 rfl rfl rfl (WL.want rfl rfl rfl (?_))))))
    refine WL.geq? rfl rfl rfl (fun h9 => ?_) (fun h9 => ?_)
    ·
      refine WL.pickT rfl rfl rfl (WL.move rfl rfl (WL.want rfl rfl rfl (WL.fieldAddr (fld_49_1) rfl rfl (WL.want rfl rfl rfl (WL.loadB Try.isAgg3 hb_1 rfl rfl rfl (WL.want rfl rfl rfl (?_)))))))
      refine WL.geq? rfl rfl rfl (fun h14 => ?_) (fun h14 => ?_)
      ·
        refine WL.pickT rfl rfl rfl (WL.move rfl rfl (WL.want rfl rfl rfl (WL.fieldAddr (fld_49_1) rfl rfl (WL.want rfl rfl rfl (WL.loadB Try.isAgg3 hb_1 rfl rfl rfl (WL.want rfl rfl rfl (?_)))))))
        refine WL.leq? rfl rfl rfl (fun h19 => ?_) (fun h19 => ?_)
        ·
          refine WL.pickT rfl rfl rfl (WL.move rfl rfl (WL.want rfl rfl rfl (WL.fieldAddr (fld_49_3) rfl rfl (WL.want rfl rfl rfl (WL.loadB Try.isAgg9 hb_1 rfl rfl rfl (WL.want rfl rfl rfl (WL.lens Try.underlying9 rfl rfl (?_))))))))
          refine WL.want rfl rfl rfl (WL.eql rfl rfl rfl (WL.pickT rfl rfl rfl (WL.assign rfl rfl (WL.nil (WX.then_normal (WC.ret (?_)))))))
          refine WX.ret1 (.inl rfl) Try.results42 rfl ?_
          refine ⟨_, rfl, ?_, kk⟩
          first
            | exact congrArg Value.bool (decide_eq_decide.2 (by unfold rightP; omega))
            | (refine congrArg Value.bool (Eq.symm (decide_eq_false ?_)); unfold rightP; omega)
        ·
          refine WL.pickT rfl rfl rfl (WL.move rfl rfl (WL.pass rfl rfl rfl rfl (WL.pass rfl rfl rfl rfl (WL.pass rfl rfl rfl rfl (WL.pass rfl rfl rfl rfl (WL.pickF rfl rfl rfl (WL.assign rfl rfl (?_))))))))
          refine WL.nil (WX.then_normal (WC.ret (?_)))
          refine WX.ret1 (.inl rfl) Try.results42 rfl ?_
          refine ⟨_, rfl, ?_, kk⟩
          first
            | exact congrArg Value.bool (decide_eq_decide.2 (by unfold rightP; omega))
            | (refine congrArg Value.bool (Eq.symm (decide_eq_false ?_)); unfold rightP; omega)
      ·
        refine WL.pickT rfl rfl rfl (WL.move rfl rfl (WL.pass rfl rfl rfl rfl (WL.pass rfl rfl rfl rfl (WL.pass rfl rfl rfl rfl (WL.pickF rfl rfl rfl (WL.move rfl rfl (WL.pass rfl rfl rfl rfl (?_))))))))
        refine WL.pass rfl rfl rfl rfl (WL.pass rfl rfl rfl rfl (WL.pass rfl rfl rfl rfl (WL.pickF rfl rfl rfl (WL.assign rfl rfl (WL.nil (WX.then_normal (WC.ret (?_))))))))
        refine WX.ret1 (.inl rfl) Try.results42 rfl ?_
        refine ⟨_, rfl, ?_, kk⟩
        first
          | exact congrArg Value.bool (decide_eq_decide.2 (by unfold rightP; omega))
          | (refine congrArg Value.bool (Eq.symm (decide_eq_false ?_)); unfold rightP; omega)
    ·
      refine WL.pickT rfl rfl rfl (WL.move rfl rfl (WL.pass rfl rfl rfl rfl (WL.pass rfl rfl rfl rfl (WL.pass rfl rfl rfl rfl (WL.pickF rfl rfl rfl (WL.move rfl rfl (WL.pass rfl rfl rfl rfl (?_))))))))
      refine WL.pass rfl rfl rfl rfl (WL.pass rfl rfl rfl rfl (WL.pickF rfl rfl rfl (WL.move rfl rfl (WL.pass rfl rfl rfl rfl (WL.pass rfl rfl rfl rfl (WL.pass rfl rfl rfl rfl (WL.pass rfl rfl rfl rfl (?_))))))))
      refine WL.pickF rfl rfl rfl (WL.assign rfl rfl (WL.nil (WX.then_normal (WC.ret (?_)))))
      refine WX.ret1 (.inl rfl) Try.results42 rfl ?_
      refine ⟨_, rfl, ?_, kk⟩
      first
        | exact congrArg Value.bool (decide_eq_decide.2 (by unfold rightP; omega))
        | (refine congrArg Value.bool (Eq.symm (decide_eq_false ?_)); unfold rightP; omega)
  ·
    refine WL.move rfl rfl (WL.pass rfl rfl rfl rfl (WL.pass rfl rfl rfl rfl (WL.pass rfl rfl rfl rfl (WL.pickF rfl rfl rfl (WL.move rfl rfl (WL.pass rfl rfl rfl rfl (WL.pass rfl rfl rfl rfl (?_))))))))
    refine WL.pass rfl rfl rfl rfl (WL.pickF rfl rfl rfl (WL.move rfl rfl (WL.pass rfl rfl rfl rfl (WL.pass rfl rfl rfl rfl (WL.pass rfl rfl rfl rfl (WL.pickF rfl rfl rfl (WL.move rfl rfl (?_))))))))
    refine WL.pass rfl rfl rfl rfl (WL.pass rfl rfl rfl rfl (WL.pass rfl rfl rfl rfl (WL.pass rfl rfl rfl rfl (WL.pickF rfl rfl rfl (WL.assign rfl rfl (WL.nil (WX.then_normal (?_))))))))
    refine WC.ret (?_)
    refine WX.ret1 (.inl rfl) Try.results42 rfl ?_
    refine ⟨_, rfl, ?_, kk⟩
    first
      | exact congrArg Value.bool (decide_eq_decide.2 (by unfold rightP; omega))
      | (refine congrArg Value.bool (Eq.symm (decide_eq_false ?_)); unfold rightP; omega)
theorem items_calls (p : PtrV) (w : World) : Calls Try.prog 43 [.agg (ept.f p).toArray].toArray w (Ret fun v w' => (∃ (ao : Option Addr) (c : Nat), v = .slice ao (pit p).length c ∧ RSl (fun _ => True) w' eit ao c (pit p)) ∧ Chg Nob w w') := by
  have kk := Chg.refl Nob w
  refine Calls.of_WC Try.func43 rfl Try.ntmps43 (by simp) ?_
  refine WC.seq (WC.region (?_))
  refine WL.box rfl rfl ?_
  intro g_1 w_1 hge_1 hlt_1 hb_1 k_1
  have zs_k_1 := k_1.size
  replace kk := kk.pure k_1
  refine WL.assign rfl rfl (WL.nil (WX.then_normal (WC.seq (WC.region (WL.fieldAddr (fld_49_0) rfl rfl (WL.loadB Try.isAgg3 hb_1 rfl rfl rfl (WL.bld rfl (bld_37_0_1 _ _) rfl (?_))))))))
  refine WL.fieldAddr (fld_49_1) rfl rfl (WL.loadB Try.isAgg3 hb_1 rfl rfl rfl (WL.bld rfl (bld_37_0_1 _ _) rfl (WL.fieldAddr (fld_49_2) rfl rfl (WL.loadB Try.isAgg3 hb_1 rfl rfl rfl (WL.bld rfl (bld_37_0_1 _ _) rfl (WL.fieldAddr (fld_49_3) rfl rfl (WL.loadB Try.isAgg9 hb_1 rfl rfl rfl (?_))))))))
  refine WL.bld rfl (bld_37_0_2 _ _) rfl (?_)
  refine WL.build (e := eit) [⟨1, p.a, ⟨#[]⟩⟩, ⟨1, p.z, ⟨#[]⟩⟩, ⟨1, p.b, ⟨#[]⟩⟩, ⟨2, 0, p.s⟩] Try.underlying22 Try.sizeOf37 Try.zeroValue37 rfl rfl rfl (by first | (simp [Value.cells]; done) | (simp [Value.cells] <;> rfl) | (simp [Value.cells, eb, ei, es, ebool, e32, e64]; done)) (by decide) rfl ?_
  intro a_ha w_ha ha l_ha z_ha k_ha
  have zs_k_ha := k_ha.size
  replace kk := kk.pure k_ha
  replace hb_1 := hb_1.pure k_ha
  refine WL.assign rfl rfl (WL.nil (WX.then_normal (WC.ret (?_))))
  refine WX.ret1 (.inl rfl) Try.results43 rfl ?_
  exact ⟨_, rfl, ⟨_, _, rfl, ha.rsl.mono fun _ _ => trivial⟩, kk⟩
theorem docPtr_calls (p : PtrV) (w : World) (hw : WfP p) : Calls Try.prog 24 [.agg (ept.f p).toArray].toArray w (Ret fun v w' => v = .tuple #[.string (ptrS p), vi (ptrE p)] ∧ Chg Nob w w') := by
  have kk := Chg.refl Nob w
  refine Calls.of_WC Try.func24 rfl Try.ntmps24 (by simp) ?_
  refine WC.seq (WC.region (?_))
  refine WL.box rfl rfl ?_
  intro g_1 w_1 hge_1 hlt_1 hb_1 k_1
  have zs_k_1 := k_1.size
  replace kk := kk.pure k_1
  refine WL.assign rfl rfl (WL.assign rfl rfl (WL.nil (WX.then_normal (WC.seq (WC.seq (WC.region (WL.loadsB Try.isAgg49 Try.sizeOf49 hb_1 rfl rfl rfl (?_))))))))
  refine WL.call eg_42 rfl rfl (rightPtr_calls p _) ?_
  rintro v w1 ⟨rfl, k1⟩
  have zs_k1 := k1.size
  replace kk := kk.pure k1
  replace hb_1 := hb_1.pure k1
  by_cases hr : rightP p
  ·
    rw [decide_eq_true hr]
    refine WL.not rfl rfl (WL.nil (WX.then_normal (WC.cond_false rfl (WC.skip (WX.then_normal (WC.seq (WC.region (?_))))))))
    refine WL.loadsB Try.isAgg49 Try.sizeOf49 hb_1 rfl rfl rfl (?_)
    refine WL.call eg_43 rfl rfl (items_calls p _) ?_
    rintro v w1 ⟨⟨ax, cx, rfl, hx⟩, k1⟩
    have zs_k1 := k1.size
    replace kk := kk.pure k1
    replace hb_1 := hb_1.pure k1
    have hx2 := hx.old
    refine WL.call eg_34 rfl rfl (rencode_calls hx2 (by simp [pit]) (fun i hi => ⟨(pit_good hr hw i hi).1, (pit_good hr hw i hi).2.1⟩) (fun i hi => (pit_good hr hw i hi).2.2)) ?_
    rintro v w1 ⟨rfl, k1⟩
    have zs_k1 := k1.size
    replace kk := kk.pure k1
    replace hb_1 := hb_1.pure k1
    refine WL.assign rfl rfl (WL.assign rfl rfl (WL.nil (WX.then_normal (WC.ret (?_)))))
    refine WX.ret2 (.inl rfl) Try.results24 rfl rfl ?_
    refine ⟨_, rfl, ?_, kk⟩
    first
      | (rw [ptrS, ptrE, if_neg hr, if_neg hr]; done)
      | (rw [ptrS, ptrE, if_pos hr, if_pos hr])
  ·
    rw [decide_eq_false hr]
    refine WL.not rfl rfl (WL.nil (WX.then_normal (WC.cond_true rfl (WC.seq (WC.region (WL.assign rfl rfl (WL.assign rfl rfl (?_))))))))
    refine WL.nil (WX.then_normal (WC.ret (WX.then_ret (?_))))
    refine WX.ret2 (.inl rfl) Try.results24 rfl rfl ?_
    refine ⟨_, rfl, ?_, kk⟩
    first
      | (rw [ptrS, ptrE, if_neg hr, if_neg hr]; done)
      | (rw [ptrS, ptrE, if_pos hr, if_pos hr])
end Go.Proofs.Ytfkaioldfmapjaa
