import Derived.Test.YtfkaioldfmapjaaPm
namespace Go.Proofs.Ytfkaioldfmapjaa
open Go.RowKit Go.HL

theorem packRecords_calls {w : World} {al ab : Option Addr} {cl cb : Nat} {l : List Item} {b : List UInt8} (hl : RSl (· < w.heap.size) w eit al cl l) (hb : RSl (· < w.heap.size) w eb ab cb b) (bl : l.length ≤ 4398046511104) (bb : b.length ≤ 140737488351232) (hwf : ∀ i ∈ l, RIt i) :
    Calls Try.prog 4 [.slice al l.length cl, .slice ab b.length cb].toArray w (Ret fun v w' => v = .bool true ∧ Chg Nob w w') := by
  have hw := Chg.refl Nob w
  refine Calls.of_WC Try.func4 rfl Try.ntmps4 (by simp) ?_
  refine WC.seq (WC.region (WL.assign rfl rfl (WL.nil (WX.then_normal (WC.seq (WC.seq (WC.region (?_))))))))
  refine WL.call eg_13 rfl rfl (known5_calls _) ?_
  rintro v w0 ⟨rfl, k0⟩
  have zs_k0 := k0.size
  replace hl := hl.pure k0
  replace hb := hb.pure k0
  replace hw := hw.pure k0
  refine WL.not rfl rfl (WL.nil (WX.then_normal (WC.cond_false rfl (WC.skip (WX.then_normal (WC.seq (WC.region (?_))))))))
  refine WL.move rfl rfl (?_)
  have hl2 := hl.old
  refine WL.call eg_15 rfl rfl (docEncode_calls hl2 (by omega) hwf) ?_
  rintro v w1 ⟨rfl, k1⟩
  have zs_k1 := k1.size
  replace hl := hl.pure k1
  replace hb := hb.pure k1
  replace hw := hw.pure k1
  refine WL.move rfl rfl (WL.extract rfl rfl rfl (WL.extract rfl rfl rfl (WL.assign rfl rfl (WL.assign rfl rfl (WL.nil (WX.then_normal (WC.seq (?_))))))))
  refine WC.region (WL.move rfl rfl (?_))
  refine WL.call eg_14 rfl rfl (encode_calls hl (by omega)) ?_
  rintro v w2 ⟨ay, cy, rfl, hy, k2⟩
  have zs_k2 := k2.size
  replace hl := hl.pure k2
  replace hb := hb.pure k2
  replace hw := hw.pure k2
  replace hy := hy.lt
  refine WL.move rfl rfl (WL.extract rfl rfl rfl (WL.extract rfl rfl rfl (WL.assign rfl rfl (WL.assign rfl rfl (WL.nil (WX.then_normal (WC.seq (?_))))))))
  refine WC.region (WL.move rfl rfl (?_))
  refine WL.toStr Try.underlying24 Try.underlying5 Try.underlying9 hb rfl rfl ?_
  refine WL.call eg_16 rfl rfl (rdecode_calls (by show b.toArray.size ≤ _; simpa using bb)) ?_
  rintro v w3 ⟨⟨az, cz, rfl, hz⟩, k3⟩
  have zs_k3 := k3.size
  replace hl := hl.pure k3
  replace hb := hb.pure k3
  replace hw := hw.pure k3
  replace hy := hy.pure k3
  replace hz := hz.lt
  refine WL.move rfl rfl (WL.extract rfl rfl rfl (WL.extract rfl rfl rfl (WL.assign rfl rfl (WL.assign rfl rfl (WL.nil (WX.then_normal (WC.seq (?_))))))))
  refine WC.region (WL.move rfl rfl (?_))
  have hb2 := hb.old
  refine WL.call eg_17 rfl rfl (decode_calls' hb2 bb) ?_
  rintro v w4 ⟨⟨ax, cx, rfl, hx⟩, k4⟩
  have zs_k4 := k4.size
  replace hl := hl.pure k4
  replace hb := hb.pure k4
  replace hw := hw.pure k4
  replace hy := hy.pure k4
  replace hz := hz.pure k4
  replace hx := hx.lt
  refine WL.move rfl rfl (WL.extract rfl rfl rfl (WL.extract rfl rfl rfl (WL.assign rfl rfl (WL.assign rfl rfl (WL.nil (WX.then_normal (WC.seq (?_))))))))
  refine WC.region (WL.move rfl rfl (WL.move rfl rfl (?_)))
  refine WL.toStr Try.underlying24 Try.underlying5 Try.underlying9 hy.rsl rfl rfl ?_
  refine WL.seql? rfl rfl rfl (fun h39 => ?_) (fun h39 => ?_)
  ·
    refine WL.move rfl rfl (WL.want rfl rfl rfl (WL.move rfl rfl (WL.want rfl rfl rfl (WL.move rfl rfl (WL.want rfl rfl rfl (?_))))))
    refine WL.eql? rfl rfl rfl (fun h43 => ?_) (fun h43 => ?_)
    ·
      refine WL.pickT rfl rfl rfl (WL.move rfl rfl (WL.want rfl rfl rfl (WL.move rfl rfl (WL.want rfl rfl rfl (WL.move rfl rfl (WL.want rfl rfl rfl (?_)))))))
      refine WL.call eg_18 rfl rfl (same_calls (S := fun _ => True) (hz.rsl.mono fun _ _ => trivial) (hx.rsl.mono fun _ _ => trivial) (by have := decL_len (ByteArray.mk b.toArray).data.toList; omega)) ?_
      rintro v w5 ⟨rfl, k5⟩
      rw [show decide (decL (ByteArray.mk b.toArray).data.toList = decL b) = true from decide_eq_true rfl]
      have zs_k5 := k5.size
      replace hl := hl.pure k5
      replace hb := hb.pure k5
      replace hw := hw.pure k5
      replace hy := hy.pure k5
      replace hz := hz.pure k5
      replace hx := hx.pure k5
      refine WL.pickT rfl rfl rfl (WL.move rfl rfl (WL.want rfl rfl rfl (WL.move rfl rfl (WL.want rfl rfl rfl (WL.move rfl rfl (WL.want rfl rfl rfl (WL.eql rfl rfl rfl (?_))))))))
      refine WL.pickT rfl rfl rfl (WL.assign rfl rfl (WL.nil (WX.then_normal (WC.ret (?_)))))
      refine WX.ret1 (.inl rfl) Try.results4 rfl ?_
      first
        | exact ⟨_, rfl, rfl, hw⟩
        | (refine ⟨_, rfl, ?_, hw⟩; exact congrArg Value.bool (decide_eq_true rfl))
        | (exfalso; exact h39 rfl)
        | (exfalso; exact h43 rfl)
    ·
      refine WL.pickT rfl rfl rfl (WL.move rfl rfl (WL.pass rfl rfl rfl rfl (WL.pass rfl rfl rfl rfl (WL.pass rfl rfl rfl rfl (WL.pickF rfl rfl rfl (WL.move rfl rfl (WL.pass rfl rfl rfl rfl (?_))))))))
      refine WL.pass rfl rfl rfl rfl (WL.pass rfl rfl rfl rfl (WL.pickF rfl rfl rfl (WL.assign rfl rfl (WL.nil (WX.then_normal (WC.ret (?_)))))))
      refine WX.ret1 (.inl rfl) Try.results4 rfl ?_
      first
        | exact ⟨_, rfl, rfl, hw⟩
        | (refine ⟨_, rfl, ?_, hw⟩; exact congrArg Value.bool (decide_eq_true rfl))
        | (exfalso; exact h39 rfl)
        | (exfalso; exact h43 rfl)
  ·
    refine WL.move rfl rfl (WL.pass rfl rfl rfl rfl (WL.pass rfl rfl rfl rfl (WL.pass rfl rfl rfl rfl (WL.pickF rfl rfl rfl (WL.move rfl rfl (WL.pass rfl rfl rfl rfl (WL.pass rfl rfl rfl rfl (?_))))))))
    refine WL.pass rfl rfl rfl rfl (WL.pickF rfl rfl rfl (WL.move rfl rfl (WL.pass rfl rfl rfl rfl (WL.pass rfl rfl rfl rfl (WL.pass rfl rfl rfl rfl (WL.pickF rfl rfl rfl (WL.assign rfl rfl (?_))))))))
    refine WL.nil (WX.then_normal (WC.ret (?_)))
    refine WX.ret1 (.inl rfl) Try.results4 rfl ?_
    first
      | exact ⟨_, rfl, rfl, hw⟩
      | (refine ⟨_, rfl, ?_, hw⟩; exact congrArg Value.bool (decide_eq_true rfl))
      | (exfalso; exact h39 rfl)
      | (exfalso; exact h43 rfl)
end Go.Proofs.Ytfkaioldfmapjaa
