import Derived.Test.YtcdbkfaebgficaaQRackPlays8
namespace Go.Proofs.Ytcdbkfaebgficaa
open Go.RowKit Go.HL

/-! nobody's rack -/
theorem nobody_calls (w : World) : Calls Try.prog 5 [].toArray w (Ret fun v w' => v = .pointer none ∧ Chg Nob w w') := by
  have hw := Chg.refl Nob w
  refine Calls.of_WC Try.func5 rfl Try.ntmps5 (by simp) ?_
  refine WC.seq (WC.region (WL.assign rfl rfl (WL.nil (WX.then_normal (WC.seq (WC.region (WL.assign rfl rfl (?_))))))))
  refine WL.nil (WX.then_normal (WC.ret (?_)))
  refine WX.ret1 (.inl rfl) Try.results5 rfl ?_
  exact ⟨_, rfl, rfl, hw⟩
theorem nilFlush_calls (w : World) : Calls Try.prog 6 [.pointer none].toArray w (Ret fun v w' => v = vi 1 ∧ Chg Nob w w') := by
  have hw := Chg.refl Nob w
  refine Calls.of_WC Try.func6 rfl Try.ntmps6 (by simp) ?_
  refine WC.seq (WC.region (WL.assign rfl rfl (WL.nil (WX.then_normal (WC.seq (WC.block (WC.seq (?_))))))))
  refine WC.region (WL.move rfl rfl (?_))
  refine WL.ptrNil Try.underlying25 rfl rfl rfl ?_
  refine WL.assign rfl rfl (WL.nil (WX.then_normal (WC.cond_true rfl (WC.seq (WC.region (WL.assign rfl rfl (WL.nil (?_))))))))
  refine WX.then_normal (WC.ret (WX.block_ret (WX.then_ret (?_))))
  refine WX.ret1 (.inl rfl) Try.results6 rfl ?_
  exact ⟨_, rfl, rfl, hw⟩
theorem nilIs_calls (w : World) (d : Int) : Calls Try.prog 21 [.pointer none, vi d].toArray w (Ret fun v w' => v = .bool false ∧ Chg Nob w w') := by
  have hw := Chg.refl Nob w
  refine Calls.of_WC Try.func21 rfl Try.ntmps21 (by simp) ?_
  refine WC.seq (WC.region (WL.assign rfl rfl (WL.nil (WX.then_normal (WC.seq (WC.region (WL.move rfl rfl (?_))))))))
  refine WL.ptrSome Try.underlying25 rfl rfl rfl ?_
  refine WL.move rfl rfl (WL.pass rfl rfl rfl rfl (WL.pass rfl rfl rfl rfl (WL.pickF rfl rfl rfl (WL.move rfl rfl (WL.pass rfl rfl rfl rfl (WL.pass rfl rfl rfl rfl (WL.pass rfl rfl rfl rfl (?_))))))))
  refine WL.pass rfl rfl rfl rfl (WL.pass rfl rfl rfl rfl (WL.pass rfl rfl rfl rfl (WL.pickF rfl rfl rfl (WL.assign rfl rfl (WL.nil (WX.then_normal (WC.ret (?_))))))))
  refine WX.ret1 (.inl rfl) Try.results21 rfl ?_
  exact ⟨_, rfl, rfl, hw⟩
theorem nilLose_calls (w : World) (d : Int) : Calls Try.prog 7 [.pointer none, vi d].toArray w (Ret fun v w' => v = vi 1 ∧ Chg Nob w w') := by
  have hw := Chg.refl Nob w
  refine Calls.of_WC Try.func7 rfl Try.ntmps7 (by simp) ?_
  refine WC.seq (WC.region (WL.assign rfl rfl (WL.nil (WX.then_normal (WC.seq (WC.seq (WC.region (?_))))))))
  refine WL.move rfl rfl (WL.move rfl rfl (?_))
  refine WL.call eg_21 rfl rfl (nilIs_calls _ d) ?_
  rintro v w1 ⟨rfl, k1⟩
  have zs_k1 := k1.size
  replace hw := hw.pure k1
  refine WL.not rfl rfl (WL.nil (WX.then_normal (WC.cond_true rfl (WC.seq (WC.region (WL.assign rfl rfl (WL.nil (?_))))))))
  refine WX.then_normal (WC.ret (WX.then_ret (?_)))
  refine WX.ret1 (.inl rfl) Try.results7 rfl ?_
  exact ⟨_, rfl, rfl, hw⟩
theorem nilGone_calls (w : World) (d : Int) : Calls Try.prog 8 [.pointer none, vi d].toArray w (Ret fun v w' => v = .bool false ∧ Chg Nob w w') := by
  have hw := Chg.refl Nob w
  refine Calls.of_WC Try.func8 rfl Try.ntmps8 (by simp) ?_
  refine WC.seq (WC.region (WL.assign rfl rfl (WL.nil (WX.then_normal (WC.seq (WC.region (WL.move rfl rfl (?_))))))))
  refine WL.move rfl rfl (?_)
  refine WL.call eg_21 rfl rfl (nilIs_calls _ d) ?_
  rintro v w1 ⟨rfl, k1⟩
  have zs_k1 := k1.size
  replace hw := hw.pure k1
  refine WL.move rfl rfl (WL.pass rfl rfl rfl rfl (WL.pass rfl rfl rfl rfl (WL.pass rfl rfl rfl rfl (WL.pass rfl rfl rfl rfl (WL.pass rfl rfl rfl rfl (WL.pass rfl rfl rfl rfl (WL.pass rfl rfl rfl rfl (?_))))))))
  refine WL.pickF rfl rfl rfl (WL.assign rfl rfl (WL.nil (WX.then_normal (WC.ret (?_)))))
  refine WX.ret1 (.inl rfl) Try.results8 rfl ?_
  exact ⟨_, rfl, rfl, hw⟩
theorem nilPending_calls (w : World) : Calls Try.prog 9 [.pointer none].toArray w (Ret fun v w' => v = vi 0 ∧ Chg Nob w w') := by
  have hw := Chg.refl Nob w
  refine Calls.of_WC Try.func9 rfl Try.ntmps9 (by simp) ?_
  refine WC.seq (WC.region (WL.assign rfl rfl (WL.nil (WX.then_normal (WC.seq (WC.seq (WC.region (?_))))))))
  refine WL.move rfl rfl (?_)
  refine WL.ptrNil Try.underlying25 rfl rfl rfl ?_
  refine WL.nil (WX.then_normal (WC.cond_true rfl (WC.seq (WC.region (WL.assign rfl rfl (WL.nil (WX.then_normal (?_))))))))
  refine WC.ret (WX.then_ret (?_))
  refine WX.ret1 (.inl rfl) Try.results9 rfl ?_
  exact ⟨_, rfl, rfl, hw⟩
set_option maxHeartbeats 8000000 in
theorem rackPlays_calls {w : World} {a0 : Option Addr} {c0 : Nat} {l0 : List OpV} (dr sc : Int) (hO : OS (· < w.heap.size) w a0 c0 l0) (hl0 : ∀ o ∈ l0, o.picks.length * 8 ≤ 140737488351232 ∧ -9223372036854775808 ≤ o.n ∧ o.n ≤ 9223372036854775807) :
    Calls Try.prog 3 [vi dr, vi sc, .slice a0 l0.length c0].toArray w (Ret fun v w' => v = .bool true ∧ Chg Nob w w') := by
  have hw := Chg.refl Nob w
  refine Calls.of_WC Try.func3 rfl Try.ntmps3 (by simp) ?_
  refine WC.seq (WC.region (WL.assign rfl rfl (WL.nil (WX.then_normal (WC.seq (WC.seq (WC.region (?_))))))))
  refine WL.call eg_4 rfl rfl (known_calls _) ?_
  rintro v w1 ⟨rfl, k1⟩
  have zs_k1 := k1.size
  replace hO := hO.pure k1
  replace hw := hw.pure k1
  refine WL.not rfl rfl (WL.move rfl rfl (WL.want rfl rfl rfl (?_)))
  refine WL.call eg_5 rfl rfl (nobody_calls _) ?_
  rintro v w1 ⟨rfl, k1⟩
  have zs_k1 := k1.size
  replace hO := hO.pure k1
  replace hw := hw.pure k1
  refine WL.want rfl rfl rfl (?_)
  refine WL.call eg_6 rfl rfl (nilFlush_calls _) ?_
  rintro v w1 ⟨rfl, k1⟩
  have zs_k1 := k1.size
  replace hO := hO.pure k1
  replace hw := hw.pure k1
  refine WL.want rfl rfl rfl (?_)
  refine WL.neqF rfl rfl rfl (by first | rfl | omega | decide) ?_
  refine WL.pickF rfl rfl rfl (WL.move rfl rfl (WL.want rfl rfl rfl (?_)))
  refine WL.call eg_5 rfl rfl (nobody_calls _) ?_
  rintro v w1 ⟨rfl, k1⟩
  have zs_k1 := k1.size
  replace hO := hO.pure k1
  replace hw := hw.pure k1
  refine WL.want rfl rfl rfl (?_)
  refine WL.call eg_7 rfl rfl (nilLose_calls _ 0) ?_
  rintro v w1 ⟨rfl, k1⟩
  have zs_k1 := k1.size
  replace hO := hO.pure k1
  replace hw := hw.pure k1
  refine WL.want rfl rfl rfl (?_)
  refine WL.neqF rfl rfl rfl (by first | rfl | omega | decide) ?_
  refine WL.pickF rfl rfl rfl (WL.move rfl rfl (WL.want rfl rfl rfl (?_)))
  refine WL.call eg_5 rfl rfl (nobody_calls _) ?_
  rintro v w1 ⟨rfl, k1⟩
  have zs_k1 := k1.size
  replace hO := hO.pure k1
  replace hw := hw.pure k1
  refine WL.want rfl rfl rfl (?_)
  refine WL.call eg_8 rfl rfl (nilGone_calls _ 0) ?_
  rintro v w1 ⟨rfl, k1⟩
  have zs_k1 := k1.size
  replace hO := hO.pure k1
  replace hw := hw.pure k1
  refine WL.pickF rfl rfl rfl (WL.move rfl rfl (WL.want rfl rfl rfl (?_)))
  refine WL.call eg_5 rfl rfl (nobody_calls _) ?_
  rintro v w1 ⟨rfl, k1⟩
  have zs_k1 := k1.size
  replace hO := hO.pure k1
  replace hw := hw.pure k1
  refine WL.want rfl rfl rfl (?_)
  refine WL.call eg_9 rfl rfl (nilPending_calls _) ?_
  rintro v w1 ⟨rfl, k1⟩
  have zs_k1 := k1.size
  replace hO := hO.pure k1
  replace hw := hw.pure k1
  refine WL.want rfl rfl rfl (?_)
  refine WL.neqF rfl rfl rfl (by first | rfl | omega | decide) ?_
  refine WL.pickF rfl rfl rfl (WL.nil (WX.then_normal (WC.cond_false rfl (WC.skip (WX.then_normal (WC.seq (WC.seq (?_))))))))
  refine WC.region (WL.move rfl rfl (?_))
  refine WL.gtr? rfl rfl rfl (fun h36 => ?_) (fun h36 => ?_)
  ·
    refine WL.move rfl rfl (WL.want rfl rfl rfl (WL.move rfl rfl (WL.want rfl rfl rfl (?_))))
    refine WL.leq? rfl rfl rfl (fun h39 => ?_) (fun h39 => ?_)
    ·
      refine WL.pickT rfl rfl rfl (WL.nil (WX.then_normal (WC.cond_true rfl (WC.region (WL.assign rfl rfl (WL.nil (WX.then_normal (?_))))))))
      refine WC.seq (WC.region (WL.move rfl rfl (?_)))
      first
        | (have hc9 : 9 < sc := h36
           have hc8 : sc ≤ 2000 := h39
           let sd : Int := 9
           have hsq : sd = 9 := rfl)
        | (let sd : Int := sc
           have hsq : sd = sc := rfl)
      have hs9 : sd ≤ 9 ∨ 2000 < sd := by omega
      refine WL.move rfl rfl ?_
      by_cases hv : (1 ≤ dr ∧ dr ≤ 16) ∧ (1 ≤ sd ∧ sd ≤ 2000)
      ·
        obtain ⟨dn, rfl⟩ : ∃ dn : Nat, dr = (dn : Int) := ⟨dr.toNat, by omega⟩
        obtain ⟨sn, hsn⟩ : ∃ sn : Nat, sd = (sn : Int) := ⟨sd.toNat, by omega⟩
        have hN1 : ∀ w1, Calls Try.prog 10 [vi dn, vi sd].toArray w1 (Ret fun v w' => (∃ R, v = .tuple #[ptr R, vi 0] ∧ RK (w1.heap.size ≤ ·) w' R (newS dn sn)) ∧ Chg Nob w1 w') := fun w1 => by
          rw [hsn]
          exact New_calls w1 (by omega) (by omega)
        have hN2 : ∀ w1, Calls Try.prog 11 [vi dn, vi sd].toArray w1 (Ret fun v w' => (∃ D, v = .tuple #[ptr D, vi 0] ∧ RD (w1.heap.size ≤ ·) w' D (newS dn sn)) ∧ Chg Nob w1 w') := fun w1 => by
          rw [hsn]
          exact dNew_calls w1 (by omega) (by omega)
        have zN := hw.size
        refine WL.call eg_10 rfl rfl (hN1 _) ?_
        rintro v w2 ⟨⟨R, rfl, hR⟩, k2⟩
        replace hR := hR.old
        have hRw := w2.heap.size
        have zs_k2 := k2.size
        replace hO := hO.pure k2
        replace hw := hw.pure k2
        refine WL.move rfl rfl (WL.extract rfl rfl rfl (WL.extract rfl rfl rfl (WL.assign rfl rfl (WL.assign rfl rfl (WL.nil (WX.then_normal (WC.seq (?_))))))))
        refine WC.region (WL.move rfl rfl (WL.move rfl rfl (?_)))
        refine WL.call eg_11 rfl rfl (hN2 _) ?_
        rintro v w3 ⟨⟨D, rfl, hD⟩, k3⟩
        replace hD := hD.old
        have zs_k3 := k3.size
        replace hO := hO.pure k3
        replace hw := hw.pure k3
        replace hR := hR.pure k3
        refine WL.move rfl rfl (WL.extract rfl rfl rfl (WL.extract rfl rfl rfl (WL.assign rfl rfl (WL.assign rfl rfl (WL.nil (WX.then_normal (WC.seq (?_))))))))
        refine WC.seq (WC.region (WL.move rfl rfl (WL.move rfl rfl (?_))))
        refine WL.neqF rfl rfl rfl (by first | rfl | omega | decide) ?_
        refine WL.move rfl rfl (WL.want rfl rfl rfl (WL.move rfl rfl (WL.want rfl rfl rfl (?_))))
        refine WL.ptrNil Try.underlying25 rfl rfl rfl ?_
        refine WL.want rfl rfl rfl (WL.move rfl rfl (WL.want rfl rfl rfl (?_)))
        refine WL.ptrNil Try.underlying33 rfl rfl rfl ?_
        refine WL.want rfl rfl rfl (?_)
        refine WL.bneqF Try.underlying4 rfl rfl rfl rfl ?_
        refine WL.pickF rfl rfl rfl (WL.nil (WX.then_normal (WC.cond_false rfl (WC.skip (WX.then_normal (WC.seq (WC.seq (?_))))))))
        refine WC.region (WL.move rfl rfl (?_))
        refine WL.ptrNil Try.underlying33 rfl rfl rfl ?_
        refine WL.nil (WX.then_normal (WC.cond_false rfl (WC.skip (WX.then_normal (WC.seq (WC.seq (WC.region (?_))))))))
        refine WL.assign rfl rfl (WL.nil (WX.then_normal (WC.block (?_))))
        have zw0 := hw.size
        have hH : ∃ A B s, H2 (fun x => w.heap.size ≤ x) w3 R D A B s s ∧ s.waits.length ≤ 2 * 0 ∧ s.dn = dn ∧ s.sn = sn := ⟨_, _, newS dn sn, ⟨hR, hD, (fun x hx => ⟨by omega, by have := k3.size; omega⟩), (fun x hx => ⟨by omega, hx.2⟩), (fun x h1 h2 => by omega)⟩, Nat.le_refl _, rfl, rfl⟩
        refine WC.loop (σ := Nat) (fun i => [(0, vi dn), (1, vi sd), (2, .slice a0 l0.length c0), (7, ptr R), (9, ptr D), (11, vi i)])
          (fun i w' => (i ≤ l0.length ∧ i ≤ 150) ∧ OS (· < w.heap.size) w' a0 c0 l0 ∧ Chg Nob w w' ∧ ∃ A B s, H2 (fun x => w.heap.size ≤ x) w' R D A B s s ∧ s.waits.length ≤ 2 * i ∧ s.dn = dn ∧ s.sn = sn) (fun i => 150 - i) 0 ⟨rfl, rfl, rfl, rfl, rfl, rfl, trivial⟩ ⟨⟨Nat.zero_le _, Nat.zero_le _⟩, hO, hw, hH⟩ ?_
        clear hO hw hH hR hD
        rintro i w4 ⟨⟨hi, hi5⟩, hO, hw, A, B, s, hH, hsl, hsd, hss⟩
        refine WC.seq (WC.seq (WC.region (WL.move rfl rfl (WL.move rfl rfl (WL.len Try.underlying22 rfl rfl (?_))))))
        refine WL.lss? rfl rfl rfl (fun h68 => ?_) (fun h68 => ?_)
        ·
          refine WL.move rfl rfl (WL.want rfl rfl rfl (WL.move rfl rfl (WL.want rfl rfl rfl (?_))))
          refine WL.lss? rfl rfl rfl (fun h71 => ?_) (fun h71 => ?_)
          ·
            refine WL.pickT rfl rfl rfl (WL.nil (WX.then_normal (WC.cond_true rfl (WC.skip (WX.then_normal (WC.seq (WC.block (?_))))))))
            refine WC.seq (WC.region (WL.move rfl rfl (WL.move rfl rfl (WL.move rfl rfl (WL.move rfl rfl (?_))))))
            have hzw := hw.size
            obtain ⟨o, ho⟩ : ∃ o, l0[i]? = some o := ⟨_, List.getElem?_eq_getElem (by omega)⟩
            have hob := hl0 o (List.mem_of_getElem? ho)
            refine WL.indexT Try.underlying22 Try.sizeOf39 hO.outer rfl rfl ⟨ho, rfl⟩ rfl ?_
            intro b_1 o_1 hc_1
            refine WL.loads _ Try.isAgg39 Try.sizeOf39 rfl hc_1 rfl rfl (?_)
            refine WL.call eg_12 rfl rfl (step_calls hH hzw o (hO.inner o (List.mem_of_getElem? ho)) hob.1 hob.2 (by omega)) ?_
            rintro v w5 ⟨rfl, ⟨A2, B2, t, hH2, hl2, hd2, hs2⟩, k5⟩
            replace hO := hO.chg k5 (fun b _ h1 h2 => by have h3 : w.heap.size ≤ b := h2; omega)
            replace hw := hw.chg k5 (fun x h1 h2 => by have h3 : w.heap.size ≤ x := h2; omega)
            refine WL.not rfl rfl (WL.move rfl rfl (WL.want rfl rfl rfl (WL.move rfl rfl (WL.want rfl rfl rfl (WL.move rfl rfl (WL.want rfl rfl rfl (WL.move rfl rfl (?_))))))))
            refine WL.want rfl rfl rfl (WL.move rfl rfl (WL.want rfl rfl rfl (?_)))
            refine WL.indexT Try.underlying22 Try.sizeOf39 hO.outer rfl rfl ⟨ho, rfl⟩ rfl ?_
            intro b_2 o_2 hc_2
            refine WL.want rfl rfl rfl (WL.fieldAddr (fld_39_1) rfl rfl (WL.want rfl rfl rfl (WL.load Try.isAgg3 rfl (hc_2 _ _ rfl) rfl (WL.want rfl rfl rfl (WL.bld rfl (bld_39_1 _) rfl (WL.want rfl rfl rfl (?_)))))))
            have hzw2 := hw.size
            refine WL.call eg_12 rfl rfl (step_calls hH2 hzw2 ⟨0, o.drive, 0, 0, 0, none, 0, []⟩ (RSl.nil _ _ _ _ _) (show 0 * 8 ≤ 140737488351232 by decide) (show -9223372036854775808 ≤ (0 : Int) ∧ (0 : Int) ≤ 9223372036854775807 by decide) (by omega)) ?_
            rintro v w6 ⟨rfl, ⟨A3, B3, u, hH3, hl3, hd3, hs3⟩, k6⟩
            replace hO := hO.chg k6 (fun b _ h1 h2 => by have h3 : w.heap.size ≤ b := h2; omega)
            replace hw := hw.chg k6 (fun x h1 h2 => by have h3 : w.heap.size ≤ x := h2; omega)
            refine WL.want rfl rfl rfl (WL.not rfl rfl (WL.pickF rfl rfl rfl (WL.nil (WX.then_normal (WC.cond_false rfl (WC.skip (WX.block_normal (?_))))))))
            refine WX.then_normal (WC.region (WL.move rfl rfl (WL.add64 rfl rfl (by first | omega | (constructor <;> omega)) rfl (WL.assign rfl rfl (WL.nil (?_))))))
            first
              | exact WX.loop_next (i + 1) ⟨rfl, rfl, rfl, rfl, rfl, rfl, trivial⟩ ⟨⟨by omega, by omega⟩, hO, hw, A3, B3, u, hH3, by omega, by omega, by omega⟩ (by omega)
              | exact WX.loop_next (k + 1) ⟨rfl, rfl, rfl, rfl, rfl, rfl, trivial⟩ ⟨by omega, hw, A9, B9, t9, hH9, by omega⟩ (by omega)
              | exact WX.loop_next (d + 1) ⟨rfl, rfl, rfl, rfl, rfl, trivial⟩ ⟨by omega, hw, A8, B8, s8, hH, by rw [Nat.add_mul, Nat.one_mul]; omega⟩ (by omega)
          ·
            refine WL.pickT rfl rfl rfl (WL.nil (WX.then_normal (WC.cond_false rfl (WC.exit (WX.then_exit (WX.then_exit (WX.block_here (?_))))))))
            refine WX.then_normal (WC.seq (WC.region (WL.move rfl rfl (?_))))
            have hzw := hw.size
            refine WL.call eg_13 rfl rfl (Crash0_calls hH.r) ?_
            rintro v w5 ⟨rfl, hR5, k5⟩
            have h5 := hH.left0 (fun x hx => by omega) hR5 k5
            replace hw := hw.chg k5 (fun x h1 h2 => by have := (hH.a x h2).1; omega)
            have zk5 := k5.size
            refine WL.nil (WX.then_normal (WC.seq (WC.region (WL.move rfl rfl (?_)))))
            refine WL.call eg_14 rfl rfl (dCrash_calls (S := fun _ => False) (ps := []) h5.d (by omega) (RSl.nil _ _ ei none 0) (fun _ h _ => h)) ?_
            rintro v w6 ⟨rfl, hD6, k6⟩
            have h6 := h5.right0 (fun x hx => by omega) hD6 k6
            replace hw := hw.chg k6 (fun x h1 h2 => by have := (h5.b x h2).1; omega)
            refine WL.nil (WX.then_normal (WC.seq (WC.seq (WC.region (WL.assign rfl rfl (WL.nil (WX.then_normal (?_))))))))
            refine WC.block (?_)
            have hH6 : ∃ A B s, H2 (fun x => w.heap.size ≤ x) w6 R D A B s s ∧ s.waits.length ≤ 0 * sn := ⟨_, _, _, h6, Nat.zero_le _⟩
            refine WC.loop (σ := Nat) (fun d => [(0, vi dn), (1, vi sd), (7, ptr R), (9, ptr D), (12, vi d)])
              (fun d w' => d ≤ dn ∧ Chg Nob w w' ∧ ∃ A B s, H2 (fun x => w.heap.size ≤ x) w' R D A B s s ∧ s.waits.length ≤ d * sn) (fun d => dn - d) 0 ⟨rfl, rfl, rfl, rfl, rfl, trivial⟩ ⟨Nat.zero_le _, hw, hH6⟩ ?_
            clear hw hH6 h6
            rintro d w7 ⟨hd, hw, A7, B7, s7, hH, hsl7⟩
            refine WC.seq (WC.seq (WC.region (WL.move rfl rfl (WL.move rfl rfl (?_)))))
            refine WL.lss? rfl rfl rfl (fun h101 => ?_) (fun h101 => ?_)
            ·
              refine WL.nil (WX.then_normal (WC.cond_true rfl (WC.skip (WX.then_normal (WC.seq (WC.block (WC.seq (?_))))))))
              refine WC.region (WL.assign rfl rfl (WL.nil (WX.then_normal (WC.block (?_)))))
              have hH7 : ∃ A B s, H2 (fun x => w.heap.size ≤ x) w7 R D A B s s ∧ s.waits.length ≤ d * sn + 0 := ⟨_, _, _, hH, hsl7⟩
              have hdm : d * sn ≤ 16 * 9 := Nat.mul_le_mul (by omega) (by omega)
              refine WC.loop (σ := Nat) (fun k => [(0, vi dn), (1, vi sd), (7, ptr R), (9, ptr D), (12, vi d), (13, vi k)])
                (fun k w' => k ≤ sn ∧ Chg Nob w w' ∧ ∃ A B s, H2 (fun x => w.heap.size ≤ x) w' R D A B s s ∧ s.waits.length ≤ d * sn + k) (fun k => sn - k) 0 ⟨rfl, rfl, rfl, rfl, rfl, rfl, trivial⟩ ⟨Nat.zero_le _, hw, hH7⟩ ?_
              clear hw hH7 hH
              rintro k w8 ⟨hk, hw, A8, B8, s8, hH, hsl8⟩
              refine WC.seq (WC.seq (WC.region (WL.move rfl rfl (WL.move rfl rfl (?_)))))
              refine WL.lss? rfl rfl rfl (fun h106 => ?_) (fun h106 => ?_)
              ·
                refine WL.nil (WX.then_normal (WC.cond_true rfl (WC.skip (WX.then_normal (WC.seq (WC.block (WC.seq (?_))))))))
                refine WC.region (WL.move rfl rfl (WL.move rfl rfl (WL.move rfl rfl (WL.move rfl rfl (WL.bld rfl (bld_39_0_1_2 _ _ _) rfl (?_))))))
                have hzw := hw.size
                refine WL.call eg_12 rfl rfl (step_calls hH hzw ⟨1, d, k, 0, 0, none, 0, []⟩ (RSl.nil _ _ _ _ _) (show 0 * 8 ≤ 140737488351232 by decide) (show -9223372036854775808 ≤ (0 : Int) ∧ (0 : Int) ≤ 9223372036854775807 by decide) (by omega)) ?_
                rintro v w9 ⟨rfl, ⟨A9, B9, t9, hH9, hl9, hd9, hs9⟩, k9⟩
                replace hw := hw.chg k9 (fun x h1 h2 => by have h3 : w.heap.size ≤ x := h2; omega)
                refine WL.not rfl rfl (WL.nil (WX.then_normal (WC.cond_false rfl (WC.skip (WX.block_normal (WX.then_normal (WC.region (?_))))))))
                refine WL.move rfl rfl (WL.add64 rfl rfl (by first | omega | (constructor <;> omega)) rfl (WL.assign rfl rfl (WL.nil (?_))))
                first
                  | exact WX.loop_next (i + 1) ⟨rfl, rfl, rfl, rfl, rfl, rfl, trivial⟩ ⟨⟨by omega, by omega⟩, hO, hw, A3, B3, u, hH3, by omega, by omega, by omega⟩ (by omega)
                  | exact WX.loop_next (k + 1) ⟨rfl, rfl, rfl, rfl, rfl, rfl, trivial⟩ ⟨by omega, hw, A9, B9, t9, hH9, by omega⟩ (by omega)
                  | exact WX.loop_next (d + 1) ⟨rfl, rfl, rfl, rfl, rfl, trivial⟩ ⟨by omega, hw, A8, B8, s8, hH, by rw [Nat.add_mul, Nat.one_mul]; omega⟩ (by omega)
              ·
                refine WL.nil (WX.then_normal (WC.cond_false rfl (WC.exit (WX.then_exit (WX.then_exit (WX.block_here (WX.block_normal (?_))))))))
                refine WX.then_normal (WC.region (WL.move rfl rfl (WL.add64 rfl rfl (by first | omega | (constructor <;> omega)) rfl (WL.assign rfl rfl (WL.nil (?_))))))
                first
                  | exact WX.loop_next (i + 1) ⟨rfl, rfl, rfl, rfl, rfl, rfl, trivial⟩ ⟨⟨by omega, by omega⟩, hO, hw, A3, B3, u, hH3, by omega, by omega, by omega⟩ (by omega)
                  | exact WX.loop_next (k + 1) ⟨rfl, rfl, rfl, rfl, rfl, rfl, trivial⟩ ⟨by omega, hw, A9, B9, t9, hH9, by omega⟩ (by omega)
                  | exact WX.loop_next (d + 1) ⟨rfl, rfl, rfl, rfl, rfl, trivial⟩ ⟨by omega, hw, A8, B8, s8, hH, by rw [Nat.add_mul, Nat.one_mul]; omega⟩ (by omega)
            ·
              refine WL.nil (WX.then_normal (WC.cond_false rfl (WC.exit (WX.then_exit (WX.then_exit (WX.block_here (WX.then_normal (?_))))))))
              refine WC.seq (WC.region (WL.assign rfl rfl (WL.nil (WX.then_normal (WC.ret (?_))))))
              refine WX.ret1 (.inl rfl) Try.results3 rfl ?_
              exact ⟨_, rfl, rfl, hw⟩
        ·
          refine WL.move rfl rfl (WL.pass rfl rfl rfl rfl (WL.pass rfl rfl rfl rfl (WL.pickF rfl rfl rfl (WL.nil (WX.then_normal (WC.cond_false rfl (WC.exit (?_))))))))
          refine WX.then_exit (WX.then_exit (WX.block_here (WX.then_normal (WC.seq (WC.region (WL.move rfl rfl (?_)))))))
          have hzw := hw.size
          refine WL.call eg_13 rfl rfl (Crash0_calls hH.r) ?_
          rintro v w5 ⟨rfl, hR5, k5⟩
          have h5 := hH.left0 (fun x hx => by omega) hR5 k5
          replace hw := hw.chg k5 (fun x h1 h2 => by have := (hH.a x h2).1; omega)
          have zk5 := k5.size
          refine WL.nil (WX.then_normal (WC.seq (WC.region (WL.move rfl rfl (?_)))))
          refine WL.call eg_14 rfl rfl (dCrash_calls (S := fun _ => False) (ps := []) h5.d (by omega) (RSl.nil _ _ ei none 0) (fun _ h _ => h)) ?_
          rintro v w6 ⟨rfl, hD6, k6⟩
          have h6 := h5.right0 (fun x hx => by omega) hD6 k6
          replace hw := hw.chg k6 (fun x h1 h2 => by have := (h5.b x h2).1; omega)
          refine WL.nil (WX.then_normal (WC.seq (WC.seq (WC.region (WL.assign rfl rfl (WL.nil (WX.then_normal (?_))))))))
          refine WC.block (?_)
          have hH6 : ∃ A B s, H2 (fun x => w.heap.size ≤ x) w6 R D A B s s ∧ s.waits.length ≤ 0 * sn := ⟨_, _, _, h6, Nat.zero_le _⟩
          refine WC.loop (σ := Nat) (fun d => [(0, vi dn), (1, vi sd), (7, ptr R), (9, ptr D), (12, vi d)])
            (fun d w' => d ≤ dn ∧ Chg Nob w w' ∧ ∃ A B s, H2 (fun x => w.heap.size ≤ x) w' R D A B s s ∧ s.waits.length ≤ d * sn) (fun d => dn - d) 0 ⟨rfl, rfl, rfl, rfl, rfl, trivial⟩ ⟨Nat.zero_le _, hw, hH6⟩ ?_
          clear hw hH6 h6
          rintro d w7 ⟨hd, hw, A7, B7, s7, hH, hsl7⟩
          refine WC.seq (WC.seq (WC.region (WL.move rfl rfl (WL.move rfl rfl (?_)))))
          refine WL.lss? rfl rfl rfl (fun h101 => ?_) (fun h101 => ?_)
          ·
            refine WL.nil (WX.then_normal (WC.cond_true rfl (WC.skip (WX.then_normal (WC.seq (WC.block (WC.seq (?_))))))))
            refine WC.region (WL.assign rfl rfl (WL.nil (WX.then_normal (WC.block (?_)))))
            have hH7 : ∃ A B s, H2 (fun x => w.heap.size ≤ x) w7 R D A B s s ∧ s.waits.length ≤ d * sn + 0 := ⟨_, _, _, hH, hsl7⟩
            have hdm : d * sn ≤ 16 * 9 := Nat.mul_le_mul (by omega) (by omega)
            refine WC.loop (σ := Nat) (fun k => [(0, vi dn), (1, vi sd), (7, ptr R), (9, ptr D), (12, vi d), (13, vi k)])
              (fun k w' => k ≤ sn ∧ Chg Nob w w' ∧ ∃ A B s, H2 (fun x => w.heap.size ≤ x) w' R D A B s s ∧ s.waits.length ≤ d * sn + k) (fun k => sn - k) 0 ⟨rfl, rfl, rfl, rfl, rfl, rfl, trivial⟩ ⟨Nat.zero_le _, hw, hH7⟩ ?_
            clear hw hH7 hH
            rintro k w8 ⟨hk, hw, A8, B8, s8, hH, hsl8⟩
            refine WC.seq (WC.seq (WC.region (WL.move rfl rfl (WL.move rfl rfl (?_)))))
            refine WL.lss? rfl rfl rfl (fun h106 => ?_) (fun h106 => ?_)
            ·
              refine WL.nil (WX.then_normal (WC.cond_true rfl (WC.skip (WX.then_normal (WC.seq (WC.block (WC.seq (?_))))))))
              refine WC.region (WL.move rfl rfl (WL.move rfl rfl (WL.move rfl rfl (WL.move rfl rfl (WL.bld rfl (bld_39_0_1_2 _ _ _) rfl (?_))))))
              have hzw := hw.size
              refine WL.call eg_12 rfl rfl (step_calls hH hzw ⟨1, d, k, 0, 0, none, 0, []⟩ (RSl.nil _ _ _ _ _) (show 0 * 8 ≤ 140737488351232 by decide) (show -9223372036854775808 ≤ (0 : Int) ∧ (0 : Int) ≤ 9223372036854775807 by decide) (by omega)) ?_
              rintro v w9 ⟨rfl, ⟨A9, B9, t9, hH9, hl9, hd9, hs9⟩, k9⟩
              replace hw := hw.chg k9 (fun x h1 h2 => by have h3 : w.heap.size ≤ x := h2; omega)
              refine WL.not rfl rfl (WL.nil (WX.then_normal (WC.cond_false rfl (WC.skip (WX.block_normal (WX.then_normal (WC.region (?_))))))))
              refine WL.move rfl rfl (WL.add64 rfl rfl (by first | omega | (constructor <;> omega)) rfl (WL.assign rfl rfl (WL.nil (?_))))
              first
                | exact WX.loop_next (i + 1) ⟨rfl, rfl, rfl, rfl, rfl, rfl, trivial⟩ ⟨⟨by omega, by omega⟩, hO, hw, A3, B3, u, hH3, by omega, by omega, by omega⟩ (by omega)
                | exact WX.loop_next (k + 1) ⟨rfl, rfl, rfl, rfl, rfl, rfl, trivial⟩ ⟨by omega, hw, A9, B9, t9, hH9, by omega⟩ (by omega)
                | exact WX.loop_next (d + 1) ⟨rfl, rfl, rfl, rfl, rfl, trivial⟩ ⟨by omega, hw, A8, B8, s8, hH, by rw [Nat.add_mul, Nat.one_mul]; omega⟩ (by omega)
            ·
              refine WL.nil (WX.then_normal (WC.cond_false rfl (WC.exit (WX.then_exit (WX.then_exit (WX.block_here (WX.block_normal (?_))))))))
              refine WX.then_normal (WC.region (WL.move rfl rfl (WL.add64 rfl rfl (by first | omega | (constructor <;> omega)) rfl (WL.assign rfl rfl (WL.nil (?_))))))
              first
                | exact WX.loop_next (i + 1) ⟨rfl, rfl, rfl, rfl, rfl, rfl, trivial⟩ ⟨⟨by omega, by omega⟩, hO, hw, A3, B3, u, hH3, by omega, by omega, by omega⟩ (by omega)
                | exact WX.loop_next (k + 1) ⟨rfl, rfl, rfl, rfl, rfl, rfl, trivial⟩ ⟨by omega, hw, A9, B9, t9, hH9, by omega⟩ (by omega)
                | exact WX.loop_next (d + 1) ⟨rfl, rfl, rfl, rfl, rfl, trivial⟩ ⟨by omega, hw, A8, B8, s8, hH, by rw [Nat.add_mul, Nat.one_mul]; omega⟩ (by omega)
          ·
            refine WL.nil (WX.then_normal (WC.cond_false rfl (WC.exit (WX.then_exit (WX.then_exit (WX.block_here (WX.then_normal (?_))))))))
            refine WC.seq (WC.region (WL.assign rfl rfl (WL.nil (WX.then_normal (WC.ret (?_))))))
            refine WX.ret1 (.inl rfl) Try.results3 rfl ?_
            exact ⟨_, rfl, rfl, hw⟩
      ·
        have hN1 : ∀ w1, Calls Try.prog 10 [vi dr, vi sd].toArray w1 (Ret fun v w' => v = .tuple #[.pointer none, vi 1] ∧ Chg Nob w1 w') := fun w1 => New_no w1 hv
        have hN2 : ∀ w1, Calls Try.prog 11 [vi dr, vi sd].toArray w1 (Ret fun v w' => v = .tuple #[.pointer none, vi 1] ∧ Chg Nob w1 w') := fun w1 => dNew_no w1 hv
        refine WL.call eg_10 rfl rfl (hN1 _) ?_
        rintro v w2 ⟨rfl, k2⟩
        have zs_k2 := k2.size
        replace hO := hO.pure k2
        replace hw := hw.pure k2
        refine WL.move rfl rfl (WL.extract rfl rfl rfl (WL.extract rfl rfl rfl (WL.assign rfl rfl (WL.assign rfl rfl (WL.nil (WX.then_normal (WC.seq (?_))))))))
        refine WC.region (WL.move rfl rfl (WL.move rfl rfl (?_)))
        refine WL.call eg_11 rfl rfl (hN2 _) ?_
        rintro v w3 ⟨rfl, k3⟩
        have zs_k3 := k3.size
        replace hO := hO.pure k3
        replace hw := hw.pure k3
        refine WL.move rfl rfl (WL.extract rfl rfl rfl (WL.extract rfl rfl rfl (WL.assign rfl rfl (WL.assign rfl rfl (WL.nil (WX.then_normal (WC.seq (?_))))))))
        refine WC.seq (WC.region (WL.move rfl rfl (WL.move rfl rfl (?_))))
        refine WL.neqF rfl rfl rfl (by first | rfl | omega | decide) ?_
        refine WL.move rfl rfl (WL.want rfl rfl rfl (WL.move rfl rfl (WL.want rfl rfl rfl (?_))))
        refine WL.ptrNil Try.underlying25 rfl rfl rfl ?_
        refine WL.want rfl rfl rfl (WL.move rfl rfl (WL.want rfl rfl rfl (?_)))
        refine WL.ptrNil Try.underlying33 rfl rfl rfl ?_
        refine WL.want rfl rfl rfl (?_)
        refine WL.bneqF Try.underlying4 rfl rfl rfl rfl ?_
        refine WL.pickF rfl rfl rfl (WL.nil (WX.then_normal (WC.cond_false rfl (WC.skip (WX.then_normal (WC.seq (WC.seq (?_))))))))
        refine WC.region (WL.move rfl rfl (?_))
        refine WL.ptrNil Try.underlying33 rfl rfl rfl ?_
        refine WL.nil (WX.then_normal (WC.cond_true rfl (WC.seq (WC.region (WL.assign rfl rfl (WL.nil (WX.then_normal (?_))))))))
        refine WC.ret (WX.then_ret (?_))
        refine WX.ret1 (.inl rfl) Try.results3 rfl ?_
        exact ⟨_, rfl, rfl, hw⟩
    ·
      refine WL.pickT rfl rfl rfl (WL.nil (WX.then_normal (WC.cond_false rfl (WC.skip (WX.then_normal (WC.seq (WC.region (?_))))))))
      refine WL.move rfl rfl (?_)
      first
        | (have hc9 : 9 < sc := h36
           have hc8 : sc ≤ 2000 := h39
           let sd : Int := 9
           have hsq : sd = 9 := rfl)
        | (let sd : Int := sc
           have hsq : sd = sc := rfl)
      have hs9 : sd ≤ 9 ∨ 2000 < sd := by omega
      refine WL.move rfl rfl ?_
      by_cases hv : (1 ≤ dr ∧ dr ≤ 16) ∧ (1 ≤ sd ∧ sd ≤ 2000)
      ·
        obtain ⟨dn, rfl⟩ : ∃ dn : Nat, dr = (dn : Int) := ⟨dr.toNat, by omega⟩
        obtain ⟨sn, hsn⟩ : ∃ sn : Nat, sd = (sn : Int) := ⟨sd.toNat, by omega⟩
        have hN1 : ∀ w1, Calls Try.prog 10 [vi dn, vi sd].toArray w1 (Ret fun v w' => (∃ R, v = .tuple #[ptr R, vi 0] ∧ RK (w1.heap.size ≤ ·) w' R (newS dn sn)) ∧ Chg Nob w1 w') := fun w1 => by
          rw [hsn]
          exact New_calls w1 (by omega) (by omega)
        have hN2 : ∀ w1, Calls Try.prog 11 [vi dn, vi sd].toArray w1 (Ret fun v w' => (∃ D, v = .tuple #[ptr D, vi 0] ∧ RD (w1.heap.size ≤ ·) w' D (newS dn sn)) ∧ Chg Nob w1 w') := fun w1 => by
          rw [hsn]
          exact dNew_calls w1 (by omega) (by omega)
        have zN := hw.size
        refine WL.call eg_10 rfl rfl (hN1 _) ?_
        rintro v w2 ⟨⟨R, rfl, hR⟩, k2⟩
        replace hR := hR.old
        have hRw := w2.heap.size
        have zs_k2 := k2.size
        replace hO := hO.pure k2
        replace hw := hw.pure k2
        refine WL.move rfl rfl (WL.extract rfl rfl rfl (WL.extract rfl rfl rfl (WL.assign rfl rfl (WL.assign rfl rfl (WL.nil (WX.then_normal (WC.seq (?_))))))))
        refine WC.region (WL.move rfl rfl (WL.move rfl rfl (?_)))
        refine WL.call eg_11 rfl rfl (hN2 _) ?_
        rintro v w3 ⟨⟨D, rfl, hD⟩, k3⟩
        replace hD := hD.old
        have zs_k3 := k3.size
        replace hO := hO.pure k3
        replace hw := hw.pure k3
        replace hR := hR.pure k3
        refine WL.move rfl rfl (WL.extract rfl rfl rfl (WL.extract rfl rfl rfl (WL.assign rfl rfl (WL.assign rfl rfl (WL.nil (WX.then_normal (WC.seq (?_))))))))
        refine WC.seq (WC.region (WL.move rfl rfl (WL.move rfl rfl (?_))))
        refine WL.neqF rfl rfl rfl (by first | rfl | omega | decide) ?_
        refine WL.move rfl rfl (WL.want rfl rfl rfl (WL.move rfl rfl (WL.want rfl rfl rfl (?_))))
        refine WL.ptrNil Try.underlying25 rfl rfl rfl ?_
        refine WL.want rfl rfl rfl (WL.move rfl rfl (WL.want rfl rfl rfl (?_)))
        refine WL.ptrNil Try.underlying33 rfl rfl rfl ?_
        refine WL.want rfl rfl rfl (?_)
        refine WL.bneqF Try.underlying4 rfl rfl rfl rfl ?_
        refine WL.pickF rfl rfl rfl (WL.nil (WX.then_normal (WC.cond_false rfl (WC.skip (WX.then_normal (WC.seq (WC.seq (?_))))))))
        refine WC.region (WL.move rfl rfl (?_))
        refine WL.ptrNil Try.underlying33 rfl rfl rfl ?_
        refine WL.nil (WX.then_normal (WC.cond_false rfl (WC.skip (WX.then_normal (WC.seq (WC.seq (WC.region (?_))))))))
        refine WL.assign rfl rfl (WL.nil (WX.then_normal (WC.block (?_))))
        have zw0 := hw.size
        have hH : ∃ A B s, H2 (fun x => w.heap.size ≤ x) w3 R D A B s s ∧ s.waits.length ≤ 2 * 0 ∧ s.dn = dn ∧ s.sn = sn := ⟨_, _, newS dn sn, ⟨hR, hD, (fun x hx => ⟨by omega, by have := k3.size; omega⟩), (fun x hx => ⟨by omega, hx.2⟩), (fun x h1 h2 => by omega)⟩, Nat.le_refl _, rfl, rfl⟩
        refine WC.loop (σ := Nat) (fun i => [(0, vi dn), (1, vi sd), (2, .slice a0 l0.length c0), (7, ptr R), (9, ptr D), (11, vi i)])
          (fun i w' => (i ≤ l0.length ∧ i ≤ 150) ∧ OS (· < w.heap.size) w' a0 c0 l0 ∧ Chg Nob w w' ∧ ∃ A B s, H2 (fun x => w.heap.size ≤ x) w' R D A B s s ∧ s.waits.length ≤ 2 * i ∧ s.dn = dn ∧ s.sn = sn) (fun i => 150 - i) 0 ⟨rfl, rfl, rfl, rfl, rfl, rfl, trivial⟩ ⟨⟨Nat.zero_le _, Nat.zero_le _⟩, hO, hw, hH⟩ ?_
        clear hO hw hH hR hD
        rintro i w4 ⟨⟨hi, hi5⟩, hO, hw, A, B, s, hH, hsl, hsd, hss⟩
        refine WC.seq (WC.seq (WC.region (WL.move rfl rfl (WL.move rfl rfl (WL.len Try.underlying22 rfl rfl (?_))))))
        refine WL.lss? rfl rfl rfl (fun h68 => ?_) (fun h68 => ?_)
        ·
          refine WL.move rfl rfl (WL.want rfl rfl rfl (WL.move rfl rfl (WL.want rfl rfl rfl (?_))))
          refine WL.lss? rfl rfl rfl (fun h71 => ?_) (fun h71 => ?_)
          ·
            refine WL.pickT rfl rfl rfl (WL.nil (WX.then_normal (WC.cond_true rfl (WC.skip (WX.then_normal (WC.seq (WC.block (?_))))))))
            refine WC.seq (WC.region (WL.move rfl rfl (WL.move rfl rfl (WL.move rfl rfl (WL.move rfl rfl (?_))))))
            have hzw := hw.size
            obtain ⟨o, ho⟩ : ∃ o, l0[i]? = some o := ⟨_, List.getElem?_eq_getElem (by omega)⟩
            have hob := hl0 o (List.mem_of_getElem? ho)
            refine WL.indexT Try.underlying22 Try.sizeOf39 hO.outer rfl rfl ⟨ho, rfl⟩ rfl ?_
            intro b_1 o_1 hc_1
            refine WL.loads _ Try.isAgg39 Try.sizeOf39 rfl hc_1 rfl rfl (?_)
            refine WL.call eg_12 rfl rfl (step_calls hH hzw o (hO.inner o (List.mem_of_getElem? ho)) hob.1 hob.2 (by omega)) ?_
            rintro v w5 ⟨rfl, ⟨A2, B2, t, hH2, hl2, hd2, hs2⟩, k5⟩
            replace hO := hO.chg k5 (fun b _ h1 h2 => by have h3 : w.heap.size ≤ b := h2; omega)
            replace hw := hw.chg k5 (fun x h1 h2 => by have h3 : w.heap.size ≤ x := h2; omega)
            refine WL.not rfl rfl (WL.move rfl rfl (WL.want rfl rfl rfl (WL.move rfl rfl (WL.want rfl rfl rfl (WL.move rfl rfl (WL.want rfl rfl rfl (WL.move rfl rfl (?_))))))))
            refine WL.want rfl rfl rfl (WL.move rfl rfl (WL.want rfl rfl rfl (?_)))
            refine WL.indexT Try.underlying22 Try.sizeOf39 hO.outer rfl rfl ⟨ho, rfl⟩ rfl ?_
            intro b_2 o_2 hc_2
            refine WL.want rfl rfl rfl (WL.fieldAddr (fld_39_1) rfl rfl (WL.want rfl rfl rfl (WL.load Try.isAgg3 rfl (hc_2 _ _ rfl) rfl (WL.want rfl rfl rfl (WL.bld rfl (bld_39_1 _) rfl (WL.want rfl rfl rfl (?_)))))))
            have hzw2 := hw.size
            refine WL.call eg_12 rfl rfl (step_calls hH2 hzw2 ⟨0, o.drive, 0, 0, 0, none, 0, []⟩ (RSl.nil _ _ _ _ _) (show 0 * 8 ≤ 140737488351232 by decide) (show -9223372036854775808 ≤ (0 : Int) ∧ (0 : Int) ≤ 9223372036854775807 by decide) (by omega)) ?_
            rintro v w6 ⟨rfl, ⟨A3, B3, u, hH3, hl3, hd3, hs3⟩, k6⟩
            replace hO := hO.chg k6 (fun b _ h1 h2 => by have h3 : w.heap.size ≤ b := h2; omega)
            replace hw := hw.chg k6 (fun x h1 h2 => by have h3 : w.heap.size ≤ x := h2; omega)
            refine WL.want rfl rfl rfl (WL.not rfl rfl (WL.pickF rfl rfl rfl (WL.nil (WX.then_normal (WC.cond_false rfl (WC.skip (WX.block_normal (?_))))))))
            refine WX.then_normal (WC.region (WL.move rfl rfl (WL.add64 rfl rfl (by first | omega | (constructor <;> omega)) rfl (WL.assign rfl rfl (WL.nil (?_))))))
            first
              | exact WX.loop_next (i + 1) ⟨rfl, rfl, rfl, rfl, rfl, rfl, trivial⟩ ⟨⟨by omega, by omega⟩, hO, hw, A3, B3, u, hH3, by omega, by omega, by omega⟩ (by omega)
              | exact WX.loop_next (k + 1) ⟨rfl, rfl, rfl, rfl, rfl, rfl, trivial⟩ ⟨by omega, hw, A9, B9, t9, hH9, by omega⟩ (by omega)
              | exact WX.loop_next (d + 1) ⟨rfl, rfl, rfl, rfl, rfl, trivial⟩ ⟨by omega, hw, A8, B8, s8, hH, by rw [Nat.add_mul, Nat.one_mul]; omega⟩ (by omega)
          ·
            refine WL.pickT rfl rfl rfl (WL.nil (WX.then_normal (WC.cond_false rfl (WC.exit (WX.then_exit (WX.then_exit (WX.block_here (?_))))))))
            refine WX.then_normal (WC.seq (WC.region (WL.move rfl rfl (?_))))
            have hzw := hw.size
            refine WL.call eg_13 rfl rfl (Crash0_calls hH.r) ?_
            rintro v w5 ⟨rfl, hR5, k5⟩
            have h5 := hH.left0 (fun x hx => by omega) hR5 k5
            replace hw := hw.chg k5 (fun x h1 h2 => by have := (hH.a x h2).1; omega)
            have zk5 := k5.size
            refine WL.nil (WX.then_normal (WC.seq (WC.region (WL.move rfl rfl (?_)))))
            refine WL.call eg_14 rfl rfl (dCrash_calls (S := fun _ => False) (ps := []) h5.d (by omega) (RSl.nil _ _ ei none 0) (fun _ h _ => h)) ?_
            rintro v w6 ⟨rfl, hD6, k6⟩
            have h6 := h5.right0 (fun x hx => by omega) hD6 k6
            replace hw := hw.chg k6 (fun x h1 h2 => by have := (h5.b x h2).1; omega)
            refine WL.nil (WX.then_normal (WC.seq (WC.seq (WC.region (WL.assign rfl rfl (WL.nil (WX.then_normal (?_))))))))
            refine WC.block (?_)
            have hH6 : ∃ A B s, H2 (fun x => w.heap.size ≤ x) w6 R D A B s s ∧ s.waits.length ≤ 0 * sn := ⟨_, _, _, h6, Nat.zero_le _⟩
            refine WC.loop (σ := Nat) (fun d => [(0, vi dn), (1, vi sd), (7, ptr R), (9, ptr D), (12, vi d)])
              (fun d w' => d ≤ dn ∧ Chg Nob w w' ∧ ∃ A B s, H2 (fun x => w.heap.size ≤ x) w' R D A B s s ∧ s.waits.length ≤ d * sn) (fun d => dn - d) 0 ⟨rfl, rfl, rfl, rfl, rfl, trivial⟩ ⟨Nat.zero_le _, hw, hH6⟩ ?_
            clear hw hH6 h6
            rintro d w7 ⟨hd, hw, A7, B7, s7, hH, hsl7⟩
            refine WC.seq (WC.seq (WC.region (WL.move rfl rfl (WL.move rfl rfl (?_)))))
            refine WL.lss? rfl rfl rfl (fun h101 => ?_) (fun h101 => ?_)
            ·
              refine WL.nil (WX.then_normal (WC.cond_true rfl (WC.skip (WX.then_normal (WC.seq (WC.block (WC.seq (?_))))))))
              refine WC.region (WL.assign rfl rfl (WL.nil (WX.then_normal (WC.block (?_)))))
              have hH7 : ∃ A B s, H2 (fun x => w.heap.size ≤ x) w7 R D A B s s ∧ s.waits.length ≤ d * sn + 0 := ⟨_, _, _, hH, hsl7⟩
              have hdm : d * sn ≤ 16 * 9 := Nat.mul_le_mul (by omega) (by omega)
              refine WC.loop (σ := Nat) (fun k => [(0, vi dn), (1, vi sd), (7, ptr R), (9, ptr D), (12, vi d), (13, vi k)])
                (fun k w' => k ≤ sn ∧ Chg Nob w w' ∧ ∃ A B s, H2 (fun x => w.heap.size ≤ x) w' R D A B s s ∧ s.waits.length ≤ d * sn + k) (fun k => sn - k) 0 ⟨rfl, rfl, rfl, rfl, rfl, rfl, trivial⟩ ⟨Nat.zero_le _, hw, hH7⟩ ?_
              clear hw hH7 hH
              rintro k w8 ⟨hk, hw, A8, B8, s8, hH, hsl8⟩
              refine WC.seq (WC.seq (WC.region (WL.move rfl rfl (WL.move rfl rfl (?_)))))
              refine WL.lss? rfl rfl rfl (fun h106 => ?_) (fun h106 => ?_)
              ·
                refine WL.nil (WX.then_normal (WC.cond_true rfl (WC.skip (WX.then_normal (WC.seq (WC.block (WC.seq (?_))))))))
                refine WC.region (WL.move rfl rfl (WL.move rfl rfl (WL.move rfl rfl (WL.move rfl rfl (WL.bld rfl (bld_39_0_1_2 _ _ _) rfl (?_))))))
                have hzw := hw.size
                refine WL.call eg_12 rfl rfl (step_calls hH hzw ⟨1, d, k, 0, 0, none, 0, []⟩ (RSl.nil _ _ _ _ _) (show 0 * 8 ≤ 140737488351232 by decide) (show -9223372036854775808 ≤ (0 : Int) ∧ (0 : Int) ≤ 9223372036854775807 by decide) (by omega)) ?_
                rintro v w9 ⟨rfl, ⟨A9, B9, t9, hH9, hl9, hd9, hs9⟩, k9⟩
                replace hw := hw.chg k9 (fun x h1 h2 => by have h3 : w.heap.size ≤ x := h2; omega)
                refine WL.not rfl rfl (WL.nil (WX.then_normal (WC.cond_false rfl (WC.skip (WX.block_normal (WX.then_normal (WC.region (?_))))))))
                refine WL.move rfl rfl (WL.add64 rfl rfl (by first | omega | (constructor <;> omega)) rfl (WL.assign rfl rfl (WL.nil (?_))))
                first
                  | exact WX.loop_next (i + 1) ⟨rfl, rfl, rfl, rfl, rfl, rfl, trivial⟩ ⟨⟨by omega, by omega⟩, hO, hw, A3, B3, u, hH3, by omega, by omega, by omega⟩ (by omega)
                  | exact WX.loop_next (k + 1) ⟨rfl, rfl, rfl, rfl, rfl, rfl, trivial⟩ ⟨by omega, hw, A9, B9, t9, hH9, by omega⟩ (by omega)
                  | exact WX.loop_next (d + 1) ⟨rfl, rfl, rfl, rfl, rfl, trivial⟩ ⟨by omega, hw, A8, B8, s8, hH, by rw [Nat.add_mul, Nat.one_mul]; omega⟩ (by omega)
              ·
                refine WL.nil (WX.then_normal (WC.cond_false rfl (WC.exit (WX.then_exit (WX.then_exit (WX.block_here (WX.block_normal (?_))))))))
                refine WX.then_normal (WC.region (WL.move rfl rfl (WL.add64 rfl rfl (by first | omega | (constructor <;> omega)) rfl (WL.assign rfl rfl (WL.nil (?_))))))
                first
                  | exact WX.loop_next (i + 1) ⟨rfl, rfl, rfl, rfl, rfl, rfl, trivial⟩ ⟨⟨by omega, by omega⟩, hO, hw, A3, B3, u, hH3, by omega, by omega, by omega⟩ (by omega)
                  | exact WX.loop_next (k + 1) ⟨rfl, rfl, rfl, rfl, rfl, rfl, trivial⟩ ⟨by omega, hw, A9, B9, t9, hH9, by omega⟩ (by omega)
                  | exact WX.loop_next (d + 1) ⟨rfl, rfl, rfl, rfl, rfl, trivial⟩ ⟨by omega, hw, A8, B8, s8, hH, by rw [Nat.add_mul, Nat.one_mul]; omega⟩ (by omega)
            ·
              refine WL.nil (WX.then_normal (WC.cond_false rfl (WC.exit (WX.then_exit (WX.then_exit (WX.block_here (WX.then_normal (?_))))))))
              refine WC.seq (WC.region (WL.assign rfl rfl (WL.nil (WX.then_normal (WC.ret (?_))))))
              refine WX.ret1 (.inl rfl) Try.results3 rfl ?_
              exact ⟨_, rfl, rfl, hw⟩
        ·
          refine WL.move rfl rfl (WL.pass rfl rfl rfl rfl (WL.pass rfl rfl rfl rfl (WL.pickF rfl rfl rfl (WL.nil (WX.then_normal (WC.cond_false rfl (WC.exit (?_))))))))
          refine WX.then_exit (WX.then_exit (WX.block_here (WX.then_normal (WC.seq (WC.region (WL.move rfl rfl (?_)))))))
          have hzw := hw.size
          refine WL.call eg_13 rfl rfl (Crash0_calls hH.r) ?_
          rintro v w5 ⟨rfl, hR5, k5⟩
          have h5 := hH.left0 (fun x hx => by omega) hR5 k5
          replace hw := hw.chg k5 (fun x h1 h2 => by have := (hH.a x h2).1; omega)
          have zk5 := k5.size
          refine WL.nil (WX.then_normal (WC.seq (WC.region (WL.move rfl rfl (?_)))))
          refine WL.call eg_14 rfl rfl (dCrash_calls (S := fun _ => False) (ps := []) h5.d (by omega) (RSl.nil _ _ ei none 0) (fun _ h _ => h)) ?_
          rintro v w6 ⟨rfl, hD6, k6⟩
          have h6 := h5.right0 (fun x hx => by omega) hD6 k6
          replace hw := hw.chg k6 (fun x h1 h2 => by have := (h5.b x h2).1; omega)
          refine WL.nil (WX.then_normal (WC.seq (WC.seq (WC.region (WL.assign rfl rfl (WL.nil (WX.then_normal (?_))))))))
          refine WC.block (?_)
          have hH6 : ∃ A B s, H2 (fun x => w.heap.size ≤ x) w6 R D A B s s ∧ s.waits.length ≤ 0 * sn := ⟨_, _, _, h6, Nat.zero_le _⟩
          refine WC.loop (σ := Nat) (fun d => [(0, vi dn), (1, vi sd), (7, ptr R), (9, ptr D), (12, vi d)])
            (fun d w' => d ≤ dn ∧ Chg Nob w w' ∧ ∃ A B s, H2 (fun x => w.heap.size ≤ x) w' R D A B s s ∧ s.waits.length ≤ d * sn) (fun d => dn - d) 0 ⟨rfl, rfl, rfl, rfl, rfl, trivial⟩ ⟨Nat.zero_le _, hw, hH6⟩ ?_
          clear hw hH6 h6
          rintro d w7 ⟨hd, hw, A7, B7, s7, hH, hsl7⟩
          refine WC.seq (WC.seq (WC.region (WL.move rfl rfl (WL.move rfl rfl (?_)))))
          refine WL.lss? rfl rfl rfl (fun h101 => ?_) (fun h101 => ?_)
          ·
            refine WL.nil (WX.then_normal (WC.cond_true rfl (WC.skip (WX.then_normal (WC.seq (WC.block (WC.seq (?_))))))))
            refine WC.region (WL.assign rfl rfl (WL.nil (WX.then_normal (WC.block (?_)))))
            have hH7 : ∃ A B s, H2 (fun x => w.heap.size ≤ x) w7 R D A B s s ∧ s.waits.length ≤ d * sn + 0 := ⟨_, _, _, hH, hsl7⟩
            have hdm : d * sn ≤ 16 * 9 := Nat.mul_le_mul (by omega) (by omega)
            refine WC.loop (σ := Nat) (fun k => [(0, vi dn), (1, vi sd), (7, ptr R), (9, ptr D), (12, vi d), (13, vi k)])
              (fun k w' => k ≤ sn ∧ Chg Nob w w' ∧ ∃ A B s, H2 (fun x => w.heap.size ≤ x) w' R D A B s s ∧ s.waits.length ≤ d * sn + k) (fun k => sn - k) 0 ⟨rfl, rfl, rfl, rfl, rfl, rfl, trivial⟩ ⟨Nat.zero_le _, hw, hH7⟩ ?_
            clear hw hH7 hH
            rintro k w8 ⟨hk, hw, A8, B8, s8, hH, hsl8⟩
            refine WC.seq (WC.seq (WC.region (WL.move rfl rfl (WL.move rfl rfl (?_)))))
            refine WL.lss? rfl rfl rfl (fun h106 => ?_) (fun h106 => ?_)
            ·
              refine WL.nil (WX.then_normal (WC.cond_true rfl (WC.skip (WX.then_normal (WC.seq (WC.block (WC.seq (?_))))))))
              refine WC.region (WL.move rfl rfl (WL.move rfl rfl (WL.move rfl rfl (WL.move rfl rfl (WL.bld rfl (bld_39_0_1_2 _ _ _) rfl (?_))))))
              have hzw := hw.size
              refine WL.call eg_12 rfl rfl (step_calls hH hzw ⟨1, d, k, 0, 0, none, 0, []⟩ (RSl.nil _ _ _ _ _) (show 0 * 8 ≤ 140737488351232 by decide) (show -9223372036854775808 ≤ (0 : Int) ∧ (0 : Int) ≤ 9223372036854775807 by decide) (by omega)) ?_
              rintro v w9 ⟨rfl, ⟨A9, B9, t9, hH9, hl9, hd9, hs9⟩, k9⟩
              replace hw := hw.chg k9 (fun x h1 h2 => by have h3 : w.heap.size ≤ x := h2; omega)
              refine WL.not rfl rfl (WL.nil (WX.then_normal (WC.cond_false rfl (WC.skip (WX.block_normal (WX.then_normal (WC.region (?_))))))))
              refine WL.move rfl rfl (WL.add64 rfl rfl (by first | omega | (constructor <;> omega)) rfl (WL.assign rfl rfl (WL.nil (?_))))
              first
                | exact WX.loop_next (i + 1) ⟨rfl, rfl, rfl, rfl, rfl, rfl, trivial⟩ ⟨⟨by omega, by omega⟩, hO, hw, A3, B3, u, hH3, by omega, by omega, by omega⟩ (by omega)
                | exact WX.loop_next (k + 1) ⟨rfl, rfl, rfl, rfl, rfl, rfl, trivial⟩ ⟨by omega, hw, A9, B9, t9, hH9, by omega⟩ (by omega)
                | exact WX.loop_next (d + 1) ⟨rfl, rfl, rfl, rfl, rfl, trivial⟩ ⟨by omega, hw, A8, B8, s8, hH, by rw [Nat.add_mul, Nat.one_mul]; omega⟩ (by omega)
            ·
              refine WL.nil (WX.then_normal (WC.cond_false rfl (WC.exit (WX.then_exit (WX.then_exit (WX.block_here (WX.block_normal (?_))))))))
              refine WX.then_normal (WC.region (WL.move rfl rfl (WL.add64 rfl rfl (by first | omega | (constructor <;> omega)) rfl (WL.assign rfl rfl (WL.nil (?_))))))
              first
                | exact WX.loop_next (i + 1) ⟨rfl, rfl, rfl, rfl, rfl, rfl, trivial⟩ ⟨⟨by omega, by omega⟩, hO, hw, A3, B3, u, hH3, by omega, by omega, by omega⟩ (by omega)
                | exact WX.loop_next (k + 1) ⟨rfl, rfl, rfl, rfl, rfl, rfl, trivial⟩ ⟨by omega, hw, A9, B9, t9, hH9, by omega⟩ (by omega)
                | exact WX.loop_next (d + 1) ⟨rfl, rfl, rfl, rfl, rfl, trivial⟩ ⟨by omega, hw, A8, B8, s8, hH, by rw [Nat.add_mul, Nat.one_mul]; omega⟩ (by omega)
          ·
            refine WL.nil (WX.then_normal (WC.cond_false rfl (WC.exit (WX.then_exit (WX.then_exit (WX.block_here (WX.then_normal (?_))))))))
            refine WC.seq (WC.region (WL.assign rfl rfl (WL.nil (WX.then_normal (WC.ret (?_))))))
            refine WX.ret1 (.inl rfl) Try.results3 rfl ?_
            exact ⟨_, rfl, rfl, hw⟩
      ·
        have hN1 : ∀ w1, Calls Try.prog 10 [vi dr, vi sd].toArray w1 (Ret fun v w' => v = .tuple #[.pointer none, vi 1] ∧ Chg Nob w1 w') := fun w1 => New_no w1 hv
        have hN2 : ∀ w1, Calls Try.prog 11 [vi dr, vi sd].toArray w1 (Ret fun v w' => v = .tuple #[.pointer none, vi 1] ∧ Chg Nob w1 w') := fun w1 => dNew_no w1 hv
        refine WL.call eg_10 rfl rfl (hN1 _) ?_
        rintro v w2 ⟨rfl, k2⟩
        have zs_k2 := k2.size
        replace hO := hO.pure k2
        replace hw := hw.pure k2
        refine WL.move rfl rfl (WL.extract rfl rfl rfl (WL.extract rfl rfl rfl (WL.assign rfl rfl (WL.assign rfl rfl (WL.nil (WX.then_normal (WC.seq (?_))))))))
        refine WC.region (WL.move rfl rfl (WL.move rfl rfl (?_)))
        refine WL.call eg_11 rfl rfl (hN2 _) ?_
        rintro v w3 ⟨rfl, k3⟩
        have zs_k3 := k3.size
        replace hO := hO.pure k3
        replace hw := hw.pure k3
        refine WL.move rfl rfl (WL.extract rfl rfl rfl (WL.extract rfl rfl rfl (WL.assign rfl rfl (WL.assign rfl rfl (WL.nil (WX.then_normal (WC.seq (?_))))))))
        refine WC.seq (WC.region (WL.move rfl rfl (WL.move rfl rfl (?_))))
        refine WL.neqF rfl rfl rfl (by first | rfl | omega | decide) ?_
        refine WL.move rfl rfl (WL.want rfl rfl rfl (WL.move rfl rfl (WL.want rfl rfl rfl (?_))))
        refine WL.ptrNil Try.underlying25 rfl rfl rfl ?_
        refine WL.want rfl rfl rfl (WL.move rfl rfl (WL.want rfl rfl rfl (?_)))
        refine WL.ptrNil Try.underlying33 rfl rfl rfl ?_
        refine WL.want rfl rfl rfl (?_)
        refine WL.bneqF Try.underlying4 rfl rfl rfl rfl ?_
        refine WL.pickF rfl rfl rfl (WL.nil (WX.then_normal (WC.cond_false rfl (WC.skip (WX.then_normal (WC.seq (WC.seq (?_))))))))
        refine WC.region (WL.move rfl rfl (?_))
        refine WL.ptrNil Try.underlying33 rfl rfl rfl ?_
        refine WL.nil (WX.then_normal (WC.cond_true rfl (WC.seq (WC.region (WL.assign rfl rfl (WL.nil (WX.then_normal (?_))))))))
        refine WC.ret (WX.then_ret (?_))
        refine WX.ret1 (.inl rfl) Try.results3 rfl ?_
        exact ⟨_, rfl, rfl, hw⟩
  ·
    refine WL.move rfl rfl (WL.pass rfl rfl rfl rfl (WL.pass rfl rfl rfl rfl (WL.pickF rfl rfl rfl (WL.nil (WX.then_normal (WC.cond_false rfl (WC.skip (?_))))))))
    refine WX.then_normal (WC.seq (WC.region (WL.move rfl rfl (?_))))
    first
      | (have hc9 : 9 < sc := h36
         have hc8 : sc ≤ 2000 := h39
         let sd : Int := 9
         have hsq : sd = 9 := rfl)
      | (let sd : Int := sc
         have hsq : sd = sc := rfl)
    have hs9 : sd ≤ 9 ∨ 2000 < sd := by omega
    refine WL.move rfl rfl ?_
    by_cases hv : (1 ≤ dr ∧ dr ≤ 16) ∧ (1 ≤ sd ∧ sd ≤ 2000)
    ·
      obtain ⟨dn, rfl⟩ : ∃ dn : Nat, dr = (dn : Int) := ⟨dr.toNat, by omega⟩
      obtain ⟨sn, hsn⟩ : ∃ sn : Nat, sd = (sn : Int) := ⟨sd.toNat, by omega⟩
      have hN1 : ∀ w1, Calls Try.prog 10 [vi dn, vi sd].toArray w1 (Ret fun v w' => (∃ R, v = .tuple #[ptr R, vi 0] ∧ RK (w1.heap.size ≤ ·) w' R (newS dn sn)) ∧ Chg Nob w1 w') := fun w1 => by
        rw [hsn]
        exact New_calls w1 (by omega) (by omega)
      have hN2 : ∀ w1, Calls Try.prog 11 [vi dn, vi sd].toArray w1 (Ret fun v w' => (∃ D, v = .tuple #[ptr D, vi 0] ∧ RD (w1.heap.size ≤ ·) w' D (newS dn sn)) ∧ Chg Nob w1 w') := fun w1 => by
        rw [hsn]
        exact dNew_calls w1 (by omega) (by omega)
      have zN := hw.size
      refine WL.call eg_10 rfl rfl (hN1 _) ?_
      rintro v w2 ⟨⟨R, rfl, hR⟩, k2⟩
      replace hR := hR.old
      have hRw := w2.heap.size
      have zs_k2 := k2.size
      replace hO := hO.pure k2
      replace hw := hw.pure k2
      refine WL.move rfl rfl (WL.extract rfl rfl rfl (WL.extract rfl rfl rfl (WL.assign rfl rfl (WL.assign rfl rfl (WL.nil (WX.then_normal (WC.seq (?_))))))))
      refine WC.region (WL.move rfl rfl (WL.move rfl rfl (?_)))
      refine WL.call eg_11 rfl rfl (hN2 _) ?_
      rintro v w3 ⟨⟨D, rfl, hD⟩, k3⟩
      replace hD := hD.old
      have zs_k3 := k3.size
      replace hO := hO.pure k3
      replace hw := hw.pure k3
      replace hR := hR.pure k3
      refine WL.move rfl rfl (WL.extract rfl rfl rfl (WL.extract rfl rfl rfl (WL.assign rfl rfl (WL.assign rfl rfl (WL.nil (WX.then_normal (WC.seq (?_))))))))
      refine WC.seq (WC.region (WL.move rfl rfl (WL.move rfl rfl (?_))))
      refine WL.neqF rfl rfl rfl (by first | rfl | omega | decide) ?_
      refine WL.move rfl rfl (WL.want rfl rfl rfl (WL.move rfl rfl (WL.want rfl rfl rfl (?_))))
      refine WL.ptrNil Try.underlying25 rfl rfl rfl ?_
      refine WL.want rfl rfl rfl (WL.move rfl rfl (WL.want rfl rfl rfl (?_)))
      refine WL.ptrNil Try.underlying33 rfl rfl rfl ?_
      refine WL.want rfl rfl rfl (?_)
      refine WL.bneqF Try.underlying4 rfl rfl rfl rfl ?_
      refine WL.pickF rfl rfl rfl (WL.nil (WX.then_normal (WC.cond_false rfl (WC.skip (WX.then_normal (WC.seq (WC.seq (?_))))))))
      refine WC.region (WL.move rfl rfl (?_))
      refine WL.ptrNil Try.underlying33 rfl rfl rfl ?_
      refine WL.nil (WX.then_normal (WC.cond_false rfl (WC.skip (WX.then_normal (WC.seq (WC.seq (WC.region (?_))))))))
      refine WL.assign rfl rfl (WL.nil (WX.then_normal (WC.block (?_))))
      have zw0 := hw.size
      have hH : ∃ A B s, H2 (fun x => w.heap.size ≤ x) w3 R D A B s s ∧ s.waits.length ≤ 2 * 0 ∧ s.dn = dn ∧ s.sn = sn := ⟨_, _, newS dn sn, ⟨hR, hD, (fun x hx => ⟨by omega, by have := k3.size; omega⟩), (fun x hx => ⟨by omega, hx.2⟩), (fun x h1 h2 => by omega)⟩, Nat.le_refl _, rfl, rfl⟩
      refine WC.loop (σ := Nat) (fun i => [(0, vi dn), (1, vi sd), (2, .slice a0 l0.length c0), (7, ptr R), (9, ptr D), (11, vi i)])
        (fun i w' => (i ≤ l0.length ∧ i ≤ 150) ∧ OS (· < w.heap.size) w' a0 c0 l0 ∧ Chg Nob w w' ∧ ∃ A B s, H2 (fun x => w.heap.size ≤ x) w' R D A B s s ∧ s.waits.length ≤ 2 * i ∧ s.dn = dn ∧ s.sn = sn) (fun i => 150 - i) 0 ⟨rfl, rfl, rfl, rfl, rfl, rfl, trivial⟩ ⟨⟨Nat.zero_le _, Nat.zero_le _⟩, hO, hw, hH⟩ ?_
      clear hO hw hH hR hD
      rintro i w4 ⟨⟨hi, hi5⟩, hO, hw, A, B, s, hH, hsl, hsd, hss⟩
      refine WC.seq (WC.seq (WC.region (WL.move rfl rfl (WL.move rfl rfl (WL.len Try.underlying22 rfl rfl (?_))))))
      refine WL.lss? rfl rfl rfl (fun h68 => ?_) (fun h68 => ?_)
      ·
        refine WL.move rfl rfl (WL.want rfl rfl rfl (WL.move rfl rfl (WL.want rfl rfl rfl (?_))))
        refine WL.lss? rfl rfl rfl (fun h71 => ?_) (fun h71 => ?_)
        ·
          refine WL.pickT rfl rfl rfl (WL.nil (WX.then_normal (WC.cond_true rfl (WC.skip (WX.then_normal (WC.seq (WC.block (?_))))))))
          refine WC.seq (WC.region (WL.move rfl rfl (WL.move rfl rfl (WL.move rfl rfl (WL.move rfl rfl (?_))))))
          have hzw := hw.size
          obtain ⟨o, ho⟩ : ∃ o, l0[i]? = some o := ⟨_, List.getElem?_eq_getElem (by omega)⟩
          have hob := hl0 o (List.mem_of_getElem? ho)
          refine WL.indexT Try.underlying22 Try.sizeOf39 hO.outer rfl rfl ⟨ho, rfl⟩ rfl ?_
          intro b_1 o_1 hc_1
          refine WL.loads _ Try.isAgg39 Try.sizeOf39 rfl hc_1 rfl rfl (?_)
          refine WL.call eg_12 rfl rfl (step_calls hH hzw o (hO.inner o (List.mem_of_getElem? ho)) hob.1 hob.2 (by omega)) ?_
          rintro v w5 ⟨rfl, ⟨A2, B2, t, hH2, hl2, hd2, hs2⟩, k5⟩
          replace hO := hO.chg k5 (fun b _ h1 h2 => by have h3 : w.heap.size ≤ b := h2; omega)
          replace hw := hw.chg k5 (fun x h1 h2 => by have h3 : w.heap.size ≤ x := h2; omega)
          refine WL.not rfl rfl (WL.move rfl rfl (WL.want rfl rfl rfl (WL.move rfl rfl (WL.want rfl rfl rfl (WL.move rfl rfl (WL.want rfl rfl rfl (WL.move rfl rfl (?_))))))))
          refine WL.want rfl rfl rfl (WL.move rfl rfl (WL.want rfl rfl rfl (?_)))
          refine WL.indexT Try.underlying22 Try.sizeOf39 hO.outer rfl rfl ⟨ho, rfl⟩ rfl ?_
          intro b_2 o_2 hc_2
          refine WL.want rfl rfl rfl (WL.fieldAddr (fld_39_1) rfl rfl (WL.want rfl rfl rfl (WL.load Try.isAgg3 rfl (hc_2 _ _ rfl) rfl (WL.want rfl rfl rfl (WL.bld rfl (bld_39_1 _) rfl (WL.want rfl rfl rfl (?_)))))))
          have hzw2 := hw.size
          refine WL.call eg_12 rfl rfl (step_calls hH2 hzw2 ⟨0, o.drive, 0, 0, 0, none, 0, []⟩ (RSl.nil _ _ _ _ _) (show 0 * 8 ≤ 140737488351232 by decide) (show -9223372036854775808 ≤ (0 : Int) ∧ (0 : Int) ≤ 9223372036854775807 by decide) (by omega)) ?_
          rintro v w6 ⟨rfl, ⟨A3, B3, u, hH3, hl3, hd3, hs3⟩, k6⟩
          replace hO := hO.chg k6 (fun b _ h1 h2 => by have h3 : w.heap.size ≤ b := h2; omega)
          replace hw := hw.chg k6 (fun x h1 h2 => by have h3 : w.heap.size ≤ x := h2; omega)
          refine WL.want rfl rfl rfl (WL.not rfl rfl (WL.pickF rfl rfl rfl (WL.nil (WX.then_normal (WC.cond_false rfl (WC.skip (WX.block_normal (?_))))))))
          refine WX.then_normal (WC.region (WL.move rfl rfl (WL.add64 rfl rfl (by first | omega | (constructor <;> omega)) rfl (WL.assign rfl rfl (WL.nil (?_))))))
          first
            | exact WX.loop_next (i + 1) ⟨rfl, rfl, rfl, rfl, rfl, rfl, trivial⟩ ⟨⟨by omega, by omega⟩, hO, hw, A3, B3, u, hH3, by omega, by omega, by omega⟩ (by omega)
            | exact WX.loop_next (k + 1) ⟨rfl, rfl, rfl, rfl, rfl, rfl, trivial⟩ ⟨by omega, hw, A9, B9, t9, hH9, by omega⟩ (by omega)
            | exact WX.loop_next (d + 1) ⟨rfl, rfl, rfl, rfl, rfl, trivial⟩ ⟨by omega, hw, A8, B8, s8, hH, by rw [Nat.add_mul, Nat.one_mul]; omega⟩ (by omega)
        ·
          refine WL.pickT rfl rfl rfl (WL.nil (WX.then_normal (WC.cond_false rfl (WC.exit (WX.then_exit (WX.then_exit (WX.block_here (?_))))))))
          refine WX.then_normal (WC.seq (WC.region (WL.move rfl rfl (?_))))
          have hzw := hw.size
          refine WL.call eg_13 rfl rfl (Crash0_calls hH.r) ?_
          rintro v w5 ⟨rfl, hR5, k5⟩
          have h5 := hH.left0 (fun x hx => by omega) hR5 k5
          replace hw := hw.chg k5 (fun x h1 h2 => by have := (hH.a x h2).1; omega)
          have zk5 := k5.size
          refine WL.nil (WX.then_normal (WC.seq (WC.region (WL.move rfl rfl (?_)))))
          refine WL.call eg_14 rfl rfl (dCrash_calls (S := fun _ => False) (ps := []) h5.d (by omega) (RSl.nil _ _ ei none 0) (fun _ h _ => h)) ?_
          rintro v w6 ⟨rfl, hD6, k6⟩
          have h6 := h5.right0 (fun x hx => by omega) hD6 k6
          replace hw := hw.chg k6 (fun x h1 h2 => by have := (h5.b x h2).1; omega)
          refine WL.nil (WX.then_normal (WC.seq (WC.seq (WC.region (WL.assign rfl rfl (WL.nil (WX.then_normal (?_))))))))
          refine WC.block (?_)
          have hH6 : ∃ A B s, H2 (fun x => w.heap.size ≤ x) w6 R D A B s s ∧ s.waits.length ≤ 0 * sn := ⟨_, _, _, h6, Nat.zero_le _⟩
          refine WC.loop (σ := Nat) (fun d => [(0, vi dn), (1, vi sd), (7, ptr R), (9, ptr D), (12, vi d)])
            (fun d w' => d ≤ dn ∧ Chg Nob w w' ∧ ∃ A B s, H2 (fun x => w.heap.size ≤ x) w' R D A B s s ∧ s.waits.length ≤ d * sn) (fun d => dn - d) 0 ⟨rfl, rfl, rfl, rfl, rfl, trivial⟩ ⟨Nat.zero_le _, hw, hH6⟩ ?_
          clear hw hH6 h6
          rintro d w7 ⟨hd, hw, A7, B7, s7, hH, hsl7⟩
          refine WC.seq (WC.seq (WC.region (WL.move rfl rfl (WL.move rfl rfl (?_)))))
          refine WL.lss? rfl rfl rfl (fun h101 => ?_) (fun h101 => ?_)
          ·
            refine WL.nil (WX.then_normal (WC.cond_true rfl (WC.skip (WX.then_normal (WC.seq (WC.block (WC.seq (?_))))))))
            refine WC.region (WL.assign rfl rfl (WL.nil (WX.then_normal (WC.block (?_)))))
            have hH7 : ∃ A B s, H2 (fun x => w.heap.size ≤ x) w7 R D A B s s ∧ s.waits.length ≤ d * sn + 0 := ⟨_, _, _, hH, hsl7⟩
            have hdm : d * sn ≤ 16 * 9 := Nat.mul_le_mul (by omega) (by omega)
            refine WC.loop (σ := Nat) (fun k => [(0, vi dn), (1, vi sd), (7, ptr R), (9, ptr D), (12, vi d), (13, vi k)])
              (fun k w' => k ≤ sn ∧ Chg Nob w w' ∧ ∃ A B s, H2 (fun x => w.heap.size ≤ x) w' R D A B s s ∧ s.waits.length ≤ d * sn + k) (fun k => sn - k) 0 ⟨rfl, rfl, rfl, rfl, rfl, rfl, trivial⟩ ⟨Nat.zero_le _, hw, hH7⟩ ?_
            clear hw hH7 hH
            rintro k w8 ⟨hk, hw, A8, B8, s8, hH, hsl8⟩
            refine WC.seq (WC.seq (WC.region (WL.move rfl rfl (WL.move rfl rfl (?_)))))
            refine WL.lss? rfl rfl rfl (fun h106 => ?_) (fun h106 => ?_)
            ·
              refine WL.nil (WX.then_normal (WC.cond_true rfl (WC.skip (WX.then_normal (WC.seq (WC.block (WC.seq (?_))))))))
              refine WC.region (WL.move rfl rfl (WL.move rfl rfl (WL.move rfl rfl (WL.move rfl rfl (WL.bld rfl (bld_39_0_1_2 _ _ _) rfl (?_))))))
              have hzw := hw.size
              refine WL.call eg_12 rfl rfl (step_calls hH hzw ⟨1, d, k, 0, 0, none, 0, []⟩ (RSl.nil _ _ _ _ _) (show 0 * 8 ≤ 140737488351232 by decide) (show -9223372036854775808 ≤ (0 : Int) ∧ (0 : Int) ≤ 9223372036854775807 by decide) (by omega)) ?_
              rintro v w9 ⟨rfl, ⟨A9, B9, t9, hH9, hl9, hd9, hs9⟩, k9⟩
              replace hw := hw.chg k9 (fun x h1 h2 => by have h3 : w.heap.size ≤ x := h2; omega)
              refine WL.not rfl rfl (WL.nil (WX.then_normal (WC.cond_false rfl (WC.skip (WX.block_normal (WX.then_normal (WC.region (?_))))))))
              refine WL.move rfl rfl (WL.add64 rfl rfl (by first | omega | (constructor <;> omega)) rfl (WL.assign rfl rfl (WL.nil (?_))))
              first
                | exact WX.loop_next (i + 1) ⟨rfl, rfl, rfl, rfl, rfl, rfl, trivial⟩ ⟨⟨by omega, by omega⟩, hO, hw, A3, B3, u, hH3, by omega, by omega, by omega⟩ (by omega)
                | exact WX.loop_next (k + 1) ⟨rfl, rfl, rfl, rfl, rfl, rfl, trivial⟩ ⟨by omega, hw, A9, B9, t9, hH9, by omega⟩ (by omega)
                | exact WX.loop_next (d + 1) ⟨rfl, rfl, rfl, rfl, rfl, trivial⟩ ⟨by omega, hw, A8, B8, s8, hH, by rw [Nat.add_mul, Nat.one_mul]; omega⟩ (by omega)
            ·
              refine WL.nil (WX.then_normal (WC.cond_false rfl (WC.exit (WX.then_exit (WX.then_exit (WX.block_here (WX.block_normal (?_))))))))
              refine WX.then_normal (WC.region (WL.move rfl rfl (WL.add64 rfl rfl (by first | omega | (constructor <;> omega)) rfl (WL.assign rfl rfl (WL.nil (?_))))))
              first
                | exact WX.loop_next (i + 1) ⟨rfl, rfl, rfl, rfl, rfl, rfl, trivial⟩ ⟨⟨by omega, by omega⟩, hO, hw, A3, B3, u, hH3, by omega, by omega, by omega⟩ (by omega)
                | exact WX.loop_next (k + 1) ⟨rfl, rfl, rfl, rfl, rfl, rfl, trivial⟩ ⟨by omega, hw, A9, B9, t9, hH9, by omega⟩ (by omega)
                | exact WX.loop_next (d + 1) ⟨rfl, rfl, rfl, rfl, rfl, trivial⟩ ⟨by omega, hw, A8, B8, s8, hH, by rw [Nat.add_mul, Nat.one_mul]; omega⟩ (by omega)
          ·
            refine WL.nil (WX.then_normal (WC.cond_false rfl (WC.exit (WX.then_exit (WX.then_exit (WX.block_here (WX.then_normal (?_))))))))
            refine WC.seq (WC.region (WL.assign rfl rfl (WL.nil (WX.then_normal (WC.ret (?_))))))
            refine WX.ret1 (.inl rfl) Try.results3 rfl ?_
            exact ⟨_, rfl, rfl, hw⟩
      ·
        refine WL.move rfl rfl (WL.pass rfl rfl rfl rfl (WL.pass rfl rfl rfl rfl (WL.pickF rfl rfl rfl (WL.nil (WX.then_normal (WC.cond_false rfl (WC.exit (?_))))))))
        refine WX.then_exit (WX.then_exit (WX.block_here (WX.then_normal (WC.seq (WC.region (WL.move rfl rfl (?_)))))))
        have hzw := hw.size
        refine WL.call eg_13 rfl rfl (Crash0_calls hH.r) ?_
        rintro v w5 ⟨rfl, hR5, k5⟩
        have h5 := hH.left0 (fun x hx => by omega) hR5 k5
        replace hw := hw.chg k5 (fun x h1 h2 => by have := (hH.a x h2).1; omega)
        have zk5 := k5.size
        refine WL.nil (WX.then_normal (WC.seq (WC.region (WL.move rfl rfl (?_)))))
        refine WL.call eg_14 rfl rfl (dCrash_calls (S := fun _ => False) (ps := []) h5.d (by omega) (RSl.nil _ _ ei none 0) (fun _ h _ => h)) ?_
        rintro v w6 ⟨rfl, hD6, k6⟩
        have h6 := h5.right0 (fun x hx => by omega) hD6 k6
        replace hw := hw.chg k6 (fun x h1 h2 => by have := (h5.b x h2).1; omega)
        refine WL.nil (WX.then_normal (WC.seq (WC.seq (WC.region (WL.assign rfl rfl (WL.nil (WX.then_normal (?_))))))))
        refine WC.block (?_)
        have hH6 : ∃ A B s, H2 (fun x => w.heap.size ≤ x) w6 R D A B s s ∧ s.waits.length ≤ 0 * sn := ⟨_, _, _, h6, Nat.zero_le _⟩
        refine WC.loop (σ := Nat) (fun d => [(0, vi dn), (1, vi sd), (7, ptr R), (9, ptr D), (12, vi d)])
          (fun d w' => d ≤ dn ∧ Chg Nob w w' ∧ ∃ A B s, H2 (fun x => w.heap.size ≤ x) w' R D A B s s ∧ s.waits.length ≤ d * sn) (fun d => dn - d) 0 ⟨rfl, rfl, rfl, rfl, rfl, trivial⟩ ⟨Nat.zero_le _, hw, hH6⟩ ?_
        clear hw hH6 h6
        rintro d w7 ⟨hd, hw, A7, B7, s7, hH, hsl7⟩
        refine WC.seq (WC.seq (WC.region (WL.move rfl rfl (WL.move rfl rfl (?_)))))
        refine WL.lss? rfl rfl rfl (fun h101 => ?_) (fun h101 => ?_)
        ·
          refine WL.nil (WX.then_normal (WC.cond_true rfl (WC.skip (WX.then_normal (WC.seq (WC.block (WC.seq (?_))))))))
          refine WC.region (WL.assign rfl rfl (WL.nil (WX.then_normal (WC.block (?_)))))
          have hH7 : ∃ A B s, H2 (fun x => w.heap.size ≤ x) w7 R D A B s s ∧ s.waits.length ≤ d * sn + 0 := ⟨_, _, _, hH, hsl7⟩
          have hdm : d * sn ≤ 16 * 9 := Nat.mul_le_mul (by omega) (by omega)
          refine WC.loop (σ := Nat) (fun k => [(0, vi dn), (1, vi sd), (7, ptr R), (9, ptr D), (12, vi d), (13, vi k)])
            (fun k w' => k ≤ sn ∧ Chg Nob w w' ∧ ∃ A B s, H2 (fun x => w.heap.size ≤ x) w' R D A B s s ∧ s.waits.length ≤ d * sn + k) (fun k => sn - k) 0 ⟨rfl, rfl, rfl, rfl, rfl, rfl, trivial⟩ ⟨Nat.zero_le _, hw, hH7⟩ ?_
          clear hw hH7 hH
          rintro k w8 ⟨hk, hw, A8, B8, s8, hH, hsl8⟩
          refine WC.seq (WC.seq (WC.region (WL.move rfl rfl (WL.move rfl rfl (?_)))))
          refine WL.lss? rfl rfl rfl (fun h106 => ?_) (fun h106 => ?_)
          ·
            refine WL.nil (WX.then_normal (WC.cond_true rfl (WC.skip (WX.then_normal (WC.seq (WC.block (WC.seq (?_))))))))
            refine WC.region (WL.move rfl rfl (WL.move rfl rfl (WL.move rfl rfl (WL.move rfl rfl (WL.bld rfl (bld_39_0_1_2 _ _ _) rfl (?_))))))
            have hzw := hw.size
            refine WL.call eg_12 rfl rfl (step_calls hH hzw ⟨1, d, k, 0, 0, none, 0, []⟩ (RSl.nil _ _ _ _ _) (show 0 * 8 ≤ 140737488351232 by decide) (show -9223372036854775808 ≤ (0 : Int) ∧ (0 : Int) ≤ 9223372036854775807 by decide) (by omega)) ?_
            rintro v w9 ⟨rfl, ⟨A9, B9, t9, hH9, hl9, hd9, hs9⟩, k9⟩
            replace hw := hw.chg k9 (fun x h1 h2 => by have h3 : w.heap.size ≤ x := h2; omega)
            refine WL.not rfl rfl (WL.nil (WX.then_normal (WC.cond_false rfl (WC.skip (WX.block_normal (WX.then_normal (WC.region (?_))))))))
            refine WL.move rfl rfl (WL.add64 rfl rfl (by first | omega | (constructor <;> omega)) rfl (WL.assign rfl rfl (WL.nil (?_))))
            first
              | exact WX.loop_next (i + 1) ⟨rfl, rfl, rfl, rfl, rfl, rfl, trivial⟩ ⟨⟨by omega, by omega⟩, hO, hw, A3, B3, u, hH3, by omega, by omega, by omega⟩ (by omega)
              | exact WX.loop_next (k + 1) ⟨rfl, rfl, rfl, rfl, rfl, rfl, trivial⟩ ⟨by omega, hw, A9, B9, t9, hH9, by omega⟩ (by omega)
              | exact WX.loop_next (d + 1) ⟨rfl, rfl, rfl, rfl, rfl, trivial⟩ ⟨by omega, hw, A8, B8, s8, hH, by rw [Nat.add_mul, Nat.one_mul]; omega⟩ (by omega)
          ·
            refine WL.nil (WX.then_normal (WC.cond_false rfl (WC.exit (WX.then_exit (WX.then_exit (WX.block_here (WX.block_normal (?_))))))))
            refine WX.then_normal (WC.region (WL.move rfl rfl (WL.add64 rfl rfl (by first | omega | (constructor <;> omega)) rfl (WL.assign rfl rfl (WL.nil (?_))))))
            first
              | exact WX.loop_next (i + 1) ⟨rfl, rfl, rfl, rfl, rfl, rfl, trivial⟩ ⟨⟨by omega, by omega⟩, hO, hw, A3, B3, u, hH3, by omega, by omega, by omega⟩ (by omega)
              | exact WX.loop_next (k + 1) ⟨rfl, rfl, rfl, rfl, rfl, rfl, trivial⟩ ⟨by omega, hw, A9, B9, t9, hH9, by omega⟩ (by omega)
              | exact WX.loop_next (d + 1) ⟨rfl, rfl, rfl, rfl, rfl, trivial⟩ ⟨by omega, hw, A8, B8, s8, hH, by rw [Nat.add_mul, Nat.one_mul]; omega⟩ (by omega)
        ·
          refine WL.nil (WX.then_normal (WC.cond_false rfl (WC.exit (WX.then_exit (WX.then_exit (WX.block_here (WX.then_normal (?_))))))))
          refine WC.seq (WC.region (WL.assign rfl rfl (WL.nil (WX.then_normal (WC.ret (?_))))))
          refine WX.ret1 (.inl rfl) Try.results3 rfl ?_
          exact ⟨_, rfl, rfl, hw⟩
    ·
      have hN1 : ∀ w1, Calls Try.prog 10 [vi dr, vi sd].toArray w1 (Ret fun v w' => v = .tuple #[.pointer none, vi 1] ∧ Chg Nob w1 w') := fun w1 => New_no w1 hv
      have hN2 : ∀ w1, Calls Try.prog 11 [vi dr, vi sd].toArray w1 (Ret fun v w' => v = .tuple #[.pointer none, vi 1] ∧ Chg Nob w1 w') := fun w1 => dNew_no w1 hv
      refine WL.call eg_10 rfl rfl (hN1 _) ?_
      rintro v w2 ⟨rfl, k2⟩
      have zs_k2 := k2.size
      replace hO := hO.pure k2
      replace hw := hw.pure k2
      refine WL.move rfl rfl (WL.extract rfl rfl rfl (WL.extract rfl rfl rfl (WL.assign rfl rfl (WL.assign rfl rfl (WL.nil (WX.then_normal (WC.seq (?_))))))))
      refine WC.region (WL.move rfl rfl (WL.move rfl rfl (?_)))
      refine WL.call eg_11 rfl rfl (hN2 _) ?_
      rintro v w3 ⟨rfl, k3⟩
      have zs_k3 := k3.size
      replace hO := hO.pure k3
      replace hw := hw.pure k3
      refine WL.move rfl rfl (WL.extract rfl rfl rfl (WL.extract rfl rfl rfl (WL.assign rfl rfl (WL.assign rfl rfl (WL.nil (WX.then_normal (WC.seq (?_))))))))
      refine WC.seq (WC.region (WL.move rfl rfl (WL.move rfl rfl (?_))))
      refine WL.neqF rfl rfl rfl (by first | rfl | omega | decide) ?_
      refine WL.move rfl rfl (WL.want rfl rfl rfl (WL.move rfl rfl (WL.want rfl rfl rfl (?_))))
      refine WL.ptrNil Try.underlying25 rfl rfl rfl ?_
      refine WL.want rfl rfl rfl (WL.move rfl rfl (WL.want rfl rfl rfl (?_)))
      refine WL.ptrNil Try.underlying33 rfl rfl rfl ?_
      refine WL.want rfl rfl rfl (?_)
      refine WL.bneqF Try.underlying4 rfl rfl rfl rfl ?_
      refine WL.pickF rfl rfl rfl (WL.nil (WX.then_normal (WC.cond_false rfl (WC.skip (WX.then_normal (WC.seq (WC.seq (?_))))))))
      refine WC.region (WL.move rfl rfl (?_))
      refine WL.ptrNil Try.underlying33 rfl rfl rfl ?_
      refine WL.nil (WX.then_normal (WC.cond_true rfl (WC.seq (WC.region (WL.assign rfl rfl (WL.nil (WX.then_normal (?_))))))))
      refine WC.ret (WX.then_ret (?_))
      refine WX.ret1 (.inl rfl) Try.results3 rfl ?_
      exact ⟨_, rfl, rfl, hw⟩
end Go.Proofs.Ytcdbkfaebgficaa
