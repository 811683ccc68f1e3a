import Derived.Test.YtggecdldnpildaaGreatQArrayCosts11
namespace Go.Proofs.YtggecdldnpildaaGreat
open Go.RowKit Go.HL
set_option maxRecDepth 100000

/-! the same numbers; a text's sum; what is known -/
theorem same6_calls {S1 S2 : Nat → Prop} {w : World} {a1 a2 : Option Addr} {c1 c2 : Nat} {xs ys : List Int} (h1 : RSl S1 w ei a1 c1 xs) (h2 : RSl S2 w ei a2 c2 ys) (hl : xs.length ≤ 9223372036854775807) :
    Calls Tryz.prog 54 [.slice a1 xs.length c1, .slice a2 ys.length c2].toArray w (Ret fun v w' => v = .bool (decide (xs = ys)) ∧ Chg Nob w w') := by
  have hw := Chg.refl Nob w
  refine Calls.of_WC Tryz.func54 rfl Tryz.ntmps54 (by simp) ?_
  refine WC.seq (WC.region (WL.assign rfl rfl (WL.nil (WX.then_normal (WC.seq (WC.seq (WC.region (?_))))))))
  refine WL.move rfl rfl (WL.len Tryz.underlying39 rfl rfl (WL.move rfl rfl (WL.len Tryz.underlying39 rfl rfl (?_))))
  refine WL.neq? rfl rfl rfl (fun h10 => ?_) (fun h10 => ?_)
  ·
    refine WL.nil (WX.then_normal (WC.cond_true rfl (WC.seq (WC.region (WL.assign rfl rfl (WL.nil (WX.then_normal (?_))))))))
    refine WC.ret (WX.then_ret (?_))
    refine WX.ret1 (.inl rfl) Tryz.results54 rfl ?_
    first
      | (refine ⟨_, rfl, ?_, hw⟩
         rw [decide_eq_false (fun e => by rw [e] at h10; omega)])
      | (refine ⟨_, rfl, ?_, hw⟩
         rw [decide_eq_false (fun e => by rw [e, hy] at hx; injection hx with hx; omega)])
      | (refine ⟨_, rfl, ?_, hw⟩
         rw [decide_eq_true (List.ext_getElem? (fun j => by
           rcases Nat.lt_or_ge j xs.length with h3 | h3
           ·
             exact hno j (by omega)
           ·
             rw [List.getElem?_eq_none h3, List.getElem?_eq_none (by omega)]))])
  ·
    refine WL.nil (WX.then_normal (WC.cond_false rfl (WC.skip (WX.then_normal (WC.seq (WC.seq (WC.region (?_))))))))
    refine WL.assign rfl rfl (WL.nil (WX.then_normal (WC.block (?_))))
    refine WC.loop (σ := Nat) (fun i => [(0, .slice a1 xs.length c1), (1, .slice a2 ys.length c2), (5, vi (i : Int))]) (fun i w' => i ≤ xs.length ∧ RSl S1 w' ei a1 c1 xs ∧ RSl S2 w' ei a2 c2 ys ∧ Chg Nob w w' ∧ ∀ j, j < i → xs[j]? = ys[j]?) (fun i => xs.length - i) 0 ⟨rfl, rfl, rfl, trivial⟩ ⟨Nat.zero_le _, h1, h2, hw, fun j hj => by omega⟩ ?_
    clear h1 h2 hw
    rintro i w1 ⟨hi, h1, h2, hw, hno⟩
    refine WC.seq (WC.seq (WC.region (WL.move rfl rfl (WL.move rfl rfl (WL.len Tryz.underlying39 rfl rfl (?_))))))
    refine WL.lss? rfl rfl rfl (fun h14 => ?_) (fun h14 => ?_)
    ·
      refine WL.nil (WX.then_normal (WC.cond_true rfl (WC.skip (WX.then_normal (WC.seq (WC.block (WC.seq (?_))))))))
      obtain ⟨x, hx⟩ : ∃ x, xs[i]? = some x := ⟨_, List.getElem?_eq_getElem (by omega)⟩
      obtain ⟨y, hy⟩ : ∃ y, ys[i]? = some y := ⟨_, List.getElem?_eq_getElem (by omega)⟩
      obtain ⟨b1, o1, rfl⟩ := h1.place hx
      obtain ⟨b2, o2, rfl⟩ := h2.place hy
      refine WC.draw (Nob) [0, 1, 2, 3, 4, 5, 6, 7, 8] [] mixed rfl rfl (fun wd_1 kd_1 zd_1 => ?_)
      have zs_kd_1 := kd_1.size
      replace h1 := h1.pure kd_1
      replace h2 := h2.pure kd_1
      replace hw := hw.pure kd_1
      apply DQ.step (E' := [(0, _)])
      case ho => rfl
      case hs => exact ⟨rfl, trivial⟩
      case hk => rfl
      case h1 =>
        intro wq_2 kq_2
        refine WL.move rfl rfl (?_)
        refine WL.nil ?_
        exact WX.one ⟨rfl, by exact Chg.refl _ _⟩
      apply DQ.step (E' := [(5, _)])
      case ho => rfl
      case hs => exact ⟨rfl, trivial⟩
      case hk => rfl
      case h1 =>
        intro wq_3 kq_3
        refine WL.move rfl rfl (?_)
        refine WL.nil ?_
        exact WX.one ⟨rfl, by exact Chg.refl _ _⟩
      apply DQ.step (E' := [(17, _), (18, _)])
      case ho => rfl
      case hs => exact ⟨rfl, rfl, trivial⟩
      case hk => rfl
      case h1 =>
        intro wq_4 kq_4
        have zs_kq_4 := kq_4.size
        replace h1 := h1.pure kq_4
        replace h2 := h2.pure kq_4
        replace hw := hw.pure kq_4
        refine WL.indexC h1 Tryz.underlying39 Tryz.sizeOf3 rfl rfl ⟨hx, rfl⟩ rfl ?_
        refine WL.nil ?_
        exact WX.one ⟨rfl, by exact Chg.refl _ _⟩
      apply DQ.step (E' := [(19, _)])
      case ho => rfl
      case hs => exact ⟨rfl, trivial⟩
      case hk => rfl
      case h1 =>
        intro wq_5 kq_5
        have zs_kq_5 := kq_5.size
        replace h1 := h1.pure kq_5
        replace h2 := h2.pure kq_5
        replace hw := hw.pure kq_5
        refine WL.load Tryz.isAgg3 rfl ((h1.cellsAt hx) 0 _ rfl) rfl (?_)
        refine WL.nil ?_
        exact WX.one ⟨rfl, by exact Chg.refl _ _⟩
      apply DQ.step (E' := [(1, _)])
      case ho => rfl
      case hs => exact ⟨rfl, trivial⟩
      case hk => rfl
      case h1 =>
        intro wq_6 kq_6
        refine WL.move rfl rfl (?_)
        refine WL.nil ?_
        exact WX.one ⟨rfl, by exact Chg.refl _ _⟩
      apply DQ.step (E' := [(5, _)])
      case ho => rfl
      case hs => exact ⟨rfl, trivial⟩
      case hk => rfl
      case h1 =>
        intro wq_7 kq_7
        refine WL.move rfl rfl (?_)
        refine WL.nil ?_
        exact WX.one ⟨rfl, by exact Chg.refl _ _⟩
      apply DQ.step (E' := [(21, _), (22, _)])
      case ho => rfl
      case hs => exact ⟨rfl, rfl, trivial⟩
      case hk => rfl
      case h1 =>
        intro wq_8 kq_8
        have zs_kq_8 := kq_8.size
        replace h1 := h1.pure kq_8
        replace h2 := h2.pure kq_8
        replace hw := hw.pure kq_8
        refine WL.indexC h2 Tryz.underlying39 Tryz.sizeOf3 rfl rfl ⟨hy, rfl⟩ rfl ?_
        refine WL.nil ?_
        exact WX.one ⟨rfl, by exact Chg.refl _ _⟩
      apply DQ.step (E' := [(23, _)])
      case ho => rfl
      case hs => exact ⟨rfl, trivial⟩
      case hk => rfl
      case h1 =>
        intro wq_9 kq_9
        have zs_kq_9 := kq_9.size
        replace h1 := h1.pure kq_9
        replace h2 := h2.pure kq_9
        replace hw := hw.pure kq_9
        refine WL.load Tryz.isAgg3 rfl ((h2.cellsAt hy) 0 _ rfl) rfl (?_)
        refine WL.nil ?_
        exact WX.one ⟨rfl, by exact Chg.refl _ _⟩
      apply DQ.split (E' := [(20, _), (24, _)])
      case ho => rfl
      case hs => exact ⟨rfl, rfl, trivial⟩
      case hk => rfl
      case h1 =>
        intro wq_10 kq_10
        refine WL.neq rfl rfl rfl ?_
        refine WL.nil ?_
        exact WX.one ⟨rfl, by exact Chg.refl _ _⟩
      case ht =>
        intro h25
        replace h25 := of_decide_eq_true h25
        refine DQ.done (fun _ => ?_)
        refine DL.done (fun we_11 ke_11 => ?_)
        have zs_ke_11 := ke_11.size
        replace h1 := h1.pure ke_11
        replace h2 := h2.pure ke_11
        replace hw := hw.pure ke_11
        refine WX.then_normal (WC.cond_true rfl (WC.seq (WC.region (WL.assign rfl rfl (WL.nil (WX.then_normal (WC.ret (?_))))))))
        refine WX.block_ret (WX.then_ret (WX.then_ret (WX.block_ret (WX.then_ret (?_)))))
        refine WX.ret1 (.inl rfl) Tryz.results54 rfl ?_
        first
          | (refine ⟨_, rfl, ?_, hw⟩
             rw [decide_eq_false (fun e => by rw [e] at h10; omega)])
          | (refine ⟨_, rfl, ?_, hw⟩
             rw [decide_eq_false (fun e => by rw [e, hy] at hx; injection hx with hx; omega)])
          | (refine ⟨_, rfl, ?_, hw⟩
             rw [decide_eq_true (List.ext_getElem? (fun j => by
               rcases Nat.lt_or_ge j xs.length with h3 | h3
               ·
                 exact hno j (by omega)
               ·
                 rw [List.getElem?_eq_none h3, List.getElem?_eq_none (by omega)]))])
      case hf =>
        intro h25
        replace h25 := of_decide_eq_false h25
        refine DQ.done (fun _ => ?_)
        refine DL.done (fun we_11 ke_11 => ?_)
        have zs_ke_11 := ke_11.size
        replace h1 := h1.pure ke_11
        replace h2 := h2.pure ke_11
        replace hw := hw.pure ke_11
        refine WX.then_normal (WC.cond_false rfl (WC.skip (WX.block_normal (WX.then_normal (WC.region (WL.move rfl rfl (WL.add64 rfl rfl (by omega) rfl (?_))))))))
        refine WL.assign rfl rfl (WL.nil (?_))
        refine WX.loop_next (i + 1) ⟨rfl, rfl, rfl, trivial⟩ ⟨by omega, h1, h2, hw, fun j hj => ?_⟩ (by omega)
        rcases Nat.lt_or_ge j i with h3 | h3
        ·
          exact hno j h3
        ·
          have h4 : j = i := by omega
          subst h4
          have h5 : x = y := by omega
          rw [hx, hy, h5]
    ·
      refine WL.nil (WX.then_normal (WC.cond_false rfl (WC.exit (WX.then_exit (WX.then_exit (WX.block_here (WX.then_normal (?_))))))))
      refine WC.seq (WC.region (WL.assign rfl rfl (WL.nil (WX.then_normal (WC.ret (?_))))))
      refine WX.ret1 (.inl rfl) Tryz.results54 rfl ?_
      first
        | (refine ⟨_, rfl, ?_, hw⟩
           rw [decide_eq_false (fun e => by rw [e] at h10; omega)])
        | (refine ⟨_, rfl, ?_, hw⟩
           rw [decide_eq_false (fun e => by rw [e, hy] at hx; injection hx with hx; omega)])
        | (refine ⟨_, rfl, ?_, hw⟩
           rw [decide_eq_true (List.ext_getElem? (fun j => by
             rcases Nat.lt_or_ge j xs.length with h3 | h3
             ·
               exact hno j (by omega)
             ·
               rw [List.getElem?_eq_none h3, List.getElem?_eq_none (by omega)]))])
theorem sum6_calls (w : World) (t : ByteArray) (ht : t.size ≤ 4000) : Calls Tryz.prog 24 [.string t].toArray w (Ret fun v w' => v = .string ⟨(sumB t.data.toList).toArray⟩ ∧ Chg Nob w w') := by
  have hw := Chg.refl Nob w
  have hts : t.data.toList.length = t.size := by rw [Array.length_toList]; rfl
  refine Calls.of_WC Tryz.func24 rfl Tryz.ntmps24 (by simp) ?_
  refine WC.seq (WC.region (WL.assign rfl rfl (WL.nil (WX.then_normal (WC.seq (WC.region (WL.move rfl rfl (?_))))))))
  refine WL.toBytes Tryz.underlying9 Tryz.underlying26 Tryz.underlying5 rfl (by omega) rfl ?_
  intro a_hb c_hb w_hb hb k_hb z_hb
  have zs_k_hb := k_hb.size
  replace hw := hw.pure k_hb
  refine WL.call eg_12 rfl rfl (sum_calls hb.rsl (by omega)) ?_
  rintro v w5 ⟨rfl, k5⟩
  have zs_k5 := k5.size
  replace hw := hw.pure k5
  replace hb := hb.pure k5
  refine WL.assign rfl rfl (WL.nil (WX.then_normal (WC.ret (?_))))
  refine WX.ret1 (.inl rfl) Tryz.results24 rfl ?_
  exact ⟨_, rfl, rfl, hw⟩
theorem bgon_none {s : RA} (h : ∀ d, goneS s d = false) (addr size : Nat) : bgon s addr size = [] := List.filter_eq_nil_iff.2 (fun d _ => by simp [h d])
theorem sum32 (b : List UInt8) : (⟨(sumB b).toArray⟩ : ByteArray).size = 32 := sumB_len b
set_option maxHeartbeats 4000000 in
theorem known6_calls (w : World) : Calls Tryz.prog 20 [].toArray w (Ret fun v w' => v = .bool true ∧ Chg Nob w w') := by
  have hw := Chg.refl Nob w
  obtain ⟨s0, es0⟩ : ∃ s0, s0 = newS 5 3 := ⟨_, rfl⟩
  have u0 : Up s0 := es0 ▸ newS_up 5 3
  have sd : s0.dn = 5 := by rw [es0]; rfl
  have sn : s0.sn = 3 := by rw [es0]; rfl
  have sw : s0.waits.length = 0 := by rw [es0]; rfl
  have sg : ∀ d, goneS s0 d = false := fun d => by rw [es0]; exact newS_gone 5 3 d
  obtain ⟨B, eB⟩ : ∃ B : List UInt8, B = [97, 98, 99] := ⟨_, rfl⟩
  have hBl : B.length = 3 := by rw [eB]; rfl
  refine Calls.of_WC Tryz.func20 rfl Tryz.ntmps20 (by simp) ?_
  refine WC.seq (WC.region (WL.assign rfl rfl (WL.nil (WX.then_normal (WC.seq (WC.region (?_)))))))
  refine WL.call eg_13 rfl rfl (New_calls w (dn := 5) (sn := 3) (by decide) (by decide)) ?_
  rintro v w1 ⟨⟨R, rfl, hR⟩, k1⟩
  rw [← es0] at hR
  replace hR := hR.old
  have zs_k1 := k1.size
  replace hw := hw.pure k1
  refine WL.move rfl rfl (WL.extract rfl rfl rfl (WL.extract rfl rfl rfl (WL.assign rfl rfl (WL.assign rfl rfl (WL.nil (WX.then_normal (WC.seq (?_))))))))
  refine WC.region (WL.move rfl rfl (?_))
  refine WL.call eg_14 rfl rfl (anew_calls hR 1 (by omega) (by omega)) ?_
  rintro v w2 ⟨⟨a, rfl, hBa, hage⟩, k2⟩
  have la := hBa.lt
  have zw1 := hw.size
  have zs_k2 := k2.size
  replace hw := hw.pure k2
  replace hR := hR.pure k2
  refine WL.move rfl rfl (WL.extract rfl rfl rfl (WL.extract rfl rfl rfl (WL.assign rfl rfl (WL.assign rfl rfl (WL.nil (WX.then_normal (WC.seq (?_))))))))
  refine WC.seq (WC.region (WL.move rfl rfl (?_)))
  refine WL.neqF rfl rfl rfl (by rfl) ?_
  refine WL.move rfl rfl (WL.want rfl rfl rfl (WL.move rfl rfl (WL.want rfl rfl rfl (?_))))
  refine WL.neqF rfl rfl rfl (by rfl) ?_
  refine WL.pickF rfl rfl rfl (WL.move rfl rfl (WL.want rfl rfl rfl (WL.move rfl rfl (WL.want rfl rfl rfl (?_)))))
  refine WL.ptrNil Tryz.underlying31 rfl rfl rfl ?_
  refine WL.pickF rfl rfl rfl (WL.move rfl rfl (WL.want rfl rfl rfl (WL.move rfl rfl (WL.want rfl rfl rfl (?_)))))
  refine WL.call eg_16 rfl rfl (Cells_calls hBa hR (by omega)) ?_
  rintro v w3 ⟨rfl, k3⟩
  rw [show s0.dn * (s0.sn - 1) = 10 from by rw [sd, sn]]
  have zs_k3 := k3.size
  replace hw := hw.pure k3
  replace hR := hR.pure k3
  replace hBa := hBa.pure k3
  refine WL.want rfl rfl rfl (?_)
  refine WL.neqF rfl rfl rfl (by rfl) ?_
  refine WL.pickF rfl rfl rfl (WL.move rfl rfl (WL.want rfl rfl rfl (WL.move rfl rfl (WL.want rfl rfl rfl (?_)))))
  refine WL.build (e := eb) [97, 98, 99] Tryz.underlying26 Tryz.sizeOf5 Tryz.zeroValue5 rfl rfl rfl (by simp [Value.cells] <;> rfl) (by decide) rfl ?_
  intro a_q34 w_q34 q34 l_q34 z_q34 k_q34
  have zs_k_q34 := k_q34.size
  replace hw := hw.pure k_q34
  replace hR := hR.pure k_q34
  replace hBa := hBa.pure k_q34
  refine WL.want rfl rfl rfl (?_)
  have zc := hw.size
  refine WL.mark Tryz.underlying26 Tryz.underlying5 q34 (by decide) rfl rfl ?_
  intro w4 hq k4 z4
  replace hR := hR.chg k4 (fun x _ h1 h2 => by have := h1.2; have := h2.2; omega)
  replace hBa := hBa.chg k4 (fun h => by have := h.2; omega)
  replace hw := hw.chg k4 (fun x h1 h2 => by have := h2.2; omega)
  rw [← eB] at hq ⊢
  refine WL.want rfl rfl rfl (?_)
  have c1 : costA s0.dn (secsA B.length) = 4 := by rw [sd, hBl]; decide +kernel
  have l2 := hBa.lt
  have hc := awrite_good hBa (fun h => by have := h.2; omega) hR (fun x hx => by have := hx.2; omega) u0 (by omega) (by omega) 1 hq (by omega) (by rw [c1, sd, sn]; decide) (by omega) (by rw [bgon_none sg]; decide)
  refine WL.call eg_17 rfl rfl (hc) ?_
  rintro v w5 ⟨rfl, hR5, k5⟩
  have z5 := k5.size
  replace hBa := hBa.chg k5 (fun h => by have := h.2; omega)
  replace hw := hw.chg k5 (fun x h1 h2 => by have h3 : w.heap.size ≤ x := h2.1; omega)
  have hna : ¬ (((w.heap.size ≤ a) ∧ a < w1.heap.size) ∨ w4.heap.size ≤ a) := fun h => by omega
  have hA5 : ∀ x, x < w.heap.size → (((w.heap.size ≤ x) ∧ x < w1.heap.size) ∨ w4.heap.size ≤ x) → False := fun x h1 h2 => by omega
  have hI0 := wrT_intact s0 1 1 (layA s0.dn B) (bad := []) (fun c h1 h2 hg => by rw [sg] at hg; cases hg)
  obtain ⟨s1, es1⟩ : ∃ s1, s1 = wrT s0 1 1 (layA s0.dn B) (layA s0.dn B).length := ⟨_, rfl⟩
  obtain ⟨d1, n1, -, -⟩ := wrT_dn s0 1 1 (layA s0.dn B) (layA s0.dn B).length
  have u1 := wrT_up u0 1 1 (layA s0.dn B) (layA s0.dn B).length
  have g1 : ∀ d, goneS s1 d = false := fun d => by rw [es1, wrT_gone]; exact sg d
  rw [← es1] at hI0 hR5 d1 n1 u1
  rw [sd] at d1 hI0 hBa
  rw [sn] at n1
  clear es1
  refine WL.want rfl rfl rfl (?_)
  refine WL.neqF rfl rfl rfl (by rfl) ?_
  refine WL.pickF rfl rfl rfl (WL.move rfl rfl (WL.want rfl rfl rfl (WL.move rfl rfl (WL.want rfl rfl rfl (?_)))))
  have ok1 := hR5.ok
  refine WL.call eg_18 rfl rfl (LoseU hR5 (d := 1) (by constructor <;> omega)) ?_
  rintro v w6 ⟨rfl, hR6, k6⟩
  replace hBa := hBa.chg k6 hna
  replace hw := hw.chg k6 (fun x h1 h2 => (hA5 x h1 h2).elim)
  refine WL.want rfl rfl rfl (?_)
  refine WL.neqF rfl rfl rfl (by rfl) ?_
  refine WL.pickF rfl rfl rfl (WL.move rfl rfl (WL.want rfl rfl rfl (WL.move rfl rfl (WL.want rfl rfl rfl (?_)))))
  have ok2 := hR6.ok
  refine WL.call eg_18 rfl rfl (LoseU hR6 (d := 2) ⟨by decide, by show (2 : Int) < (s1.dn : Int); omega⟩) ?_
  rintro v w7 ⟨rfl, hR7, k7⟩
  replace hBa := hBa.chg k7 hna
  replace hw := hw.chg k7 (fun x h1 h2 => (hA5 x h1 h2).elim)
  refine WL.want rfl rfl rfl (?_)
  refine WL.neqF rfl rfl rfl (by rfl) ?_
  refine WL.pickF rfl rfl rfl (WL.move rfl rfl (WL.want rfl rfl rfl (WL.move rfl rfl (WL.want rfl rfl rfl (?_)))))
  have ok3 := hR7.ok
  refine WL.call eg_18 rfl rfl (LoseU hR7 (d := 4) ⟨by decide, by show (4 : Int) < (s1.dn : Int); omega⟩) ?_
  rintro v w8 ⟨rfl, hR8, k8⟩
  replace hBa := hBa.chg k8 hna
  replace hw := hw.chg k8 (fun x h1 h2 => (hA5 x h1 h2).elim)
  have ok4 := hR8.ok
  have i1 : isS s1 1 := ⟨by decide, by omega⟩
  have i2 : isS (loseS s1 1 true) 2 := ⟨by decide, by show (2 : Int) < (s1.dn : Int); omega⟩
  have i4 : isS (loseS (loseS s1 1 true) 2 true) 4 := ⟨by decide, by show (4 : Int) < (s1.dn : Int); omega⟩
  have hI4 : Intact (loseS (loseS (loseS s1 1 true) 2 true) 4 true) 1 1 (layA 5 B) [1, 2, 4] := lose_intact ok3 (lose_intact ok2 (lose_intact ok1 (hI0.mono (fun d hd => by cases hd)) i1 (by decide)) i2 (by decide)) i4 (by decide)
  have gg : ∀ d : Int, 0 ≤ d → goneS (loseS (loseS (loseS s1 1 true) 2 true) 4 true) d = decide (d = 1 ∨ d = 2 ∨ d = 4) := fun d hd => by
    rw [loseS_gone ok3 i4 true hd, loseS_gone ok2 i2 true hd, loseS_gone ok1 i1 true hd, g1 d]
    by_cases h4 : d = 4
    ·
      simp [h4]
    ·
      by_cases h2 : d = 2
      ·
        simp [h2]
      ·
        by_cases h1 : d = 1 <;> simp [h1, h2, h4]
  have u4 : Up (loseS (loseS (loseS s1 1 true) 2 true) 4 true) := loseS_up (loseS_up (loseS_up u1 _ _) _ _) _ _
  have d4 : (loseS (loseS (loseS s1 1 true) 2 true) 4 true).dn = 5 := d1
  have n4 : (loseS (loseS (loseS s1 1 true) 2 true) 4 true).sn = 3 := n1
  obtain ⟨s4, es4⟩ : ∃ s4, s4 = loseS (loseS (loseS s1 1 true) 2 true) 4 true := ⟨_, rfl⟩
  rw [← es4] at hR8 ok4 hI4 gg u4 d4 n4
  clear es4
  have hgon : bgon s4 1 3 = [1, 2, 4] := by
    have h1 : drvA s4.dn 1 (costA s4.dn (secsA 3)) = [1, 2, 3, 4] := by
      rw [d4, show costA 5 (secsA 3) = 4 from by decide +kernel, drvA, show (List.range (min 4 5)).map (fun c => (((1 + c) % 5 : Nat) : Int)) = [1, 2, 3, 4] from by decide +kernel]
      exact srt_id (by decide)
    show gonA s4 (drvA s4.dn 1 (costA s4.dn (secsA 3))) = _
    rw [h1, gonA]
    simp [gg 1 (by decide), gg 2 (by decide), gg 3 (by decide), gg 4 (by decide)]
  have hrd := intact_gone ok4 (by omega) (f := 1) (a := 1) (b := B) (by rw [d4, hBl, hgon]; exact hI4) (by rw [hBl, hgon]; decide)
  rw [hBl, hgon] at hrd
  refine WL.want rfl rfl rfl (?_)
  refine WL.neqF rfl rfl rfl (by rfl) ?_
  refine WL.pickF rfl rfl rfl (WL.nil (WX.then_normal (WC.cond_false rfl (WC.skip (WX.then_normal (WC.seq (WC.region (?_))))))))
  refine WL.move rfl rfl (?_)
  refine WL.call eg_24 rfl rfl (sum6_calls _ (⟨B.toArray⟩ : ByteArray) (by show B.toArray.size ≤ 4000; rw [List.size_toArray, hBl]; decide)) ?_
  rintro v w9 ⟨rfl, k9⟩
  rw [show (⟨B.toArray⟩ : ByteArray).data.toList = B from rfl]
  have zs_k9 := k9.size
  replace hw := hw.pure k9
  replace hBa := hBa.pure k9
  replace hR8 := hR8.pure k9
  have c4 : costA s4.dn (secsA 3) = 4 := by rw [d4]; decide +kernel
  have hcl := aread_good (by rw [d4]; exact hBa) hR8 u4 (by omega) (by omega) 1 3 (by decide) (by rw [c4, d4, n4]; decide) ⟨(sumB B).toArray⟩ (sum32 B) (by rw [hgon]; decide)
  refine WL.call eg_19 rfl rfl (hcl) ?_
  rintro v w10 ⟨-, hsome, k10⟩
  have hs := hsome [] hrd.1
  rw [hgon, hrd.2.1, hrd.2.2] at hs
  obtain ⟨fa, fc, ba, bc, rfl, hB, hb⟩ := hs
  clear hsome
  have zs_k10 := k10.size
  replace hw := hw.pure k10
  replace hBa := hBa.pure k10
  replace hR8 := hR8.pure k10
  refine WL.move rfl rfl (WL.extract rfl rfl rfl (WL.extract rfl rfl rfl (WL.extract rfl rfl rfl (WL.assign rfl rfl (WL.assign rfl rfl (WL.assign rfl rfl (WL.nil (?_))))))))
  refine WX.then_normal (WC.seq (WC.region (WL.move rfl rfl (?_))))
  refine WL.eqlT rfl rfl rfl (by rfl) ?_
  refine WL.move rfl rfl (WL.want rfl rfl rfl (WL.move rfl rfl (WL.want rfl rfl rfl (?_))))
  refine WL.toStr Tryz.underlying26 Tryz.underlying5 Tryz.underlying9 hB.rsl rfl rfl ?_
  refine WL.want rfl rfl rfl (?_)
  refine WL.seqlT rfl rfl rfl (by rfl) ?_
  refine WL.pickT rfl rfl rfl (WL.move rfl rfl (WL.want rfl rfl rfl (WL.move rfl rfl (WL.want rfl rfl rfl (?_)))))
  refine WL.build (e := ei) [1, 2, 4] Tryz.underlying39 Tryz.sizeOf3 Tryz.zeroValue3 rfl rfl rfl (by simp [Value.cells] <;> rfl) (by decide) rfl ?_
  intro a_q70 w_q70 q70 l_q70 z_q70 k_q70
  have zs_k_q70 := k_q70.size
  replace hw := hw.pure k_q70
  replace hBa := hBa.pure k_q70
  replace hR8 := hR8.pure k_q70
  replace hB := hB.pure k_q70
  replace hb := hb.pure k_q70
  refine WL.want rfl rfl rfl (?_)
  refine WL.call eg_54 rfl rfl (same6_calls hb.rsl q70.rsl (by decide)) ?_
  rintro v w11 ⟨rfl, k11⟩
  rw [decide_eq_true rfl]
  have zs_k11 := k11.size
  replace hw := hw.pure k11
  replace hBa := hBa.pure k11
  replace hR8 := hR8.pure k11
  replace hB := hB.pure k11
  replace hb := hb.pure k11
  replace q70 := q70.pure k11
  refine WL.pickT rfl rfl rfl (WL.assign rfl rfl (WL.nil (WX.then_normal (WC.ret (?_)))))
  refine WX.ret1 (.inl rfl) Tryz.results20 rfl ?_
  exact ⟨_, rfl, rfl, hw⟩
end Go.Proofs.YtggecdldnpildaaGreat
namespace Go.Proofs.YtggecdldnpildaaGreat
open Go.RowKit Go.HL
set_option maxRecDepth 100000

/-! what a block costs: the law -/
theorem drives_badsize {w : World} {a R n f : Nat} (hB : AB w a R n f) (addr size : Int) (hs : ¬ (1 ≤ size ∧ size ≤ 1024)) :
    Calls Tryz.prog 21 [ptr a, vi addr, vi size].toArray w (Ret fun v w' => v = .tuple #[.slice none 0 0, vi 1] ∧ Chg Nob w w') := by
  have hw := Chg.refl Nob w
  refine Calls.of_WC Tryz.func21 rfl Tryz.ntmps21 (by simp) ?_
  refine WC.seq (WC.region (WL.assign rfl rfl (WL.assign rfl rfl (WL.nil (WX.then_normal (WC.seq (WC.region (?_))))))))
  refine WL.move rfl rfl (WL.move rfl rfl (?_))
  refine WL.call eg_15 rfl rfl (cost_bad hB size hs) ?_
  rintro v w1 ⟨rfl, k1⟩
  have zs_k1 := k1.size
  replace hB := hB.pure k1
  replace hw := hw.pure k1
  refine WL.move rfl rfl (WL.extract rfl rfl rfl (WL.extract rfl rfl rfl (WL.assign rfl rfl (WL.assign rfl rfl (WL.nil (WX.then_normal (WC.seq (?_))))))))
  refine WC.seq (WC.region (WL.move rfl rfl (?_)))
  refine WL.neqT rfl rfl rfl (by omega) ?_
  refine WL.move rfl rfl (WL.pass rfl rfl rfl rfl (WL.pass rfl rfl rfl rfl (WL.pickT rfl rfl rfl (WL.move rfl rfl (WL.pass rfl rfl rfl rfl (WL.pass rfl rfl rfl rfl (WL.pass rfl rfl rfl rfl (?_))))))))
  refine WL.pass rfl rfl rfl rfl (WL.pass rfl rfl rfl rfl (WL.pass rfl rfl rfl rfl (WL.pickT rfl rfl rfl (WL.nil (WX.then_normal (WC.cond_true rfl (WC.seq (?_))))))))
  refine WC.region (WL.assign rfl rfl (WL.assign rfl rfl (WL.nil (WX.then_normal (WC.ret (WX.then_ret (?_)))))))
  refine WX.ret2 (.inl rfl) Tryz.results21 rfl rfl ?_
  exact ⟨_, rfl, rfl, hw⟩
theorem drives_badaddr {A : Nat → Prop} {w : World} {a R f : Nat} {s : RA} (hB : AB w a R s.dn f) (h : RK A w R s) (h5 : 5 ≤ s.dn) (hf : f < s.sn) (addr size : Nat) (hs : 1 ≤ size ∧ size ≤ 1024) (ha : s.dn * (s.sn - f) < addr + costA s.dn (secsA size)) :
    Calls Tryz.prog 21 [ptr a, vi addr, vi size].toArray w (Ret fun v w' => v = .tuple #[.slice none 0 0, vi 1] ∧ Chg Nob w w') := by
  have hw := Chg.refl Nob w
  have hdn := h.ok.dn
  have hsn := h.ok.sn
  have hm : s.dn * (s.sn - f) ≤ 16 * 2000 := Nat.mul_le_mul (by omega) (by omega)
  have h20 := (costA_is ⟨h5, hdn.2⟩ (secsA_le hs.2)).2
  refine Calls.of_WC Tryz.func21 rfl Tryz.ntmps21 (by simp) ?_
  refine WC.seq (WC.region (WL.assign rfl rfl (WL.assign rfl rfl (WL.nil (WX.then_normal (WC.seq (WC.region (?_))))))))
  refine WL.move rfl rfl (WL.move rfl rfl (?_))
  refine WL.call eg_15 rfl rfl (cost_good hB ⟨h5, hdn.2⟩ size hs) ?_
  rintro v w1 ⟨rfl, k1⟩
  have zs_k1 := k1.size
  replace hB := hB.pure k1
  replace h := h.pure k1
  replace hw := hw.pure k1
  refine WL.move rfl rfl (WL.extract rfl rfl rfl (WL.extract rfl rfl rfl (WL.assign rfl rfl (WL.assign rfl rfl (WL.nil (WX.then_normal (WC.seq (?_))))))))
  refine WC.seq (WC.region (WL.move rfl rfl (?_)))
  refine WL.neqF rfl rfl rfl (by rfl) ?_
  refine WL.move rfl rfl (WL.want rfl rfl rfl (WL.move rfl rfl (WL.want rfl rfl rfl (?_))))
  refine WL.lssF rfl rfl rfl (by omega) ?_
  refine WL.pickF rfl rfl rfl (WL.move rfl rfl (WL.want rfl rfl rfl (WL.move rfl rfl (WL.want rfl rfl rfl (WL.move rfl rfl (WL.want rfl rfl rfl (?_)))))))
  refine WL.call eg_16 rfl rfl (Cells_calls hB h hf) ?_
  rintro v w1 ⟨rfl, k1⟩
  have zs_k1 := k1.size
  replace hB := hB.pure k1
  replace h := h.pure k1
  replace hw := hw.pure k1
  refine WL.want rfl rfl rfl (WL.move rfl rfl (WL.want rfl rfl rfl (?_)))
  refine WL.sub64 rfl rfl (by constructor <;> omega) rfl ?_
  refine WL.want rfl rfl rfl (?_)
  refine WL.gtrT rfl rfl rfl (by omega) ?_
  refine WL.pickF rfl rfl rfl (WL.nil (WX.then_normal (WC.cond_true rfl (WC.seq (WC.region (WL.assign rfl rfl (WL.assign rfl rfl (?_))))))))
  refine WL.nil (WX.then_normal (WC.ret (WX.then_ret (?_))))
  refine WX.ret2 (.inl rfl) Tryz.results21 rfl rfl ?_
  exact ⟨_, rfl, rfl, hw⟩
set_option maxHeartbeats 4000000 in
theorem arrayCosts_calls {w : World} (x0 x1 x2 : Int) :
    Calls Tryz.prog 4 [vi x0, vi x1, vi x2].toArray w (Ret fun v w' => v = .bool true ∧ Chg Nob w w') := by
  have hw := Chg.refl Nob w
  obtain ⟨k, hk⟩ : ∃ k, k = (B64 x0 % 12).toNat := ⟨_, rfl⟩
  have hk12 : k < 12 := by rw [hk, UInt64.toNat_mod]; exact Nat.mod_lt _ (by decide)
  obtain ⟨n, hn⟩ : ∃ n, n = 5 + k := ⟨_, rfl⟩
  obtain ⟨s0, es0⟩ : ∃ s0, s0 = newS n 20 := ⟨_, rfl⟩
  have sd : s0.dn = n := by rw [es0]; rfl
  have sn : s0.sn = 20 := by rw [es0]; rfl
  refine Calls.of_WC Tryz.func4 rfl Tryz.ntmps4 (by simp) ?_
  refine WC.seq (WC.region (WL.assign rfl rfl (WL.nil (WX.then_normal (WC.seq (WC.seq (WC.region (?_))))))))
  refine WL.call eg_20 rfl rfl (known6_calls _) ?_
  rintro v w1 ⟨rfl, k1⟩
  have zs_k1 := k1.size
  replace hw := hw.pure k1
  refine WL.not rfl rfl (WL.nil (WX.then_normal (WC.cond_false rfl (WC.skip (WX.then_normal (WC.seq (WC.region (?_))))))))
  refine WL.move rfl rfl (WL.c_i64_u64 Tryz.underlying3 Tryz.underlying23 rfl rfl (WL.num rfl rfl (n_rem64 _ _ _ 12 (by decide)) rfl (?_)))
  refine WL.c_u64_i64s (n := k) Tryz.underlying23 Tryz.underlying3 rfl ⟨hk.symm, by omega⟩ rfl ?_
  refine WL.add64 rfl rfl (by constructor <;> omega) rfl ?_
  rw [show (5 : Int) + (k : Int) = (n : Int) from by omega]
  refine WL.assign rfl rfl (WL.nil (WX.then_normal (WC.seq (WC.region (WL.move rfl rfl (?_))))))
  refine WL.call eg_13 rfl rfl (New_calls _ (dn := n) (sn := 20) (by omega) (by decide)) ?_
  rintro v w2 ⟨⟨R, rfl, hR⟩, k2⟩
  rw [← es0] at hR
  have zs_k2 := k2.size
  replace hw := hw.pure k2
  refine WL.move rfl rfl (WL.extract rfl rfl rfl (WL.extract rfl rfl rfl (WL.assign rfl rfl (WL.assign rfl rfl (WL.nil (WX.then_normal (WC.seq (?_))))))))
  refine WC.region (WL.move rfl rfl (?_))
  refine WL.call eg_14 rfl rfl (anew_calls hR 0 (by omega) (by omega)) ?_
  rintro v w3 ⟨⟨a, rfl, hBa, hage⟩, k3⟩
  have zs_k3 := k3.size
  replace hw := hw.pure k3
  replace hR := hR.pure k3
  refine WL.move rfl rfl (WL.extract rfl rfl rfl (WL.extract rfl rfl rfl (WL.assign rfl rfl (WL.assign rfl rfl (WL.nil (WX.then_normal (WC.seq (?_))))))))
  refine WC.region (WL.move rfl rfl (WL.move rfl rfl (?_)))
  rcases (show (1 ≤ x1 ∧ x1 ≤ 1024) ∨ x1 < 1 ∨ 1024 < x1 from by omega) with hs | h1 | h1
  ·
    obtain ⟨sz, rfl⟩ : ∃ sz : Nat, x1 = (sz : Int) := ⟨x1.toNat, by omega⟩
    have hsz : 1 ≤ sz ∧ sz ≤ 1024 := by omega
    have h8 := secsA_le hsz.2
    have hci := costA_is (n := n) (by omega) h8
    obtain ⟨c, hc⟩ : ∃ c, c = costA n (secsA sz) := ⟨_, rfl⟩
    refine WL.call eg_15 rfl rfl (cost_good (n := s0.dn) hBa (by omega) sz hsz) ?_
    rintro v w4 ⟨rfl, k4⟩
    rw [sd, ← hc]
    have zs_k4 := k4.size
    replace hw := hw.pure k4
    replace hR := hR.pure k4
    replace hBa := hBa.pure k4
    refine WL.move rfl rfl (WL.extract rfl rfl rfl (WL.extract rfl rfl rfl (WL.assign rfl rfl (WL.assign rfl rfl (WL.nil (WX.then_normal (WC.seq (?_))))))))
    refine WC.seq (WC.region (WL.move rfl rfl (?_)))
    refine WL.neqF rfl rfl rfl (by rfl) ?_
    refine WL.move rfl rfl (WL.want rfl rfl rfl (WL.move rfl rfl (WL.want rfl rfl rfl (?_))))
    refine WL.neqF rfl rfl rfl (by rfl) ?_
    refine WL.pickF rfl rfl rfl (WL.nil (WX.then_normal (WC.cond_false rfl (WC.skip (WX.then_normal (WC.seq (WC.seq (?_))))))))
    refine WC.region (WL.move rfl rfl (?_))
    refine WL.lssF rfl rfl rfl (by omega) ?_
    refine WL.move rfl rfl (WL.want rfl rfl rfl (WL.move rfl rfl (WL.want rfl rfl rfl (?_))))
    refine WL.gtrF rfl rfl rfl (by omega) ?_
    refine WL.pickF rfl rfl rfl (WL.nil (WX.then_normal (WC.cond_false rfl (WC.skip (WX.then_normal (WC.seq (WC.region (?_))))))))
    refine WL.move rfl rfl (?_)
    refine WL.add64 rfl rfl (by constructor <;> omega) rfl ?_
    refine WL.quo64i rfl rfl (by refine ⟨?_, ?_, ?_⟩ <;> omega) rfl ?_
    rw [show ((sz : Int) + 127) / 128 = (secsA sz : Int) from by rw [secsA]; omega]
    refine WL.assign rfl rfl (WL.nil (WX.then_normal (WC.seq (WC.region (WL.move rfl rfl (WL.move rfl rfl (?_)))))))
    refine WL.add64 rfl rfl (by constructor <;> omega) rfl ?_
    refine WL.sub64 rfl rfl (by constructor <;> omega) rfl ?_
    refine WL.move rfl rfl (?_)
    refine WL.sub64 rfl rfl (by constructor <;> omega) rfl ?_
    obtain ⟨q, hq⟩ : ∃ q, q = (secsA sz + n - 4) / (n - 3) := ⟨_, rfl⟩
    have hq8 : q ≤ 100 := by rw [hq]; exact Nat.le_trans (Nat.div_le_self _ _) (by omega)
    refine WL.quo64i rfl rfl (by refine ⟨?_, ?_, ?_⟩ <;> omega) rfl ?_
    rw [show ((secsA sz : Int) + (n : Int) - 4) / ((n : Int) - 3) = (q : Int) from by rw [hq, Int.natCast_ediv, show ((secsA sz + n - 4 : Nat) : Int) = (secsA sz : Int) + (n : Int) - 4 from by omega, show ((n - 3 : Nat) : Int) = (n : Int) - 3 from by omega]]
    rw [← hq, ← hc] at hci
    refine WL.assign rfl rfl (WL.nil (WX.then_normal (WC.seq (WC.region (WL.move rfl rfl (WL.c_i64_u64 Tryz.underlying3 Tryz.underlying23 rfl rfl (WL.move rfl rfl (?_))))))))
    have hm : s0.dn * (s0.sn - 0) = n * 20 := by rw [sd, sn]
    refine WL.call eg_16 rfl rfl (Cells_calls hBa hR (by omega)) ?_
    rintro v w5 ⟨rfl, k5⟩
    rw [hm]
    have zs_k5 := k5.size
    replace hw := hw.pure k5
    replace hR := hR.pure k5
    replace hBa := hBa.pure k5
    refine WL.move rfl rfl (?_)
    refine WL.sub64 rfl rfl (by constructor <;> omega) rfl ?_
    obtain ⟨m, hmm⟩ : ∃ m, m = n * 20 - c + 1 := ⟨_, rfl⟩
    refine WL.add64 rfl rfl (by constructor <;> omega) rfl ?_
    rw [show ((n * 20 : Nat) : Int) - (c : Int) + 1 = (m : Int) from by omega]
    refine WL.c_i64_u64 Tryz.underlying3 Tryz.underlying23 rfl rfl (?_)
    obtain ⟨at_, hat⟩ : ∃ a, a = (B64 x2 % B64 (m : Int)).toNat := ⟨_, rfl⟩
    have hB64 : (B64 (m : Int)).toNat = m := B64_nat (by omega)
    have hatm : at_ < m := by rw [hat, UInt64.toNat_mod, hB64]; exact Nat.mod_lt _ (by omega)
    refine WL.num rfl rfl (n_rem64 _ _ _ _ (by rw [hB64]; omega)) rfl ?_
    refine WL.c_u64_i64s (n := at_) Tryz.underlying23 Tryz.underlying3 rfl ⟨hat.symm, by omega⟩ rfl ?_
    refine WL.assign rfl rfl (WL.nil (WX.then_normal (WC.seq (WC.region (WL.move rfl rfl (WL.move rfl rfl (WL.move rfl rfl (?_))))))))
    refine WL.call eg_21 rfl rfl (drives_good hBa hR (by omega) (by omega) at_ sz hsz (by rw [hm, sd, ← hc]; omega)) ?_
    rintro v w6 ⟨⟨a6, c6, rfl, hD⟩, k6⟩
    have hDl : (bdrv s0 at_ sz).length = min c n := by rw [drvA_len, sd, hc]
    rw [hDl]
    have zs_k6 := k6.size
    replace hw := hw.pure k6
    replace hR := hR.pure k6
    replace hBa := hBa.pure k6
    refine WL.move rfl rfl (WL.extract rfl rfl rfl (WL.extract rfl rfl rfl (WL.assign rfl rfl (WL.assign rfl rfl (WL.nil (WX.then_normal (WC.seq (?_))))))))
    refine WC.region (WL.move rfl rfl (WL.move rfl rfl (?_)))
    refine WL.call eg_16 rfl rfl (Cells_calls hBa hR (by omega)) ?_
    rintro v w7 ⟨rfl, k7⟩
    rw [hm]
    have zs_k7 := k7.size
    replace hw := hw.pure k7
    replace hR := hR.pure k7
    replace hBa := hBa.pure k7
    refine WL.move rfl rfl (?_)
    refine WL.sub64 rfl rfl (by constructor <;> omega) rfl ?_
    refine WL.add64 rfl rfl (by constructor <;> omega) rfl ?_
    rw [show ((n * 20 : Nat) : Int) - (c : Int) + 1 = (m : Int) from by omega]
    refine WL.move rfl rfl (?_)
    refine WL.call eg_21 rfl rfl (drives_badaddr hBa hR (by omega) (by omega) m sz hsz (by rw [hm, sd, ← hc]; omega)) ?_
    rintro v w8 ⟨rfl, k8⟩
    have zs_k8 := k8.size
    replace hw := hw.pure k8
    replace hR := hR.pure k8
    replace hBa := hBa.pure k8
    refine WL.move rfl rfl (WL.extract rfl rfl rfl (WL.extract rfl rfl rfl (WL.assign rfl rfl (WL.assign rfl rfl (WL.nil (WX.then_normal (WC.seq (?_))))))))
    refine WC.region (WL.move rfl rfl (?_))
    refine WL.eqlT rfl rfl rfl (by rfl) ?_
    refine WL.move rfl rfl (WL.want rfl rfl rfl (WL.move rfl rfl (WL.want rfl rfl rfl (WL.move rfl rfl (WL.want rfl rfl rfl (WL.move rfl rfl (WL.want rfl rfl rfl (?_))))))))
    refine WL.mul64 rfl rfl (by constructor <;> omega) rfl ?_
    refine WL.want rfl rfl rfl (?_)
    refine WL.add64 rfl rfl (by constructor <;> omega) rfl ?_
    refine WL.want rfl rfl rfl (?_)
    refine WL.eqlT rfl rfl rfl (by omega) ?_
    refine WL.pickT rfl rfl rfl (WL.move rfl rfl (WL.want rfl rfl rfl (WL.move rfl rfl (WL.want rfl rfl rfl (?_)))))
    refine WL.eqlT rfl rfl rfl (by rfl) ?_
    refine WL.pickT rfl rfl rfl (WL.move rfl rfl (WL.want rfl rfl rfl (WL.move rfl rfl (WL.want rfl rfl rfl (WL.len Tryz.underlying39 rfl rfl (WL.want rfl rfl rfl (WL.move rfl rfl (?_))))))))
    refine WL.want rfl rfl rfl (WL.move rfl rfl (WL.want rfl rfl rfl (?_)))
    refine WL.mini rfl rfl rfl ?_
    refine WL.want rfl rfl rfl (?_)
    refine WL.eqlT rfl rfl rfl ((by split <;> omega)) ?_
    refine WL.pickT rfl rfl rfl (WL.move rfl rfl (WL.want rfl rfl rfl (WL.move rfl rfl (WL.want rfl rfl rfl (?_)))))
    refine WL.eqlT rfl rfl rfl (by rfl) ?_
    refine WL.pickT rfl rfl rfl (WL.assign rfl rfl (WL.nil (WX.then_normal (WC.ret (?_)))))
    refine WX.ret1 (.inl rfl) Tryz.results4 rfl ?_
    exact ⟨_, rfl, rfl, hw⟩
  ·
    refine WL.call eg_15 rfl rfl (cost_bad hBa x1 (by omega)) ?_
    rintro v w4 ⟨rfl, k4⟩
    have zs_k4 := k4.size
    replace hw := hw.pure k4
    replace hR := hR.pure k4
    replace hBa := hBa.pure k4
    refine WL.move rfl rfl (WL.extract rfl rfl rfl (WL.extract rfl rfl rfl (WL.assign rfl rfl (WL.assign rfl rfl (WL.nil (WX.then_normal (WC.seq (?_))))))))
    refine WC.seq (WC.region (WL.move rfl rfl (?_)))
    refine WL.neqF rfl rfl rfl (by rfl) ?_
    refine WL.move rfl rfl (WL.want rfl rfl rfl (WL.move rfl rfl (WL.want rfl rfl rfl (?_))))
    refine WL.neqF rfl rfl rfl (by rfl) ?_
    refine WL.pickF rfl rfl rfl (WL.nil (WX.then_normal (WC.cond_false rfl (WC.skip (WX.then_normal (WC.seq (WC.seq (?_))))))))
    refine WC.region (WL.move rfl rfl (?_))
    refine WL.lssT rfl rfl rfl (by omega) ?_
    refine WL.move rfl rfl (WL.pass rfl rfl rfl rfl (WL.pass rfl rfl rfl rfl (WL.pickT rfl rfl rfl (WL.nil (WX.then_normal (WC.cond_true rfl (WC.seq (?_))))))))
    refine WC.region (WL.move rfl rfl (WL.move rfl rfl (?_)))
    refine WL.call eg_21 rfl rfl (drives_badsize hBa 0 x1 (by omega)) ?_
    rintro v w5 ⟨rfl, k5⟩
    have zs_k5 := k5.size
    replace hw := hw.pure k5
    replace hR := hR.pure k5
    replace hBa := hBa.pure k5
    refine WL.move rfl rfl (WL.extract rfl rfl rfl (WL.extract rfl rfl rfl (WL.assign rfl rfl (WL.assign rfl rfl (WL.nil (WX.then_normal (WC.seq (?_))))))))
    refine WC.region (WL.move rfl rfl (?_))
    refine WL.eqlT rfl rfl rfl (by rfl) ?_
    refine WL.move rfl rfl (WL.want rfl rfl rfl (WL.move rfl rfl (WL.want rfl rfl rfl (?_))))
    refine WL.eqlT rfl rfl rfl (by rfl) ?_
    refine WL.pickT rfl rfl rfl (WL.assign rfl rfl (WL.nil (WX.then_normal (WC.ret (WX.then_ret (?_))))))
    refine WX.ret1 (.inl rfl) Tryz.results4 rfl ?_
    exact ⟨_, rfl, rfl, hw⟩
  ·
    refine WL.call eg_15 rfl rfl (cost_bad hBa x1 (by omega)) ?_
    rintro v w4 ⟨rfl, k4⟩
    have zs_k4 := k4.size
    replace hw := hw.pure k4
    replace hR := hR.pure k4
    replace hBa := hBa.pure k4
    refine WL.move rfl rfl (WL.extract rfl rfl rfl (WL.extract rfl rfl rfl (WL.assign rfl rfl (WL.assign rfl rfl (WL.nil (WX.then_normal (WC.seq (?_))))))))
    refine WC.seq (WC.region (WL.move rfl rfl (?_)))
    refine WL.neqF rfl rfl rfl (by rfl) ?_
    refine WL.move rfl rfl (WL.want rfl rfl rfl (WL.move rfl rfl (WL.want rfl rfl rfl (?_))))
    refine WL.neqF rfl rfl rfl (by rfl) ?_
    refine WL.pickF rfl rfl rfl (WL.nil (WX.then_normal (WC.cond_false rfl (WC.skip (WX.then_normal (WC.seq (WC.seq (?_))))))))
    refine WC.region (WL.move rfl rfl (?_))
    refine WL.lssF rfl rfl rfl (by omega) ?_
    refine WL.move rfl rfl (WL.want rfl rfl rfl (WL.move rfl rfl (WL.want rfl rfl rfl (?_))))
    refine WL.gtrT rfl rfl rfl (by omega) ?_
    refine WL.pickF rfl rfl rfl (WL.nil (WX.then_normal (WC.cond_true rfl (WC.seq (WC.region (WL.move rfl rfl (WL.move rfl rfl (?_))))))))
    refine WL.call eg_21 rfl rfl (drives_badsize hBa 0 x1 (by omega)) ?_
    rintro v w5 ⟨rfl, k5⟩
    have zs_k5 := k5.size
    replace hw := hw.pure k5
    replace hR := hR.pure k5
    replace hBa := hBa.pure k5
    refine WL.move rfl rfl (WL.extract rfl rfl rfl (WL.extract rfl rfl rfl (WL.assign rfl rfl (WL.assign rfl rfl (WL.nil (WX.then_normal (WC.seq (?_))))))))
    refine WC.region (WL.move rfl rfl (?_))
    refine WL.eqlT rfl rfl rfl (by rfl) ?_
    refine WL.move rfl rfl (WL.want rfl rfl rfl (WL.move rfl rfl (WL.want rfl rfl rfl (?_))))
    refine WL.eqlT rfl rfl rfl (by rfl) ?_
    refine WL.pickT rfl rfl rfl (WL.assign rfl rfl (WL.nil (WX.then_normal (WC.ret (WX.then_ret (?_))))))
    refine WX.ret1 (.inl rfl) Tryz.results4 rfl ?_
    exact ⟨_, rfl, rfl, hw⟩
end Go.Proofs.YtggecdldnpildaaGreat
