import Derived.Test.YtbbpgbdiifmkhaaGk
namespace Go.HL
open Go.RowKit
theorem RS.cut {S : Nat → Prop} {w : World} {ao : Option Addr} {c : Nat} {rs : List Rw} (hr : RS S w ao c rs) (l h : Nat) (hl : l ≤ h ∧ h ≤ rs.length) : RS S w (cutAt ao c l erow.sz) (c - l) ((rs.take h).drop l) :=
  ⟨hr.outer.cut l h hl, fun r h1 => hr.inner r (List.mem_of_mem_take (List.mem_of_mem_drop h1))⟩
end Go.HL
namespace Go.Proofs.Ytbbpgbdiifmkhaa
open Go.RowKit Go.HL

theorem xss_take (rs : List Rw) (k : Nat) : xss ((rs.take k).drop 0) = (xss rs).take k := by rw [List.drop_zero, xss, xss, List.map_take]
theorem xss_drop (rs : List Rw) (k : Nat) : xss ((rs.take rs.length).drop k) = (xss rs).drop k := by rw [List.take_length, xss, xss, List.map_drop]
theorem beq0_calls {S1 S2 : Nat → Prop} {w : World} {a b : Option Addr} {c d : Nat} {us vs : List UInt8} (hx : RSl S1 w eb a c us) (hy : RSl S2 w eb b d vs) :
    Calls Try.prog 21 [.slice a us.length c, .slice b vs.length d].toArray w (Ret fun v w' => v = .bool (decide (us = vs)) ∧ Chg Nob w w') := by
  have hw := Chg.refl Nob w
  refine Calls.of_WC Try.func21 rfl Try.ntmps21 (by simp) ?_
  refine WC.seq (WC.region (WL.assign rfl rfl (WL.nil (WX.then_normal (WC.seq (WC.region (WL.move rfl rfl (?_))))))))
  refine WL.toStr Try.underlying28 Try.underlying5 Try.underlying9 hx rfl rfl ?_
  refine WL.move rfl rfl (?_)
  refine WL.toStr Try.underlying28 Try.underlying5 Try.underlying9 hy rfl rfl ?_
  refine WL.seql rfl rfl rfl (WL.assign rfl rfl (WL.nil (WX.then_normal (WC.ret (?_)))))
  refine WX.ret1 (.inl rfl) Try.results21 rfl ?_
  refine ⟨_, rfl, congrArg Value.bool (decide_eq_decide.2 ⟨fun h => ?_, fun h => by rw [h]⟩), hw⟩
  exact congrArg (fun s : ByteArray => s.data.toList) h
theorem beq_calls {S1 S2 : Nat → Prop} {w : World} {a b : Option Addr} {c d : Nat} {us vs : List UInt8} (hx : RSl S1 w eb a c us) (hy : RSl S2 w eb b d vs) :
    Calls Try.prog 21 (#[] ++ [.slice a us.length c, .slice b vs.length d].toArray ++ #[]) w (Ret fun v w' => v = .bool (decide (us = vs)) ∧ Chg Nob w w') := by
  rw [show (#[] ++ [Value.slice a us.length c, Value.slice b vs.length d].toArray ++ #[] : Array Value) = [Value.slice a us.length c, Value.slice b vs.length d].toArray from by rw [Array.append_empty, Array.empty_append]]
  exact beq0_calls hx hy
theorem equalFunc_calls {S1 S2 : Nat → Prop} {w : World} {aa ab : Option Addr} {ca cb : Nat} {us vs : List Rw} (ha : RS S1 w aa ca us) (hb : RS S2 w ab cb vs) (hla : us.length ≤ 100000) :
    Calls Try.prog 20 [.slice aa us.length ca, .slice ab vs.length cb, .func (.func 21) #[] #[]].toArray w (Ret fun v w' => v = .bool (decide (xss us = xss vs)) ∧ Chg Nob w w') := by
  replace ha := ha.old
  replace hb := hb.old
  have hw := Chg.refl Nob w
  refine Calls.of_WC Try.func20 rfl Try.ntmps20 (by simp) ?_
  refine WC.seq (WC.region (WL.assign rfl rfl (WL.nil (WX.then_normal (WC.seq (WC.seq (WC.region (?_))))))))
  refine WL.move rfl rfl (WL.len Try.underlying22 rfl rfl (WL.move rfl rfl (WL.len Try.underlying22 rfl rfl (?_))))
  refine WL.neq? rfl rfl rfl (fun h14 => ?_) (fun h14 => ?_)
  ·
    refine WL.nil (WX.then_normal (WC.cond_true rfl (WC.seq (WC.region (WL.assign rfl rfl (WL.nil (WX.then_normal (?_))))))))
    refine WC.ret (WX.then_ret (?_))
    refine WX.ret1 (.inl rfl) Try.results20 rfl ?_
    first
      | (refine ⟨_, rfl, congrArg Value.bool (decide_eq_false (fun h => ?_)).symm, hw⟩
         have h1 : (xss us)[i]? = (xss vs)[i]? := by rw [h]
         rw [xss_at hx, xss_at hy] at h1
         injection h1 with h1
         exact hxy h1)
      | (refine ⟨_, rfl, congrArg Value.bool (decide_eq_false (fun h => ?_)).symm, hw⟩
         have h1 := congrArg List.length h
         rw [xss_len, xss_len] at h1
         omega)
      | (refine ⟨_, rfl, congrArg Value.bool (decide_eq_true ?_).symm, hw⟩
         apply List.ext_getElem?
         intro j
         rcases Nat.lt_or_ge j us.length with hj | hj
         ·
           obtain ⟨x, hx⟩ : ∃ x, us[j]? = some x := ⟨_, List.getElem?_eq_getElem hj⟩
           obtain ⟨y, hy⟩ : ∃ y, vs[j]? = some y := ⟨_, List.getElem?_eq_getElem (by omega)⟩
           rw [xss_at hx, xss_at hy, hall j x y (by omega) hx hy]
         ·
           rw [List.getElem?_eq_none (by rw [xss_len]; omega), List.getElem?_eq_none (by rw [xss_len]; omega)])
  ·
    refine WL.nil (WX.then_normal (WC.cond_false rfl (WC.skip (WX.then_normal (WC.seq (WC.seq (WC.region (?_))))))))
    refine WL.move rfl rfl (WL.len Try.underlying22 rfl rfl (WL.move rfl rfl (WL.nil (WX.then_normal (WC.block (?_))))))
    refine WC.loop (σ := Nat) (fun i => [(1, .slice ab vs.length cb), (2, .func (.func 21) #[] #[]), (15, .slice aa us.length ca), (16, vi us.length), (17, vi i)])
      (fun i w' => i ≤ us.length ∧ (∀ (j : Nat) (x y : Rw), j < i → us[j]? = some x → vs[j]? = some y → x.xs = y.xs) ∧ RS (· < w.heap.size) w' aa ca us ∧ RS (· < w.heap.size) w' ab cb vs ∧ Chg Nob w w') (fun i => us.length - i) 0 ⟨rfl, rfl, rfl, rfl, rfl, trivial⟩ ⟨Nat.zero_le _, fun j x y h => absurd h (by omega), ha, hb, hw⟩ ?_
    clear ha hb hw
    rintro i w2 ⟨hi, hall, ha, hb, hw⟩
    refine WC.seq (WC.region (?_))
    refine WL.lss? rfl rfl rfl (fun h18 => ?_) (fun h18 => ?_)
    ·
      refine WL.nil (WX.then_normal (WC.seq (WC.cond_true rfl (WC.skip (WX.then_normal (WC.seq (WC.block (?_))))))))
      refine WC.seq (WC.region (WL.move rfl rfl (?_)))
      obtain ⟨x, hx⟩ : ∃ x, us[i]? = some x := ⟨_, List.getElem?_eq_getElem (by omega)⟩
      obtain ⟨y, hy⟩ : ∃ y, vs[i]? = some y := ⟨_, List.getElem?_eq_getElem (by omega)⟩
      refine WL.indexT Try.underlying22 Try.sizeOf28 ha.outer rfl rfl ⟨hx, rfl⟩ rfl ?_
      intro b_1 o_1 hc_1
      refine WL.load Try.isAgg28 rfl (hc_1 0 _ rfl) rfl (WL.assign rfl rfl (WL.assign rfl rfl (WL.nil (WX.then_normal (WC.seq (WC.region (WL.move rfl rfl (?_))))))))
      refine WL.move rfl rfl (?_)
      refine WL.indexT Try.underlying22 Try.sizeOf28 hb.outer rfl rfl ⟨hy, rfl⟩ rfl ?_
      intro b_2 o_2 hc_2
      refine WL.load Try.isAgg28 rfl (hc_2 0 _ rfl) rfl (WL.assign rfl rfl (WL.nil (WX.then_normal (WC.seq (WC.region (WL.move rfl rfl (WL.move rfl rfl (?_))))))))
      refine WL.move rfl rfl (?_)
      have hxr := ha.at hx
      have hyr := hb.at hy
      refine WL.callv eg_21 rfl rfl rfl (beq_calls hxr hyr) ?_
      rintro v w3 ⟨rfl, k⟩
      have zs_k := k.size
      replace ha := ha.pure k
      replace hb := hb.pure k
      replace hw := hw.pure k
      by_cases hxy : x.xs = y.xs
      ·
        rw [show decide (x.xs = y.xs) = true from decide_eq_true hxy]
        refine WL.not rfl rfl (WL.nil (WX.then_normal (WC.cond_false rfl (WC.skip (WX.block_normal (WX.then_normal (WC.region (?_))))))))
        refine WL.add64 rfl rfl (by first | omega | (constructor <;> omega)) rfl (WL.move rfl rfl (WL.nil (?_)))
        refine WX.loop_next (i + 1) ⟨rfl, rfl, rfl, rfl, rfl, trivial⟩ ⟨by omega, fun j x' y' h h1 h2 => ?_, ha, hb, hw⟩ (by show _ - _ < _ - _; omega)
        rcases Nat.lt_or_ge j i with h3 | h3
        ·
          exact hall j x' y' h3 h1 h2
        ·
          have hji : j = i := by omega
          subst hji
          rw [hx] at h1
          rw [hy] at h2
          injection h1 with h1
          injection h2 with h2
          rw [← h1, ← h2]
          exact hxy
      ·
        rw [show decide (x.xs = y.xs) = false from decide_eq_false hxy]
        refine WL.not rfl rfl (WL.nil (WX.then_normal (WC.cond_true rfl (WC.seq (WC.region (WL.assign rfl rfl (WL.nil (?_))))))))
        refine WX.then_normal (WC.ret (WX.block_ret (WX.then_ret (WX.then_ret (WX.block_ret (WX.then_ret (?_)))))))
        refine WX.ret1 (.inl rfl) Try.results20 rfl ?_
        first
          | (refine ⟨_, rfl, congrArg Value.bool (decide_eq_false (fun h => ?_)).symm, hw⟩
             have h1 : (xss us)[i]? = (xss vs)[i]? := by rw [h]
             rw [xss_at hx, xss_at hy] at h1
             injection h1 with h1
             exact hxy h1)
          | (refine ⟨_, rfl, congrArg Value.bool (decide_eq_false (fun h => ?_)).symm, hw⟩
             have h1 := congrArg List.length h
             rw [xss_len, xss_len] at h1
             omega)
          | (refine ⟨_, rfl, congrArg Value.bool (decide_eq_true ?_).symm, hw⟩
             apply List.ext_getElem?
             intro j
             rcases Nat.lt_or_ge j us.length with hj | hj
             ·
               obtain ⟨x, hx⟩ : ∃ x, us[j]? = some x := ⟨_, List.getElem?_eq_getElem hj⟩
               obtain ⟨y, hy⟩ : ∃ y, vs[j]? = some y := ⟨_, List.getElem?_eq_getElem (by omega)⟩
               rw [xss_at hx, xss_at hy, hall j x y (by omega) hx hy]
             ·
               rw [List.getElem?_eq_none (by rw [xss_len]; omega), List.getElem?_eq_none (by rw [xss_len]; omega)])
    ·
      refine WL.nil (WX.then_normal (WC.seq (WC.cond_false rfl (WC.exit (WX.then_exit (WX.then_exit (WX.block_here (?_))))))))
      refine WX.then_normal (WC.seq (WC.region (WL.assign rfl rfl (WL.nil (WX.then_normal (WC.ret (?_)))))))
      refine WX.ret1 (.inl rfl) Try.results20 rfl ?_
      first
        | (refine ⟨_, rfl, congrArg Value.bool (decide_eq_false (fun h => ?_)).symm, hw⟩
           have h1 : (xss us)[i]? = (xss vs)[i]? := by rw [h]
           rw [xss_at hx, xss_at hy] at h1
           injection h1 with h1
           exact hxy h1)
        | (refine ⟨_, rfl, congrArg Value.bool (decide_eq_false (fun h => ?_)).symm, hw⟩
           have h1 := congrArg List.length h
           rw [xss_len, xss_len] at h1
           omega)
        | (refine ⟨_, rfl, congrArg Value.bool (decide_eq_true ?_).symm, hw⟩
           apply List.ext_getElem?
           intro j
           rcases Nat.lt_or_ge j us.length with hj | hj
           ·
             obtain ⟨x, hx⟩ : ∃ x, us[j]? = some x := ⟨_, List.getElem?_eq_getElem hj⟩
             obtain ⟨y, hy⟩ : ∃ y, vs[j]? = some y := ⟨_, List.getElem?_eq_getElem (by omega)⟩
             rw [xss_at hx, xss_at hy, hall j x y (by omega) hx hy]
           ·
             rw [List.getElem?_eq_none (by rw [xss_len]; omega), List.getElem?_eq_none (by rw [xss_len]; omega)])
/-! what can be checked -/
def rightR (rs : List Rw) : Prop := 4 ≤ rs.length ∧ rs.length ≤ 16 ∧ 0 ≤ lenC (xss rs)
theorem right_good {S : Nat → Prop} {w : World} {ao : Option Addr} {c : Nat} {rs : List Rw} (hc : RS S w ao c rs) (h : rightR rs) :
    Calls Try.prog 19 [.slice ao rs.length c, .slice none 0 0].toArray w (Ret fun v w' => v = .tuple #[vi (lenC (xss rs)), vi 0] ∧ Chg Nob w w') := by
  replace hc := hc.old
  have hw := Chg.refl Nob w
  obtain ⟨h1, h2, h3⟩ := h
  refine Calls.of_WC Try.func19 rfl Try.ntmps19 (by simp) ?_
  refine WC.seq (WC.region (WL.assign rfl rfl (WL.assign rfl rfl (WL.nil (WX.then_normal (WC.seq (WC.seq (?_))))))))
  refine WC.region (WL.move rfl rfl (WL.len Try.underlying22 rfl rfl (?_)))
  refine WL.lss rfl rfl rfl ?_
  rw [show decide ((rs.length : Int) < 4) = false from decide_eq_false (by omega)]
  refine WL.move rfl rfl (WL.want rfl rfl rfl (WL.move rfl rfl (WL.want rfl rfl rfl (WL.len Try.underlying22 rfl rfl (WL.want rfl rfl rfl (?_))))))
  refine WL.gtr rfl rfl rfl ?_
  rw [show decide ((rs.length : Int) > 16) = false from decide_eq_false (by omega)]
  refine WL.pickF rfl rfl rfl (WL.nil (WX.then_normal (WC.cond_false rfl (WC.skip (WX.then_normal (WC.seq (WC.seq (?_))))))))
  refine WC.region (WL.move rfl rfl (WL.len Try.underlying59 rfl rfl (WL.move rfl rfl (WL.nil (WX.then_normal (WC.block (?_)))))))
  refine WC.loop (σ := Unit) (fun _ => [(0, .slice ao rs.length c), (1, .slice none 0 0), (17, .slice none 0 0), (18, vi 0), (19, vi 0)]) (fun _ w' => RS (· < w.heap.size) w' ao c rs ∧ Chg Nob w w') (fun _ => 0) () ⟨rfl, rfl, rfl, rfl, rfl, trivial⟩ ⟨hc, hw⟩ ?_
  clear hc hw
  rintro _ w2 ⟨hc, hw⟩
  refine WC.seq (WC.region (?_))
  refine WL.lss rfl rfl rfl ?_
  rw [show decide ((0 : Int) < 0) = false from rfl]
  refine WL.nil (WX.then_normal (WC.seq (WC.cond_false rfl (WC.exit (WX.then_exit (WX.then_exit (WX.block_here (?_))))))))
  refine WX.then_normal (WC.seq (WC.region (WL.move rfl rfl (WL.move rfl rfl (?_)))))
  refine WL.call eg_14 rfl rfl (length_calls hc (by omega)) ?_
  rintro v w1 ⟨rfl, k⟩
  have zs_k := k.size
  replace hc := hc.pure k
  replace hw := hw.pure k
  refine WL.assign rfl rfl (WL.nil (WX.then_normal (WC.seq (WC.block (WC.seq (WC.region (WL.move rfl rfl (?_))))))))
  refine WL.lss rfl rfl rfl ?_
  rw [show decide (lenC (xss rs) < 0) = false from decide_eq_false (by omega)]
  refine WL.assign rfl rfl (WL.nil (WX.then_normal (WC.cond_false rfl (WC.seq (WC.region (WL.move rfl rfl (WL.len Try.underlying59 rfl rfl (?_))))))))
  refine WL.gtr rfl rfl rfl ?_
  rw [show decide (((0 : Nat) : Int) > 3) = false from rfl]
  refine WL.assign rfl rfl (WL.nil (WX.then_normal (WC.cond_false rfl (WC.skip (WX.block_normal (WX.then_normal (WC.seq (?_))))))))
  refine WC.region (WL.move rfl rfl (WL.assign rfl rfl (WL.assign rfl rfl (WL.nil (WX.then_normal (WC.ret (?_)))))))
  refine WX.ret2 (.inl rfl) Try.results19 rfl rfl ?_
  exact ⟨_, rfl, rfl, hw⟩
theorem right_bad {S : Nat → Prop} {w : World} {ao : Option Addr} {c : Nat} {rs : List Rw} (hc : RS S w ao c rs) (hl : rs.length * 24 ≤ 140737488351232) (h : ¬ rightR rs) :
    Calls Try.prog 19 [.slice ao rs.length c, .slice none 0 0].toArray w (Ret fun v w' => v = .tuple #[vi 0, vi 1] ∧ Chg Nob w w') := by
  replace hc := hc.old
  have hw := Chg.refl Nob w
  refine Calls.of_WC Try.func19 rfl Try.ntmps19 (by simp) ?_
  refine WC.seq (WC.region (WL.assign rfl rfl (WL.assign rfl rfl (WL.nil (WX.then_normal (WC.seq (WC.seq (?_))))))))
  refine WC.region (WL.move rfl rfl (WL.len Try.underlying22 rfl rfl (?_)))
  refine WL.lss? rfl rfl rfl (fun h11 => ?_) (fun h11 => ?_)
  ·
    refine WL.move rfl rfl (WL.pass rfl rfl rfl rfl (WL.pass rfl rfl rfl rfl (WL.pass rfl rfl rfl rfl (WL.pickT rfl rfl rfl (WL.nil (WX.then_normal (WC.cond_true rfl (?_))))))))
    refine WC.seq (WC.region (WL.assign rfl rfl (WL.assign rfl rfl (WL.nil (WX.then_normal (WC.ret (WX.then_ret (?_))))))))
    refine WX.ret2 (.inl rfl) Try.results19 rfl rfl ?_
    exact ⟨_, rfl, rfl, hw⟩
  ·
    refine WL.move rfl rfl (WL.want rfl rfl rfl (WL.move rfl rfl (WL.want rfl rfl rfl (WL.len Try.underlying22 rfl rfl (WL.want rfl rfl rfl (?_))))))
    refine WL.gtr? rfl rfl rfl (fun h15 => ?_) (fun h15 => ?_)
    ·
      refine WL.pickF rfl rfl rfl (WL.nil (WX.then_normal (WC.cond_true rfl (WC.seq (WC.region (WL.assign rfl rfl (WL.assign rfl rfl (?_))))))))
      refine WL.nil (WX.then_normal (WC.ret (WX.then_ret (?_))))
      refine WX.ret2 (.inl rfl) Try.results19 rfl rfl ?_
      exact ⟨_, rfl, rfl, hw⟩
    ·
      refine WL.pickF rfl rfl rfl (WL.nil (WX.then_normal (WC.cond_false rfl (WC.skip (WX.then_normal (WC.seq (WC.seq (?_))))))))
      refine WC.region (WL.move rfl rfl (WL.len Try.underlying59 rfl rfl (WL.move rfl rfl (WL.nil (WX.then_normal (WC.block (?_)))))))
      refine WC.loop (σ := Unit) (fun _ => [(0, .slice ao rs.length c), (1, .slice none 0 0), (17, .slice none 0 0), (18, vi 0), (19, vi 0)]) (fun _ w' => RS (· < w.heap.size) w' ao c rs ∧ Chg Nob w w') (fun _ => 0) () ⟨rfl, rfl, rfl, rfl, rfl, trivial⟩ ⟨hc, hw⟩ ?_
      clear hc hw
      rintro _ w2 ⟨hc, hw⟩
      refine WC.seq (WC.region (?_))
      refine WL.lss rfl rfl rfl ?_
      rw [show decide ((0 : Int) < 0) = false from rfl]
      refine WL.nil (WX.then_normal (WC.seq (WC.cond_false rfl (WC.exit (WX.then_exit (WX.then_exit (WX.block_here (?_))))))))
      refine WX.then_normal (WC.seq (WC.region (WL.move rfl rfl (WL.move rfl rfl (?_)))))
      refine WL.call eg_14 rfl rfl (length_calls hc hl) ?_
      rintro v w1 ⟨rfl, k⟩
      have zs_k := k.size
      replace hc := hc.pure k
      replace hw := hw.pure k
      refine WL.assign rfl rfl (WL.nil (WX.then_normal (WC.seq (WC.block (WC.seq (WC.region (WL.move rfl rfl (?_))))))))
      refine WL.lss? rfl rfl rfl (fun h51 => ?_) (fun h51 => ?_)
      ·
        refine WL.assign rfl rfl (WL.nil (WX.then_normal (WC.cond_true rfl (WC.seq (WC.region (WL.assign rfl rfl (WL.assign rfl rfl (?_))))))))
        refine WL.nil (WX.then_normal (WC.ret (WX.block_ret (WX.then_ret (?_)))))
        refine WX.ret2 (.inl rfl) Try.results19 rfl rfl ?_
        exact ⟨_, rfl, rfl, hw⟩
      ·
        refine WL.assign rfl rfl (WL.nil (WX.then_normal (WC.cond_false rfl (WC.seq (WC.region (WL.move rfl rfl (WL.len Try.underlying59 rfl rfl (?_))))))))
        exfalso
        exact h ⟨by omega, by omega, by omega⟩
theorem refRight_good {S : Nat → Prop} {w : World} {ao : Option Addr} {c : Nat} {rs : List Rw} (hc : RS S w ao c rs) (h : rightR rs) :
    Calls Try.prog 18 [.slice ao rs.length c, .slice none 0 0].toArray w (Ret fun v w' => v = vi 0 ∧ Chg Nob w w') := by
  replace hc := hc.old
  have hw := Chg.refl Nob w
  obtain ⟨h1, h2, h3⟩ := h
  refine Calls.of_WC Try.func18 rfl Try.ntmps18 (by simp) ?_
  refine WC.seq (WC.region (WL.assign rfl rfl (WL.nil (WX.then_normal (WC.seq (WC.seq (WC.region (?_))))))))
  refine WL.move rfl rfl (WL.len Try.underlying22 rfl rfl (?_))
  refine WL.lss rfl rfl rfl ?_
  rw [show decide ((rs.length : Int) < 4) = false from decide_eq_false (by omega)]
  refine WL.move rfl rfl (WL.want rfl rfl rfl (WL.move rfl rfl (WL.want rfl rfl rfl (WL.len Try.underlying22 rfl rfl (WL.want rfl rfl rfl (?_))))))
  refine WL.gtr rfl rfl rfl ?_
  rw [show decide ((rs.length : Int) > 16) = false from decide_eq_false (by omega)]
  refine WL.pickF rfl rfl rfl (WL.nil (WX.then_normal (WC.cond_false rfl (WC.skip (WX.then_normal (WC.seq (WC.seq (?_))))))))
  refine WC.region (WL.assign rfl rfl (WL.nil (WX.then_normal (WC.block (?_)))))
  refine WC.loop (σ := Unit) (fun _ => [(0, .slice ao rs.length c), (1, .slice none 0 0), (5, vi 0)]) (fun _ w' => RS (· < w.heap.size) w' ao c rs ∧ Chg Nob w w') (fun _ => 0) () ⟨rfl, rfl, rfl, trivial⟩ ⟨hc, hw⟩ ?_
  clear hc hw
  rintro _ w2 ⟨hc, hw⟩
  refine WC.seq (WC.seq (WC.region (WL.move rfl rfl (WL.move rfl rfl (WL.len Try.underlying59 rfl rfl (?_))))))
  refine WL.lss rfl rfl rfl ?_
  rw [show decide ((0 : Int) < ((0 : Nat) : Int)) = false from rfl]
  refine WL.nil (WX.then_normal (WC.cond_false rfl (WC.exit (WX.then_exit (WX.then_exit (WX.block_here (WX.then_normal (?_))))))))
  refine WC.seq (WC.seq (WC.region (WL.move rfl rfl (WL.move rfl rfl (?_)))))
  refine WL.call eg_16 rfl rfl (even_calls hc (by omega)) ?_
  rintro v w1 ⟨rfl, k⟩
  have zs_k := k.size
  replace hc := hc.pure k
  replace hw := hw.pure k
  refine WL.lss rfl rfl rfl ?_
  rw [show decide (lenC (xss rs) < 0) = false from decide_eq_false (by omega)]
  refine WL.nil (WX.then_normal (WC.cond_false rfl (WC.skip (WX.then_normal (WC.seq (WC.seq (WC.region (?_))))))))
  refine WL.move rfl rfl (WL.len Try.underlying59 rfl rfl (?_))
  refine WL.gtr rfl rfl rfl ?_
  rw [show decide (((0 : Nat) : Int) > 3) = false from rfl]
  refine WL.nil (WX.then_normal (WC.cond_false rfl (WC.skip (WX.then_normal (WC.seq (WC.region (WL.assign rfl rfl (?_))))))))
  refine WL.nil (WX.then_normal (WC.ret (?_)))
  refine WX.ret1 (.inl rfl) Try.results18 rfl ?_
  exact ⟨_, rfl, rfl, hw⟩
theorem refRight_bad {S : Nat → Prop} {w : World} {ao : Option Addr} {c : Nat} {rs : List Rw} (hc : RS S w ao c rs) (hl : rs.length * 24 ≤ 140737488351232) (h : ¬ rightR rs) :
    Calls Try.prog 18 [.slice ao rs.length c, .slice none 0 0].toArray w (Ret fun v w' => v = vi 1 ∧ Chg Nob w w') := by
  replace hc := hc.old
  have hw := Chg.refl Nob w
  refine Calls.of_WC Try.func18 rfl Try.ntmps18 (by simp) ?_
  refine WC.seq (WC.region (WL.assign rfl rfl (WL.nil (WX.then_normal (WC.seq (WC.seq (WC.region (?_))))))))
  refine WL.move rfl rfl (WL.len Try.underlying22 rfl rfl (?_))
  refine WL.lss? rfl rfl rfl (fun h8 => ?_) (fun h8 => ?_)
  ·
    refine WL.move rfl rfl (WL.pass rfl rfl rfl rfl (WL.pass rfl rfl rfl rfl (WL.pass rfl rfl rfl rfl (WL.pickT rfl rfl rfl (WL.nil (WX.then_normal (WC.cond_true rfl (?_))))))))
    refine WC.seq (WC.region (WL.assign rfl rfl (WL.nil (WX.then_normal (WC.ret (WX.then_ret (?_)))))))
    refine WX.ret1 (.inl rfl) Try.results18 rfl ?_
    exact ⟨_, rfl, rfl, hw⟩
  ·
    refine WL.move rfl rfl (WL.want rfl rfl rfl (WL.move rfl rfl (WL.want rfl rfl rfl (WL.len Try.underlying22 rfl rfl (WL.want rfl rfl rfl (?_))))))
    refine WL.gtr? rfl rfl rfl (fun h12 => ?_) (fun h12 => ?_)
    ·
      refine WL.pickF rfl rfl rfl (WL.nil (WX.then_normal (WC.cond_true rfl (WC.seq (WC.region (WL.assign rfl rfl (WL.nil (?_))))))))
      refine WX.then_normal (WC.ret (WX.then_ret (?_)))
      refine WX.ret1 (.inl rfl) Try.results18 rfl ?_
      exact ⟨_, rfl, rfl, hw⟩
    ·
      refine WL.pickF rfl rfl rfl (WL.nil (WX.then_normal (WC.cond_false rfl (WC.skip (WX.then_normal (WC.seq (WC.seq (?_))))))))
      refine WC.region (WL.assign rfl rfl (WL.nil (WX.then_normal (WC.block (?_)))))
      refine WC.loop (σ := Unit) (fun _ => [(0, .slice ao rs.length c), (1, .slice none 0 0), (5, vi 0)]) (fun _ w' => RS (· < w.heap.size) w' ao c rs ∧ Chg Nob w w') (fun _ => 0) () ⟨rfl, rfl, rfl, trivial⟩ ⟨hc, hw⟩ ?_
      clear hc hw
      rintro _ w2 ⟨hc, hw⟩
      refine WC.seq (WC.seq (WC.region (WL.move rfl rfl (WL.move rfl rfl (WL.len Try.underlying59 rfl rfl (?_))))))
      refine WL.lss rfl rfl rfl ?_
      rw [show decide ((0 : Int) < ((0 : Nat) : Int)) = false from rfl]
      refine WL.nil (WX.then_normal (WC.cond_false rfl (WC.exit (WX.then_exit (WX.then_exit (WX.block_here (WX.then_normal (?_))))))))
      refine WC.seq (WC.seq (WC.region (WL.move rfl rfl (WL.move rfl rfl (?_)))))
      refine WL.call eg_16 rfl rfl (even_calls hc hl) ?_
      rintro v w1 ⟨rfl, k⟩
      have zs_k := k.size
      replace hc := hc.pure k
      replace hw := hw.pure k
      refine WL.lss? rfl rfl rfl (fun h53 => ?_) (fun h53 => ?_)
      ·
        refine WL.nil (WX.then_normal (WC.cond_true rfl (WC.seq (WC.region (WL.assign rfl rfl (WL.nil (WX.then_normal (?_))))))))
        refine WC.ret (WX.then_ret (?_))
        refine WX.ret1 (.inl rfl) Try.results18 rfl ?_
        exact ⟨_, rfl, rfl, hw⟩
      ·
        refine WL.nil (WX.then_normal (WC.cond_false rfl (WC.skip (WX.then_normal (WC.seq (WC.seq (WC.region (?_))))))))
        refine WL.move rfl rfl (WL.len Try.underlying59 rfl rfl (?_))
        exfalso
        exact h ⟨by omega, by omega, by omega⟩
end Go.Proofs.Ytbbpgbdiifmkhaa
