import Derived.Test.YtggecdldnpildaaGreatQArrayApart7
namespace Go.HL
open Go.RowKit
/-! append(row, make(..)...): noughts behind a row of the call's own -/
theorem run_append_zeros_hl {P : Program} (w : World) (t tx ty e : TypeId) (i : TypeInfo) (z : Value) (sz bytes : Nat) (kq kn : IntKind) (ht : P.underlying t = some (.slice e)) (htx : P.underlying tx = some (.int kn)) (hi : P.info? e = some i) (hz : i.zero = some z)
    (hsize : i.size = sz) (hby : i.bytes = bytes) (hzs : z.cells.size = sz) (hpos : 0 < sz) (hone : ∀ u ∈ z.cells.toList, u.oneCell' = true)
    (g n c : Nat) (cs : List Value) (hown : Own w e sz (some ⟨g, 0, none⟩) n c cs) (m : Nat) (hm : 0 < m) (h63 : n + m ≤ maxLen) (hbytes : (n + m) * bytes ≤ 140737488355328) :
    ∃ ao' c' w', (Builtin.append_ #[t, tx] ty #[.slice (some ⟨g, 0, none⟩) n c, .int kq m]).run P w = .ok (.slice ao' (n + m) c') w' ∧ Own w' e sz ao' (n + m) c' (cs ++ (Builtin.zeroCells z.cells m).toList) ∧
      Chg (fun b => Eqb (some ⟨g, 0, none⟩) b ∧ ao' = some ⟨g, 0, none⟩) w w' ∧ (ao' = some ⟨g, 0, none⟩ ∨ At (w.heap.size ≤ ·) ao') := by
  subst hsize
  subst hby
  obtain ⟨news, hnews⟩ : ∃ news, news = (Builtin.zeroCells z.cells m).toList := ⟨_, rfl⟩
  have hnl : news.length = m * i.size := by rw [hnews, Array.length_toList, size_zeroCells, hzs]
  have hn1 : ∀ u ∈ news, u.oneCell' = true := fun u hu => hone u ((zeroCells_list z.cells m).2 u (hnews ▸ hu))
  have hsmall : n + m ≤ 9223372036854775807 := by simp only [maxLen] at h63; omega
  have hlen : (cs ++ news).length = (n + m) * i.size := by rw [List.length_append, hown.1, hnl, Nat.add_mul]
  have hk : m ≠ 0 := by omega
  have hw : IntKind.i64.wrap (m : Int) = m := by rw [IntKind.wrap_i64]; omega
  have hneg : ¬ ((m : Int) < 0) := by omega
  have hns : ¬ (m * i.size = 0) := Nat.mul_ne_zero hk (by omega)
  have hmb : m * i.bytes ≤ 140737488355328 := Nat.le_trans (Nat.mul_le_mul_right _ (by omega)) hbytes
  have h48i : ¬ (281474976710656 < (m : Int) * (i.bytes : Int)) := by
    rw [← Int.natCast_mul]
    omega
  rw [← hnews]
  rcases hown.2.2 with ⟨h0, _⟩ | ⟨g', cur, fr, hg', hg, hfr, hcm, hcs, htake⟩
  · cases h0
  · injection hg' with hg'
    injection hg' with hg' _ _
    subst hg'
    by_cases hroom : n + m ≤ c
    · have hfit : n * i.size + news.length ≤ cur.size := by rw [hnl, hcs, ← Nat.add_mul]; exact Nat.mul_le_mul_right _ hroom
      have hst := run_storeCells_cells (P := P) g (0 + n * i.size) news 0 w
        (fun j hj => by rw [Nat.zero_add, Nat.add_zero, cell_of_row w g _ cur e fr hg]; rw [Array.getElem?_eq_getElem (by omega)]; rfl)
        (fun j hj => by
          have := hfr (0 + n * i.size + j) (by omega)
          simp only [World.frozen?, hg]
          simpa using this) hn1
      simp only [Nat.add_zero] at hst
      have hr : (Builtin.append_ #[t, tx] ty #[.slice (some ⟨g, 0, none⟩) n c, .int kq m]).run P w = .ok (.slice (some ⟨g, 0, none⟩) (n + m) c) (w.setCells g (0 + n * i.size) news) := by
        simp [Builtin.append_, run_underlying ht, run_underlying htx, sizeOf, typeInfo, zeroValue, hi, hz, asInt, asIntOf, hw, hk, hneg, hns, h48i, hroom, Addr.add_lit, ← hnews]
        simp at hst
        simp [hst]
      rw [Nat.zero_add] at hr
      have hs2 := setCells_same g e fr news (n * i.size) w cur hg hfit
      refine ⟨_, _, _, hr, ⟨hlen, hroom, .inr ⟨g, _, fr, rfl, hs2, ?_, hcm, ?_, ?_⟩⟩, (setCells_chg g news _ w).mono (fun b _ hb => ⟨⟨_, rfl, hb⟩, rfl⟩), Or.inl rfl⟩
      · intro j hj
        refine hfr j ?_
        simp only [List.size_toArray, List.length_append, List.length_take, List.length_drop, Array.length_toList] at hj
        omega
      · simp only [List.size_toArray, List.length_append, List.length_take, List.length_drop, Array.length_toList]
        omega
      · rw [htake, ← hlen]
        exact List.take_left
    · have holds : ∀ j u, cs[j]? = some u → w.drew.cell? ((⟨g, 0, none⟩ : Addr).add j) = some u := fun j u hu => by
        obtain ⟨b, off, e1, hc⟩ := hown.sl.2 j u hu
        injection e1 with e1
        injection e1 with e2 e3
        subst e2; subst e3
        rw [Addr.add_lit]; exact hc
      have hold := run_firstCells_some w.drew i.size n (⟨g, 0, none⟩ : Addr) n c cs hown.1 holds (P := P)
      have h63' : ¬ (9223372036854775807 < ((n : Int) + (m : Int))) := by omega
      have h48' : ¬ (281474976710656 < Builtin.nextslicecap (n + m) c * i.bytes) := by
        have := growslice_fits (old := c) (need := n + m) (bytes := i.bytes) (by omega) hbytes
        omega
      have hr : (Builtin.append_ #[t, tx] ty #[.slice (some ⟨g, 0, none⟩) n c, .int kq m]).run P w = .ok (.slice (some ⟨w.heap.size, 0, none⟩) (n + m) (grownCap w (n + m) c e)) (w.drew.alloc (.cells (cs.toArray ++ Builtin.zeroCells z.cells m ++ Builtin.zeroCells z.cells (grownCap w (n + m) c e - (n + m))) e)) := by
        simp [Builtin.append_, run_underlying ht, run_underlying htx, sizeOf, typeInfo, zeroValue, hi, hz, asInt, asIntOf, hw, hk, hroom, hneg, hns, h63', h48', h48i, Question.forced, hold, newRow, grownCap]
      have e1 : cs.toArray ++ Builtin.zeroCells z.cells m = (cs ++ news).toArray := by rw [hnews]; simp
      rw [e1] at hr
      have hge := grownCap_ge w (n + m) c e
      have hcm : grownCap w (n + m) c e ≤ maxLen := grownCap_le_maxLen w (n + m) c e h63
      refine ⟨_, _, _, hr, ⟨hlen, hge, .inr ⟨w.heap.size, _, (0, 0), rfl, heap_alloc_new w.drew _, fun j _ h => by omega, hcm, ?_, ?_⟩⟩, ⟨rfl, rfl, rfl, by simp, fun k hk _ => Below.heap_alloc w.drew _ k hk⟩, Or.inr (fun a ea => by injection ea with ea; subst ea; exact Nat.le_refl _)⟩
      · simp only [Array.size_append, List.size_toArray, size_zeroCells, hzs, hlen, ← Nat.add_mul]
        congr 1
        omega
      · simp only [Array.toList_append]
        rw [← hlen]
        exact List.take_left
section
variable {P : Program} {ops : Array Oper} {Q : Exit → Act → World → Prop} {N : Nat} {E : Env} {w : World} {rest : List Oper} {ty : TypeId} {pos : String} {af : Array Edge} {d : Nat} {S : Nat → Prop} {t T tx : TypeId}
theorem zeros8 (m : Nat) : (Builtin.zeroCells (v8 0).cells m).toList = eb.all (List.replicate m (0 : UInt8)) := by
  have h1 : (Builtin.zeroCells (v8 0).cells m).toList = List.replicate m (v8 0) := by
    refine List.eq_replicate_iff.2 ⟨?_, fun u hu => ?_⟩
    · rw [(zeroCells_list _ m).1]; simp [Value.cells]
    · have := (zeroCells_list (v8 0).cells m).2 u hu
      simpa [Value.cells] using this
  rw [h1]
  induction m with
  | zero => rfl
  | succ m ih =>
    rw [List.replicate_succ, List.replicate_succ]
    show v8 0 :: List.replicate m (v8 0) = [v8 0] ++ eb.all (List.replicate m 0)
    rw [← ih (by
      refine List.eq_replicate_iff.2 ⟨?_, fun u hu => ?_⟩
      · rw [(zeroCells_list _ m).1]; simp [Value.cells]
      · have := (zeroCells_list (v8 0).cells m).2 u hu
        simpa [Value.cells] using this)]
    rfl
theorem WL.appendZs {s x : Operand} {bytes m g c : Nat} {k kn : IntKind} {xs : List UInt8} (hinfo : (P.info? T).map (fun i => (i.zero, i.size, i.bytes)) = some (some (v8 0), 1, bytes))
    (ht : P.underlying t = some (.slice T)) (htx : P.underlying tx = some (.int kn)) (hs : ev E s = some (.slice (some ⟨g, 0, none⟩) xs.length c)) (hx : ev E x = some (.int k (m : Int))) (ho : Row S w T eb (some ⟨g, 0, none⟩) c xs)
    (hm : 0 < m ∧ xs.length + m ≤ 9223372036854775807 ∧ (xs.length + m) * bytes ≤ 140737488355328) (hS : ∀ b, w.heap.size ≤ b → S b) (hd : Nat.blt d N = true)
    (h : ∀ ao2 c2 w', Row S w' T eb ao2 c2 (xs ++ List.replicate m 0) → Grow S w (some ⟨g, 0, none⟩) w' ao2 → WL P ops Q N rest ((d, .slice ao2 (xs ++ List.replicate m (0 : UInt8)).length c2) :: E) w') :
    WL P ops Q N (⟨some d, .call ⟨.builtin .append, #[s, x], #[t, tx]⟩, ty, pos, af, none⟩ :: rest) E w := by
  obtain ⟨i, hi, h1, h2, h3⟩ := info_parts hinfo
  obtain ⟨ao', c', w', hr, how, hc, hor⟩ := run_append_zeros_hl (P := P) w t tx ty T i (v8 0) 1 bytes k kn ht htx hi h1 h2 h3 (by simp [Value.cells]) (by decide) (by simp [Value.cells, Value.oneCell']) g xs.length c (eb.all xs) ho.own m hm.1 (by simpa [maxLen] using hm.2.1) hm.2.2
  refine WL.run _ w' (fun a ha => by simp [execOp, resolve, invoke, builtin, ev_eval ha hs, ev_eval ha hx, hr]; rfl) hd ?_
  have hl : (xs ++ List.replicate m (0 : UInt8)).length = xs.length + m := by simp
  rw [← hl]
  rw [zeros8, ← Enc.all_append, ← hl] at how
  refine h ao' c' w' ⟨?_, how⟩ ⟨hc.mono fun b _ hb => ⟨hb.1, ho.at_.eqb hb.1⟩, hor⟩
  rcases hor with rfl | h5
  · exact ho.at_
  · exact h5.mono hS
theorem WL.makeFun6 {f : FuncId} {x1 x2 x3 x4 x5 x6 : Operand} {v1 v2 v3 v4 v5 v6 : Value} (h1 : ev E x1 = some v1) (h2 : ev E x2 = some v2) (h3 : ev E x3 = some v3) (h4 : ev E x4 = some v4) (h5 : ev E x5 = some v5) (h6 : ev E x6 = some v6) (hd : Nat.blt d N = true) (h : WL P ops Q N rest ((d, .func (.func f) #[] #[v1, v2, v3, v4, v5, v6]) :: E) w) :
    WL P ops Q N (⟨some d, .makeFunc (.func f) #[] #[x1, x2, x3, x4, x5, x6], ty, pos, af, none⟩ :: rest) E w :=
  WL.run _ w (fun a ha => by simp [execOp, ev_eval ha h1, ev_eval ha h2, ev_eval ha h3, ev_eval ha h4, ev_eval ha h5, ev_eval ha h6, Instr.makeFunc]) hd h
theorem WL.sliceM {hi mx : Operand} {x : Operand} {ao : Option Addr} {n c h m sz : Nat} {j q : IntKind} (ht : P.underlying t = some (.slice T)) (hs : ∀ w, (sizeOf T).run P w = .ok sz w) (hx : ev E x = some (.slice ao n c))
    (hhi : ev E hi = some (.int j (h : Int))) (hmx : ev E mx = some (.int q (m : Int))) (hl : h ≤ m ∧ m ≤ c) (hd : Nat.blt d N = true)
    (k' : WL P ops Q N rest ((d, .slice (cutAt ao m 0 sz) h m) :: E) w) : WL P ops Q N (⟨some d, .slice t x none (some hi) (some mx), ty, pos, af, none⟩ :: rest) E w := by
  have hr : (Instr.sliceAt t (.slice ao n c) none (some (.int j (h : Int))) (some (.int q (m : Int)))).run P w = .ok (.slice (cutAt ao m 0 sz) h m) w := by
    have e2 : (h : Int) ≤ (m : Int) := by omega
    simp [Instr.sliceAt, Instr.slice, Instr.sliceBounds, Instr.sliceBound, asIntOf, run_underlying ht, hs, e2, hl.1, hl.2, cutAt]
  refine WL.run _ w (fun a ha => ?_) hd k'
  simp [execOp, ev_eval ha hx, ev_eval ha hhi, ev_eval ha hmx, hr]
theorem RSl.top {α : Type} {e : Enc α} {w : World} {S : Nat → Prop} {ao : Option Addr} {c h m : Nat} {xs : List α} (hr : RSl S w e ao c xs) (hh : h ≤ xs.length) (hm : h ≤ m ∧ 0 < m ∧ m ≤ c) : RSl S w e (cutAt ao m 0 e.sz) m (xs.take h) := by
  have h1 := (hr.take h hh).drop 0 (Nat.zero_le _)
  rw [List.drop_zero] at h1
  have e1 : cutAt ao c 0 e.sz = cutAt ao m 0 e.sz := by unfold cutAt; rw [if_neg (by omega), if_neg (by omega)]
  rw [e1] at h1
  exact ⟨h1.at_, by rw [List.length_take]; omega, h1.sl⟩
end
end Go.HL
namespace Go.Proofs.YtggecdldnpildaaGreat
open Go.RowKit Go.HL
set_option maxRecDepth 100000

/-! an array: its block; its cells, a block's rows, their cost -/
abbrev AB (w : World) (a R n f : Nat) : Prop := Blk w a 81 [ptr R, vi n, vi f]
theorem anew_calls {A : Nat → Prop} {w : World} {R : Nat} {s : RA} (h : RK A w R s) (f : Nat) (h5 : 5 ≤ s.dn) (hf : f < s.sn) :
    Calls Tryz.prog 14 [ptr R, vi f].toArray w (Ret fun v w' => (∃ a, v = .tuple #[ptr a, vi 0] ∧ AB w' a R s.dn f ∧ w.heap.size ≤ a) ∧ Chg Nob w w') := by
  have hw := Chg.refl Nob w
  refine Calls.of_WC Tryz.func14 rfl Tryz.ntmps14 (by simp) ?_
  refine WC.seq (WC.region (WL.assign rfl rfl (WL.assign rfl rfl (WL.nil (WX.then_normal (WC.seq (WC.seq (?_))))))))
  refine WC.region (WL.move rfl rfl (?_))
  refine WL.call eg_25 rfl rfl (Drives_calls h) ?_
  rintro v w1 ⟨rfl, k1⟩
  have zs_k1 := k1.size
  replace h := h.pure k1
  replace hw := hw.pure k1
  refine WL.lssF rfl rfl rfl (by omega) ?_
  refine WL.move rfl rfl (WL.want rfl rfl rfl (WL.move rfl rfl (WL.want rfl rfl rfl (?_))))
  refine WL.lssF rfl rfl rfl (by omega) ?_
  refine WL.pickF rfl rfl rfl (WL.move rfl rfl (WL.want rfl rfl rfl (WL.move rfl rfl (WL.want rfl rfl rfl (WL.move rfl rfl (WL.want rfl rfl rfl (?_)))))))
  refine WL.call eg_38 rfl rfl (Sectors_calls h) ?_
  rintro v w1 ⟨rfl, k1⟩
  have zs_k1 := k1.size
  replace h := h.pure k1
  replace hw := hw.pure k1
  refine WL.want rfl rfl rfl (?_)
  refine WL.geqF rfl rfl rfl (by omega) ?_
  refine WL.pickF rfl rfl rfl (WL.nil (WX.then_normal (WC.cond_false rfl (WC.skip (WX.then_normal (WC.seq (WC.region (?_))))))))
  refine WL.move rfl rfl (WL.move rfl rfl (?_))
  refine WL.call eg_25 rfl rfl (Drives_calls h) ?_
  rintro v w1 ⟨rfl, k1⟩
  have zs_k1 := k1.size
  replace h := h.pure k1
  replace hw := hw.pure k1
  refine WL.move rfl rfl (WL.bld rfl (bld_81_0_1_2 _ _ _) rfl (?_))
  refine WL.box rfl rfl ?_
  intro g_1 w_1 hge_1 hlt_1 hb_1 k_1
  have zs_k_1 := k_1.size
  replace h := h.pure k_1
  replace hw := hw.pure k_1
  refine WL.assign rfl rfl (WL.assign rfl rfl (WL.nil (WX.then_normal (WC.ret (?_)))))
  refine WX.ret2 (.inl rfl) Tryz.results14 rfl rfl ?_
  exact ⟨_, rfl, ⟨g_1, rfl, hb_1, by have := hw.size; omega⟩, hw⟩
theorem Cells_calls {A : Nat → Prop} {w : World} {a R f : Nat} {s : RA} (hB : AB w a R s.dn f) (h : RK A w R s) (hf : f < s.sn) :
    Calls Tryz.prog 16 [ptr a].toArray w (Ret fun v w' => v = vi ((s.dn * (s.sn - f) : Nat) : Int) ∧ Chg Nob w w') := by
  have hw := Chg.refl Nob w
  have hdn := h.ok.dn
  have hsn := h.ok.sn
  have hm : s.dn * (s.sn - f) ≤ 16 * 2000 := Nat.mul_le_mul (by omega) (by omega)
  have hc : (s.dn : Int) * ((s.sn : Int) - (f : Int)) = ((s.dn * (s.sn - f) : Nat) : Int) := by rw [Int.natCast_mul, Int.natCast_sub (by omega)]
  refine Calls.of_WC Tryz.func16 rfl Tryz.ntmps16 (by simp) ?_
  refine WC.seq (WC.region (WL.assign rfl rfl (WL.nil (WX.then_normal (WC.seq (WC.seq (WC.region (?_))))))))
  refine WL.move rfl rfl (?_)
  refine WL.ptrNil Tryz.underlying31 rfl rfl rfl ?_
  refine WL.nil (WX.then_normal (WC.cond_false rfl (WC.skip (WX.then_normal (WC.seq (?_))))))
  refine WC.draw (Nob) [0, 1, 2, 3, 4, 5, 6, 7, 9, 10, 11, 12] [8, 13, 14, 15] mixed rfl rfl (fun wd_1 kd_1 zd_1 => ?_)
  have zs_kd_1 := kd_1.size
  replace hB := hB.pure kd_1
  replace h := h.pure kd_1
  replace hw := hw.pure kd_1
  apply DQ.step (E' := [(0, _)])
  case ho => rfl
  case hs => exact ⟨rfl, trivial⟩
  case hk => rfl
  case h1 =>
    intro wq_3 kq_3
    refine WL.move rfl rfl (?_)
    refine WL.nil ?_
    exact WX.one ⟨rfl, by exact Chg.refl _ _⟩
  apply DQ.step (E' := [(5, _)])
  case ho => rfl
  case hs => exact ⟨rfl, trivial⟩
  case hk => rfl
  case h1 =>
    intro wq_4 kq_4
    refine WL.nilCheck rfl rfl (?_)
    refine WL.nil ?_
    exact WX.one ⟨rfl, by exact Chg.refl _ _⟩
  apply DQ.step (E' := [(6, _)])
  case ho => rfl
  case hs => exact ⟨rfl, trivial⟩
  case hk => rfl
  case h1 =>
    intro wq_5 kq_5
    refine WL.fieldAddr (fld_81_1) rfl rfl (?_)
    refine WL.nil ?_
    exact WX.one ⟨rfl, by exact Chg.refl _ _⟩
  apply DQ.step (E' := [(7, _)])
  case ho => rfl
  case hs => exact ⟨rfl, trivial⟩
  case hk => rfl
  case h1 =>
    intro wq_6 kq_6
    have zs_kq_6 := kq_6.size
    replace hB := hB.pure kq_6
    replace h := h.pure kq_6
    replace hw := hw.pure kq_6
    refine WL.loadB Tryz.isAgg3 hB rfl rfl rfl (?_)
    refine WL.nil ?_
    exact WX.one ⟨rfl, by exact Chg.refl _ _⟩
  apply DQ.step (E' := [(0, _)])
  case ho => rfl
  case hs => exact ⟨rfl, trivial⟩
  case hk => rfl
  case h1 =>
    intro wq_7 kq_7
    refine WL.move rfl rfl (?_)
    refine WL.nil ?_
    exact WX.one ⟨rfl, by exact Chg.refl _ _⟩
  apply DQ.step (E' := [(9, _)])
  case ho => rfl
  case hs => exact ⟨rfl, trivial⟩
  case hk => rfl
  case h1 =>
    intro wq_8 kq_8
    refine WL.nilCheck rfl rfl (?_)
    refine WL.nil ?_
    exact WX.one ⟨rfl, by exact Chg.refl _ _⟩
  apply DQ.step (E' := [(10, _)])
  case ho => rfl
  case hs => exact ⟨rfl, trivial⟩
  case hk => rfl
  case h1 =>
    intro wq_9 kq_9
    refine WL.fieldAddr (fld_81_0) rfl rfl (?_)
    refine WL.nil ?_
    exact WX.one ⟨rfl, by exact Chg.refl _ _⟩
  apply DQ.step (E' := [(11, _)])
  case ho => rfl
  case hs => exact ⟨rfl, trivial⟩
  case hk => rfl
  case h1 =>
    intro wq_10 kq_10
    have zs_kq_10 := kq_10.size
    replace hB := hB.pure kq_10
    replace h := h.pure kq_10
    replace hw := hw.pure kq_10
    refine WL.loadB Tryz.isAgg27 hB rfl rfl rfl (?_)
    refine WL.nil ?_
    exact WX.one ⟨rfl, by exact Chg.refl _ _⟩
  apply DQ.step (E' := [(0, _)])
  case ho => rfl
  case hs => exact ⟨rfl, trivial⟩
  case hk => rfl
  case h1 =>
    intro wq_11 kq_11
    refine WL.move rfl rfl (?_)
    refine WL.nil ?_
    exact WX.one ⟨rfl, by exact Chg.refl _ _⟩
  apply DQ.step (E' := [(14, _)])
  case ho => rfl
  case hs => exact ⟨rfl, trivial⟩
  case hk => rfl
  case h1 =>
    intro wq_12 kq_12
    refine WL.nilCheck rfl rfl (?_)
    refine WL.nil ?_
    exact WX.one ⟨rfl, by exact Chg.refl _ _⟩
  apply DQ.step (E' := [(15, _)])
  case ho => rfl
  case hs => exact ⟨rfl, trivial⟩
  case hk => rfl
  case h1 =>
    intro wq_13 kq_13
    refine WL.fieldAddr (fld_81_2) rfl rfl (?_)
    refine WL.nil ?_
    exact WX.one ⟨rfl, by exact Chg.refl _ _⟩
  apply DQ.step (E' := [(16, _)])
  case ho => rfl
  case hs => exact ⟨rfl, trivial⟩
  case hk => rfl
  case h1 =>
    intro wq_14 kq_14
    have zs_kq_14 := kq_14.size
    replace hB := hB.pure kq_14
    replace h := h.pure kq_14
    replace hw := hw.pure kq_14
    refine WL.loadB Tryz.isAgg3 hB rfl rfl rfl (?_)
    refine WL.nil ?_
    exact WX.one ⟨rfl, by exact Chg.refl _ _⟩
  refine DQ.done (fun hd_2 => ?_)
  refine DL.step [(12, _)] rfl ⟨rfl, trivial⟩ rfl (fun wq_15 kq_15 => ?_)
  have zs_kq_15 := kq_15.size
  replace hB := hB.pure kq_15
  replace h := h.pure kq_15
  replace hw := hw.pure kq_15
  replace hd_2 := hd_2.pure kq_15
  refine WL.call eg_38 rfl rfl (Sectors_calls h) ?_
  rintro v w1 ⟨rfl, k1⟩
  have zs_k1 := k1.size
  replace hB := hB.pure k1
  replace h := h.pure k1
  replace hw := hw.pure k1
  replace hd_2 := hd_2.pure k1
  refine WL.nil ?_
  refine WX.one ⟨hd_2, ?_⟩
  refine DL.step [(13, _), (17, _)] rfl ⟨rfl, rfl, trivial⟩ rfl (fun wq_16 kq_16 => ?_)
  have zs_kq_16 := kq_16.size
  replace hB := hB.pure kq_16
  replace h := h.pure kq_16
  replace hw := hw.pure kq_16
  replace hd_2 := hd_2.pure kq_16
  refine WL.sub64 rfl rfl (by constructor <;> omega) rfl ?_
  refine WL.nil ?_
  refine WX.one ⟨hd_2, ?_⟩
  refine DL.step [(8, _), (18, _)] rfl ⟨rfl, rfl, trivial⟩ rfl (fun wq_17 kq_17 => ?_)
  have zs_kq_17 := kq_17.size
  replace hB := hB.pure kq_17
  replace h := h.pure kq_17
  replace hw := hw.pure kq_17
  replace hd_2 := hd_2.pure kq_17
  refine WL.mul64 rfl rfl (by rw [hc]; constructor <;> omega) rfl ?_
  refine WL.nil ?_
  refine WX.one ⟨hd_2, ?_⟩
  refine DL.step [(19, _)] rfl ⟨rfl, trivial⟩ rfl (fun wq_18 kq_18 => ?_)
  have zs_kq_18 := kq_18.size
  replace hB := hB.pure kq_18
  replace h := h.pure kq_18
  replace hw := hw.pure kq_18
  replace hd_2 := hd_2.pure kq_18
  refine WL.assign rfl rfl (?_)
  refine WL.nil ?_
  refine WX.one ⟨hd_2, ?_⟩
  refine DL.done (fun we_19 ke_19 => ?_)
  have zs_ke_19 := ke_19.size
  replace hB := hB.pure ke_19
  replace h := h.pure ke_19
  replace hw := hw.pure ke_19
  replace hd_2 := hd_2.pure ke_19
  refine WX.then_normal (WC.ret (?_))
  refine WX.ret1 (.inl rfl) Tryz.results16 rfl ?_
  exact ⟨_, rfl, by rw [hc], hw⟩
theorem rows_calls {w : World} {a R n f : Nat} (hB : AB w a R n f) (hn : 5 ≤ n ∧ n ≤ 16) (addr size : Nat) (ha : addr ≤ 100000) (hs : size ≤ 1024) :
    Calls Tryz.prog 39 [ptr a, vi addr, vi size].toArray w (Ret fun v w' => (∃ ao c, v = .slice ao (rowsA n addr (secsA size)).length c ∧ Row (w.heap.size ≤ ·) w' 85 er2 ao c (rowsA n addr (secsA size))) ∧ Chg Nob w w') := by
  have hw := Chg.refl Nob w
  have la := hB.lt
  have h8 := secsA_le hs
  have e8 : ((size : Int) + 128 - 1) / 128 = (secsA size : Int) := by rw [secsA]; omega
  refine Calls.of_WC Tryz.func39 rfl Tryz.ntmps39 (by simp) ?_
  refine WC.seq (WC.region (WL.assign rfl rfl (WL.nil (WX.then_normal (WC.seq (WC.region (WL.assign rfl rfl (?_))))))))
  refine WL.nil (WX.then_normal (WC.seq (WC.seq (WC.region (WL.move rfl rfl (WL.add64 rfl rfl (by omega) rfl (WL.sub64 rfl rfl (by omega) rfl (?_))))))))
  refine WL.quo64i rfl rfl (by constructor <;> omega) rfl ?_
  rw [e8]
  refine WL.assign rfl rfl (WL.nil (WX.then_normal (WC.block (?_))))
  obtain ⟨R0, hR0⟩ : ∃ l, l = rowsA n addr (secsA size) := ⟨_, rfl⟩
  refine WC.loop (σ := (Option Addr × Nat) × List (Nat × Nat) × Nat × Nat) (fun s => [(0, ptr a), (1, vi (s.2.2.1 : Nat)), (7, .slice s.1.1 s.2.1.length s.1.2), (8, vi (s.2.2.2 : Nat))])
    (fun s w' => s.2.1 ++ rowsA n s.2.2.1 s.2.2.2 = R0 ∧ (s.2.2.2 ≤ 8 ∧ s.2.2.1 ≤ 100000 + 100 * (8 - s.2.2.2) ∧ s.2.1.length + s.2.2.2 ≤ 8) ∧ AB w' a R n f ∧ Row (w.heap.size ≤ ·) w' 85 er2 s.1.1 s.1.2 s.2.1 ∧ Chg Nob w w') (fun s => s.2.2.2) ((none, 0), [], addr, secsA size) ⟨rfl, rfl, rfl, rfl, trivial⟩
    ⟨by rw [hR0]; rfl, ⟨h8, by show addr ≤ 100000 + 100 * (8 - secsA size); omega, by show 0 + secsA size ≤ 8; omega⟩, hB, Row.nil _ _ _ _, hw⟩ ?_
  clear hB hw
  rintro ⟨⟨ao, c⟩, out, ad, left⟩ w1 ⟨hR, ⟨hl, had, hol⟩, hB, hO, hw⟩
  simp only at hR hl had hol hO
  dsimp only
  have zw1 := hw.size
  refine WC.seq (WC.seq (WC.region (WL.move rfl rfl (?_))))
  refine WL.gtr? rfl rfl rfl (fun h15 => ?_) (fun h15 => ?_)
  ·
    refine WL.nil (WX.then_normal (WC.cond_true rfl (WC.skip (WX.then_normal (WC.block (WC.seq (WC.region (?_))))))))
    refine WL.move rfl rfl (WL.move rfl rfl (WL.nilCheck rfl rfl (WL.fieldAddr (fld_81_1) rfl rfl (WL.loadB Tryz.isAgg3 hB rfl rfl rfl (?_)))))
    have hc15 : (0 : Int) < left := by assumption
    obtain ⟨k, hk⟩ : ∃ k, k = min left (n - 3) := ⟨_, rfl⟩
    have hk1 : 1 ≤ k ∧ k ≤ left ∧ k + 3 ≤ n := by omega
    refine WL.sub64 rfl rfl (by constructor <;> omega) rfl ?_
    refine WL.mini rfl rfl rfl ?_
    rw [show (if (n : Int) - 3 < (left : Int) then (n : Int) - 3 else (left : Int)) = (k : Int) from by split <;> omega]
    refine WL.assign rfl rfl (WL.nil (WX.then_normal (WC.seq (WC.region (WL.move rfl rfl (WL.move rfl rfl (WL.move rfl rfl (?_))))))))
    refine WL.bld rfl (bld_85_0_1 _ _) rfl (?_)
    refine WL.build (e := er2) [(ad, k)] Tryz.underlying82 Tryz.sizeOf85 Tryz.zeroValue85 rfl rfl rfl (by simp [Value.cells] <;> rfl) (by decide) rfl ?_
    intro a_q27 w_q27 q27 l_q27 z_q27 k_q27
    have zs_k_q27 := k_q27.size
    replace hB := hB.pure k_q27
    replace hO := hO.pure k_q27
    replace hw := hw.pure k_q27
    refine WL.append (e := er2) info_85 rfl Tryz.underlying82 rfl rfl hO (q27.rsl.src Tryz.underlying82) (by (try simp only [List.length_append, List.length_cons, List.length_nil] at *); omega) (by intro b hb; first | (apply hS; omega) | ((try dsimp only); omega)) rfl ?_
    intro a_q28 c_q28 w_q28 q28 g_q28 n_q28
    have z_q28 := g_q28.chg.size
    have zs_g_q28_chg := g_q28.chg.size
    replace hB := hB.chg g_q28.chg (by intro h1; exfalso; have h4 := h1.2; (try dsimp only at *); omega)
    replace hw := hw.chg g_q28.chg (by intros; exfalso; (try dsimp only at *); omega)
    refine WL.assign rfl rfl (WL.nil (WX.then_normal (WC.region (WL.move rfl rfl (WL.move rfl rfl (?_))))))
    refine WL.add64 rfl rfl (by constructor <;> omega) rfl ?_
    refine WL.add64 rfl rfl (by constructor <;> omega) rfl ?_
    refine WL.move rfl rfl (WL.move rfl rfl (?_))
    refine WL.sub64 rfl rfl (by constructor <;> omega) rfl ?_
    refine WL.assign rfl rfl (WL.assign rfl rfl (WL.nil (WX.block_normal (?_))))
    refine WX.loop_next ((a_q28, c_q28), out ++ [(ad, k)], ad + k + 3, left - k) ⟨rfl, by show some (vi ((ad : Int) + k + 3)) = some (vi ((ad + k + 3 : Nat) : Int)); congr 2, rfl, by show some (vi ((left : Int) - k)) = some (vi ((left - k : Nat) : Int)); congr 2; omega, trivial⟩
      ⟨?_, ⟨by show left - k ≤ 8; omega, by show ad + k + 3 ≤ 100000 + 100 * (8 - (left - k)); omega, by show (out ++ [(ad, k)]).length + (left - k) ≤ 8; simp; omega⟩, hB, q28, hw⟩ (by show left - k < left; omega)
    show (out ++ [(ad, k)]) ++ rowsA n (ad + k + 3) (left - k) = R0
    rw [← hR, rowsA_cons (l := left) (by omega) (by omega), ← hk, List.append_assoc]
    rfl
  ·
    refine WL.nil (WX.then_normal (WC.cond_false rfl (WC.exit (WX.then_exit (WX.then_exit (WX.block_here (WX.then_normal (?_))))))))
    refine WC.seq (WC.region (WL.move rfl rfl (WL.assign rfl rfl (WL.nil (WX.then_normal (WC.ret (?_)))))))
    refine WX.ret1 (.inl rfl) Tryz.results39 rfl ?_
    have h0 : left = 0 := by omega
    subst h0
    rw [rowsA_nil, List.append_nil] at hR
    rw [← hR0, ← hR]
    exact ⟨_, rfl, ⟨ao, c, rfl, hO⟩, hw⟩
end Go.Proofs.YtggecdldnpildaaGreat
namespace Go.Proofs.YtggecdldnpildaaGreat
open Go.RowKit Go.HL
set_option maxRecDepth 100000

/-! the sums' own words -/
structure V8 where
  a : UInt32
  b : UInt32
  c : UInt32
  d : UInt32
  e : UInt32
  f : UInt32
  g : UInt32
  h : UInt32
def rotr (x : UInt32) (n : Nat) : UInt32 := (x <<< UInt32.ofNat (32 - n)) ||| (x >>> UInt32.ofNat n)
def wordAt (b : List UInt8) (t : Nat) : UInt32 := (((b.getD (4 * t) 0).toUInt32 <<< UInt32.ofNat 24 ||| (b.getD (4 * t + 1) 0).toUInt32 <<< UInt32.ofNat 16) ||| (b.getD (4 * t + 2) 0).toUInt32 <<< UInt32.ofNat 8) ||| (b.getD (4 * t + 3) 0).toUInt32
def nextW (b : List UInt8) (ws : List UInt32) (t : Nat) : UInt32 :=
  if t < 16 then wordAt b t
  else ws.getD (t - 16) 0 + ((rotr (ws.getD (t - 15) 0) 7 ^^^ rotr (ws.getD (t - 15) 0) 18) ^^^ (ws.getD (t - 15) 0) >>> UInt32.ofNat 3) + ws.getD (t - 7) 0 + ((rotr (ws.getD (t - 2) 0) 17 ^^^ rotr (ws.getD (t - 2) 0) 19) ^^^ (ws.getD (t - 2) 0) >>> UInt32.ofNat 10)
def sch (b : List UInt8) : Nat → List UInt32
  | 0 => []
  | t + 1 => let ws := sch b t; ws ++ [nextW b ws t]
def K256 : List UInt32 := [
    0x428a2f98, 0x71374491, 0xb5c0fbcf, 0xe9b5dba5, 0x3956c25b, 0x59f111f1, 0x923f82a4, 0xab1c5ed5,
    0xd807aa98, 0x12835b01, 0x243185be, 0x550c7dc3, 0x72be5d74, 0x80deb1fe, 0x9bdc06a7, 0xc19bf174,
    0xe49b69c1, 0xefbe4786, 0x0fc19dc6, 0x240ca1cc, 0x2de92c6f, 0x4a7484aa, 0x5cb0a9dc, 0x76f988da,
    0x983e5152, 0xa831c66d, 0xb00327c8, 0xbf597fc7, 0xc6e00bf3, 0xd5a79147, 0x06ca6351, 0x14292967,
    0x27b70a85, 0x2e1b2138, 0x4d2c6dfc, 0x53380d13, 0x650a7354, 0x766a0abb, 0x81c2c92e, 0x92722c85,
    0xa2bfe8a1, 0xa81a664b, 0xc24b8b70, 0xc76c51a3, 0xd192e819, 0xd6990624, 0xf40e3585, 0x106aa070,
    0x19a4c116, 0x1e376c08, 0x2748774c, 0x34b0bcb5, 0x391c0cb3, 0x4ed8aa4a, 0x5b9cca4f, 0x682e6ff3,
    0x748f82ee, 0x78a5636f, 0x84c87814, 0x8cc70208, 0x90befffa, 0xa4506ceb, 0xbef9a3f7, 0xc67178f2]
def round1 (v : V8) (k w : UInt32) : V8 :=
  let t1 := v.h + ((rotr v.e 6 ^^^ rotr v.e 11) ^^^ rotr v.e 25) + ((v.e &&& v.f) ^^^ (~~~v.e &&& v.g)) + k + w
  let t2 := ((rotr v.a 2 ^^^ rotr v.a 13) ^^^ rotr v.a 22) + (((v.a &&& v.b) ^^^ (v.a &&& v.c)) ^^^ (v.b &&& v.c))
  ⟨t1 + t2, v.a, v.b, v.c, v.d + t1, v.e, v.f, v.g⟩
def roundsN (w : List UInt32) (v : V8) : Nat → V8
  | 0 => v
  | t + 1 => round1 (roundsN w v t) (K256.getD t 0) (w.getD t 0)
def mix (s : V8) (b : List UInt8) : V8 :=
  let v := roundsN (sch b 64) s 64
  ⟨s.a + v.a, s.b + v.b, s.c + v.c, s.d + v.d, s.e + v.e, s.f + v.f, s.g + v.g, s.h + v.h⟩
def st0 : V8 := ⟨0x6a09e667, 0xbb67ae85, 0x3c6ef372, 0xa54ff53a, 0x510e527f, 0x9b05688c, 0x1f83d9ab, 0x5be0cd19⟩
def be8 (n : UInt64) (i : Nat) : List UInt8 := (List.range i).map fun q => (n >>> UInt64.ofNat (56 - 8 * q)).toUInt8
def padded (b : List UInt8) : List UInt8 := b ++ [128] ++ List.replicate ((120 - (b.length + 1) % 64) % 64) 0 ++ be8 (UInt64.ofNat b.length <<< UInt64.ofNat 3) 8

/-! turning -/
theorem rot_cnt {n : Nat} (h : 1 ≤ n ∧ n ≤ 31) : (B64 (-(n : Int)) &&& 31).toNat = 32 - n ∧ (32 - (B64 (-(n : Int)) &&& 31)).toNat = n := by
  have : ∀ m : Fin 32, 1 ≤ m.1 → (B64 (-(m.1 : Int)) &&& 31).toNat = 32 - m.1 ∧ (32 - (B64 (-(m.1 : Int)) &&& 31)).toNat = m.1 := by decide +kernel
  exact this ⟨n, by omega⟩ h.1
theorem rotl_calls (x : UInt32) (n : Nat) (w : World) (h : 1 ≤ n ∧ n ≤ 31) : Calls Tryz.prog 76 [v32 x, vi (-(n : Int))].toArray w (Ret fun v w' => v = v32 (rotr x n) ∧ Chg Nob w w') := by
  have hw := Chg.refl Nob w
  have hc := rot_cnt h
  refine Calls.of_WC Tryz.func76 rfl Tryz.ntmps76 (by simp) ?_
  refine WC.seq (WC.region (WL.assign rfl rfl (WL.nil (WX.then_normal (WC.seq (WC.region (WL.move rfl rfl (?_))))))))
  refine WL.c_i64_u64 Tryz.underlying3 Tryz.underlying75 rfl rfl (WL.num rfl rfl (n_and64 _ _ _ 31) rfl (WL.assign rfl rfl (WL.nil (WX.then_normal (WC.seq (WC.region (WL.move rfl rfl (?_))))))))
  refine WL.move rfl rfl (?_)
  refine WL.shl32v (32 - n) rfl rfl ⟨by rw [hc.1], by omega⟩ rfl ?_
  refine WL.move rfl rfl (WL.move rfl rfl (WL.num rfl rfl (n_sub64 _ _ 32 _) rfl (?_)))
  refine WL.shr32v n rfl rfl ⟨by rw [hc.2], by omega⟩ rfl ?_
  refine WL.num rfl rfl (n_or32 _ _ _ _) rfl (WL.assign rfl rfl (WL.nil (WX.then_normal (WC.ret (?_)))))
  refine WX.ret1 (.inl rfl) Tryz.results76 rfl ?_
  exact ⟨_, rfl, rfl, hw⟩
theorem ror_calls (x : UInt32) (n : Nat) (w : World) (h : 1 ≤ n ∧ n ≤ 31) : Calls Tryz.prog 65 [v32 x, vi (n : Int)].toArray w (Ret fun v w' => v = v32 (rotr x n) ∧ Chg Nob w w') := by
  have hw := Chg.refl Nob w
  refine Calls.of_WC Tryz.func65 rfl Tryz.ntmps65 (by simp) ?_
  refine WC.seq (WC.region (WL.assign rfl rfl (WL.nil (WX.then_normal (WC.seq (WC.region (WL.move rfl rfl (?_))))))))
  refine WL.move rfl rfl (WL.neg64 rfl (by omega) rfl (?_))
  refine WL.call eg_76 rfl rfl (rotl_calls x n _ h) ?_
  rintro v w1 ⟨rfl, k⟩
  have zs_k := k.size
  replace hw := hw.pure k
  refine WL.assign rfl rfl (WL.nil (WX.then_normal (WC.ret (?_))))
  refine WX.ret1 (.inl rfl) Tryz.results65 rfl ?_
  exact ⟨_, rfl, rfl, hw⟩
/-! bytes of one's own -/
theorem clone_calls {S : Nat → Prop} {w : World} {ao : Option Addr} {c : Nat} {b : List UInt8} (hr : RSl S w eb ao c b) (hl : b.length ≤ 140737488351232) :
    Calls Tryz.prog 63 [.slice ao b.length c].toArray w (Ret fun v w' => (∃ (ao' : Option Addr) (c' : Nat), v = .slice ao' b.length c' ∧ Row (w.heap.size ≤ ·) w' 5 eb ao' c' b) ∧ Chg Nob w w') := by
  replace hr := hr.old
  have hw := Chg.refl Nob w
  refine Calls.of_WC Tryz.func63 rfl Tryz.ntmps63 (by simp) ?_
  refine WC.seq (WC.region (WL.assign rfl rfl (WL.nil (WX.then_normal (WC.seq (WC.seq (WC.region (?_))))))))
  refine WL.move rfl rfl (?_)
  refine WL.isNil? Tryz.underlying26 rfl rfl rfl (fun h4 => ?_) (fun h4 => ?_)
  ·
    refine WL.nil (WX.then_normal (WC.cond_true rfl (WC.seq (WC.region (WL.assign rfl rfl (WL.nil (WX.then_normal (?_))))))))
    refine WC.ret (WX.then_ret (?_))
    refine WX.ret1 (.inl rfl) Tryz.results63 rfl ?_
    subst h4
    have hn := hr.none_nil
    subst hn
    exact ⟨_, rfl, ⟨none, 0, rfl, Row.nil _ _ _ _⟩, hw⟩
  ·
    refine WL.nil (WX.then_normal (WC.cond_false rfl (WC.skip (WX.then_normal (WC.seq (WC.region (?_)))))))
    refine WL.build (e := eb) [] Tryz.underlying26 Tryz.sizeOf5 Tryz.zeroValue5 rfl rfl rfl (by simp [Value.cells]; done) (by decide) rfl ?_
    intro a_hq w_hq hq l_hq z_hq k_hq
    have zs_k_hq := k_hq.size
    replace hr := hr.pure k_hq
    replace hw := hw.pure k_hq
    refine WL.move rfl rfl (?_)
    refine WL.append (e := eb) info_5 rfl Tryz.underlying26 rfl rfl hq (hr.src Tryz.underlying26) (by (try simp only [List.length_append, List.length_cons, List.length_nil] at *); omega) (by intro b hb; first | (apply hS; omega) | ((try dsimp only); omega)) rfl ?_
    intro a_hq2 c_hq2 w_hq2 hq2 g_hq2 n_hq2
    have z_hq2 := g_hq2.chg.size
    have zs_g_hq2_chg := g_hq2.chg.size
    replace hr := hr.chg g_hq2.chg (by intros; exfalso; (try dsimp only at *); omega)
    replace hw := hw.chg g_hq2.chg (by intros; exfalso; (try dsimp only at *); omega)
    refine WL.assign rfl rfl (WL.nil (WX.then_normal (WC.ret (?_))))
    refine WX.ret1 (.inl rfl) Tryz.results63 rfl ?_
    exact ⟨_, rfl, ⟨_, _, rfl, hq2⟩, hw⟩
/-! the message with what is put behind -/
theorem pad_calls {S : Nat → Prop} {w : World} {ao : Option Addr} {c : Nat} {b : List UInt8} (hr : RSl S w eb ao c b) (hl : b.length ≤ 140737488351232) :
    Calls Tryz.prog 36 [.slice ao b.length c].toArray w (Ret fun v w' => (∃ (ao' : Option Addr) (c' : Nat), v = .slice ao' (padded b).length c' ∧ Row (w.heap.size ≤ ·) w' 5 eb ao' c' (padded b)) ∧ Chg Nob w w') := by
  replace hr := hr.old
  have hw := Chg.refl Nob w
  refine Calls.of_WC Tryz.func36 rfl Tryz.ntmps36 (by simp) ?_
  refine WC.seq (WC.region (WL.assign rfl rfl (WL.nil (WX.then_normal (WC.seq (WC.region (WL.move rfl rfl (?_))))))))
  refine WL.call eg_63 rfl rfl (clone_calls hr hl) ?_
  rintro v w1 ⟨⟨a1, c1, rfl, hq⟩, k⟩
  have zs_k := k.size
  replace hr := hr.pure k
  replace hw := hw.pure k
  refine WL.build (e := eb) [128] Tryz.underlying26 Tryz.sizeOf5 Tryz.zeroValue5 rfl rfl rfl (by simp [Value.cells] <;> rfl) (by decide) rfl ?_
  intro a_hn w_hn hn l_hn z_hn k_hn
  have zs_k_hn := k_hn.size
  replace hr := hr.pure k_hn
  replace hw := hw.pure k_hn
  replace hq := hq.pure k_hn
  refine WL.append (e := eb) info_5 rfl Tryz.underlying26 rfl rfl hq (hn.rsl.src Tryz.underlying26) (by (try simp only [List.length_append, List.length_cons, List.length_nil] at *); omega) (by intro b hb; first | (apply hS; omega) | ((try dsimp only); omega)) rfl ?_
  intro a_hq1 c_hq1 w_hq1 hq1 g_hq1 n_hq1
  have z_hq1 := g_hq1.chg.size
  have zs_g_hq1_chg := g_hq1.chg.size
  replace hr := hr.chg g_hq1.chg (by intros; exfalso; (try dsimp only at *); omega)
  replace hw := hw.chg g_hq1.chg (by intros; exfalso; (try dsimp only at *); omega)
  refine WL.assign rfl rfl (WL.nil (WX.then_normal (WC.seq (WC.block (?_)))))
  refine WC.loop (σ := Nat × Option Addr × Nat) (fun s => [(3, .slice s.2.1 (b ++ [128] ++ List.replicate s.1 0).length s.2.2), (0, .slice ao b.length c)])
    (fun s w' => s.1 ≤ (120 - (b.length + 1) % 64) % 64 ∧ Row (w.heap.size ≤ ·) w' 5 eb s.2.1 s.2.2 (b ++ [128] ++ List.replicate s.1 0) ∧ RSl (· < w.heap.size) w' eb ao c b ∧ Chg Nob w w') (fun s => 64 - s.1) (0, a_hq1, c_hq1) ⟨by rw [show List.replicate 0 (0 : UInt8) = [] from rfl, List.append_nil]; rfl, rfl, trivial⟩ ⟨by simp, by simpa using hq1, hr, hw⟩ ?_
  clear hr hw hn hq1 hq
  rintro ⟨j, a1, c1⟩ w2 ⟨hj, hq, hr, hw⟩
  dsimp only at hj hq hr hw ⊢
  have zw := hw.size
  have hlen : (b ++ [128] ++ List.replicate j 0).length = b.length + 1 + j := by simp; omega
  refine WC.seq (WC.seq (WC.region (WL.move rfl rfl (WL.len Tryz.underlying26 rfl rfl (WL.rem64i rfl rfl (by constructor <;> omega) rfl (?_))))))
  refine WL.neq? rfl rfl rfl (fun h13 => ?_) (fun h13 => ?_)
  ·
    refine WL.nil (WX.then_normal (WC.cond_true rfl (WC.skip (WX.then_normal (WC.block (WC.region (WL.move rfl rfl (?_))))))))
    refine WL.build (e := eb) [0] Tryz.underlying26 Tryz.sizeOf5 Tryz.zeroValue5 rfl rfl rfl (by simp [Value.cells] <;> rfl) (by decide) rfl ?_
    intro a_hn w_hn hn l_hn z_hn k_hn
    have zs_k_hn := k_hn.size
    replace hq := hq.pure k_hn
    replace hr := hr.pure k_hn
    replace hw := hw.pure k_hn
    refine WL.append (e := eb) info_5 rfl Tryz.underlying26 rfl rfl hq (hn.rsl.src Tryz.underlying26) (by (try simp only [List.length_append, List.length_cons, List.length_nil] at *); omega) (by intro b hb; first | (apply hS; omega) | ((try dsimp only); omega)) rfl ?_
    intro a_hq2 c_hq2 w_hq2 hq2 g_hq2 n_hq2
    have z_hq2 := g_hq2.chg.size
    have zs_g_hq2_chg := g_hq2.chg.size
    replace hr := hr.chg g_hq2.chg (by intros; exfalso; (try dsimp only at *); omega)
    replace hw := hw.chg g_hq2.chg (by intros; exfalso; (try dsimp only at *); omega)
    refine WL.assign rfl rfl (WL.nil (WX.block_normal (?_)))
    have e1 : b ++ [128] ++ List.replicate (j + 1) 0 = b ++ [128] ++ List.replicate j 0 ++ [0] := by rw [List.replicate_succ', List.append_assoc, List.append_assoc, List.append_assoc]
    refine WX.loop_next (j + 1, a_hq2, c_hq2) ⟨?_, rfl, trivial⟩ ⟨by dsimp only; omega, ?_, hr, hw⟩ (by show _ - _ < _ - _; omega)
    ·
      dsimp only; rw [e1]; rfl
    ·
      dsimp only; rw [e1]; exact hq2
  ·
    refine WL.nil (WX.then_normal (WC.cond_false rfl (WC.exit (WX.then_exit (WX.then_exit (WX.block_here (WX.then_normal (?_))))))))
    refine WC.seq (WC.region (WL.move rfl rfl (WL.len Tryz.underlying26 rfl rfl (WL.c_i64_u64 Tryz.underlying3 Tryz.underlying23 rfl rfl (WL.num rfl rfl (n_shl64 _ _ _ _ 3 (by decide)) rfl (WL.assign rfl rfl (WL.nil (?_))))))))
    refine WX.then_normal (WC.seq (WC.seq (WC.region (WL.assign rfl rfl (WL.nil (WX.then_normal (WC.block (?_))))))))
    have hz : j = (120 - (b.length + 1) % 64) % 64 := by omega
    have hn8 : (B64 (b.length : Int)) = UInt64.ofNat b.length := by
      apply UInt64.toNat_inj.1
      rw [B64_nat (by omega)]
      simp
      omega
    rw [hn8]
    refine WC.loop (σ := Nat × Option Addr × Nat) (fun s => [(3, .slice s.2.1 (b ++ [128] ++ List.replicate j 0 ++ be8 (UInt64.ofNat b.length <<< UInt64.ofNat 3) s.1).length s.2.2), (4, v64 (UInt64.ofNat b.length <<< UInt64.ofNat 3)), (5, vi (56 - 8 * (s.1 : Int)))])
      (fun s w' => s.1 ≤ 8 ∧ Row (w.heap.size ≤ ·) w' 5 eb s.2.1 s.2.2 (b ++ [128] ++ List.replicate j 0 ++ be8 (UInt64.ofNat b.length <<< UInt64.ofNat 3) s.1) ∧ Chg Nob w w') (fun s => 8 - s.1) (0, a1, c1) ⟨by rw [show be8 (UInt64.ofNat b.length <<< UInt64.ofNat 3) 0 = [] from rfl, List.append_nil]; rfl, rfl, rfl, trivial⟩ ⟨by simp, by simpa [be8] using hq, hw⟩ ?_
    clear hr hw hq
    rintro ⟨i, a2, c2⟩ w3 ⟨hi, hq, hw⟩
    dsimp only at hi hq hw ⊢
    have zw3 := hw.size
    have hlen3 : (b ++ [128] ++ List.replicate j 0 ++ be8 (UInt64.ofNat b.length <<< UInt64.ofNat 3) i).length = b.length + 1 + j + i := by simp [be8]; omega
    refine WC.seq (WC.seq (WC.region (WL.move rfl rfl (?_))))
    refine WL.geq? rfl rfl rfl (fun h22 => ?_) (fun h22 => ?_)
    ·
      refine WL.nil (WX.then_normal (WC.cond_true rfl (WC.skip (WX.then_normal (WC.seq (WC.block (WC.region (?_))))))))
      refine WL.move rfl rfl (WL.move rfl rfl (WL.move rfl rfl (?_)))
      refine WL.shrv (56 - 8 * i) rfl rfl ⟨by omega, by omega⟩ rfl ?_
      refine WL.c_u64_u8 Tryz.underlying23 Tryz.underlying5 rfl rfl (?_)
      refine WL.build (e := eb) [((UInt64.ofNat b.length <<< UInt64.ofNat 3) >>> UInt64.ofNat (56 - 8 * i)).toUInt8] Tryz.underlying26 Tryz.sizeOf5 Tryz.zeroValue5 rfl rfl rfl (by simp [Value.cells] <;> rfl) (by decide) rfl ?_
      intro a_hn w_hn hn l_hn z_hn k_hn
      have zs_k_hn := k_hn.size
      replace hq := hq.pure k_hn
      replace hw := hw.pure k_hn
      refine WL.append (e := eb) info_5 rfl Tryz.underlying26 rfl rfl hq (hn.rsl.src Tryz.underlying26) (by (try simp only [List.length_append, List.length_cons, List.length_nil] at *); omega) (by intro b hb; first | (apply hS; omega) | ((try dsimp only); omega)) rfl ?_
      intro a_hq2 c_hq2 w_hq2 hq2 g_hq2 n_hq2
      have z_hq2 := g_hq2.chg.size
      have zs_g_hq2_chg := g_hq2.chg.size
      replace hw := hw.chg g_hq2.chg (by intros; exfalso; (try dsimp only at *); omega)
      refine WL.assign rfl rfl (WL.nil (WX.block_normal (WX.then_normal (WC.region (WL.move rfl rfl (WL.sub64 rfl rfl (by omega) rfl (WL.assign rfl rfl (?_))))))))
      refine WL.nil (?_)
      have e1 : be8 (UInt64.ofNat b.length <<< UInt64.ofNat 3) (i + 1) = be8 (UInt64.ofNat b.length <<< UInt64.ofNat 3) i ++ [((UInt64.ofNat b.length <<< UInt64.ofNat 3) >>> UInt64.ofNat (56 - 8 * i)).toUInt8] := by simp [be8, List.range_succ]
      refine WX.loop_next (i + 1, a_hq2, c_hq2) ⟨?_, rfl, ?_, trivial⟩ ⟨by dsimp only; omega, ?_, hw⟩ (by show _ - _ < _ - _; omega)
      ·
        dsimp only; rw [e1, ← List.append_assoc]; rfl
      ·
        dsimp only
        have e2 : 56 - 8 * ((i + 1 : Nat) : Int) = 56 - 8 * (i : Int) - 8 := by omega
        rw [e2]; rfl
      ·
        dsimp only; rw [e1, ← List.append_assoc]; exact hq2
    ·
      refine WL.nil (WX.then_normal (WC.cond_false rfl (WC.exit (WX.then_exit (WX.then_exit (WX.block_here (WX.then_normal (?_))))))))
      refine WC.seq (WC.region (WL.move rfl rfl (WL.assign rfl rfl (WL.nil (WX.then_normal (WC.ret (?_)))))))
      refine WX.ret1 (.inl rfl) Tryz.results36 rfl ?_
      have hi8 : i = 8 := by omega
      have e1 : padded b = b ++ [128] ++ List.replicate j 0 ++ be8 (UInt64.ofNat b.length <<< UInt64.ofNat 3) i := by rw [hi8, hz]; rfl
      rw [e1]
      exact ⟨_, rfl, ⟨a2, c2, rfl, hq⟩, hw⟩
end Go.Proofs.YtggecdldnpildaaGreat
namespace Go.Proofs.YtggecdldnpildaaGreat
open Go.RowKit Go.HL
set_option maxRecDepth 100000

def V8.cells (v : V8) : List Value := [v32 v.a, v32 v.b, v32 v.c, v32 v.d, v32 v.e, v32 v.f, v32 v.g, v32 v.h]
theorem begin_calls (w : World) : Calls Tryz.prog 34 [].toArray w (Ret fun v w' => v = .agg (st0.cells).toArray ∧ Chg Nob w w') := by
  have hw := Chg.refl Nob w
  refine Calls.of_WC Tryz.func34 rfl Tryz.ntmps34 (by simp) ?_
  refine WC.seq (WC.region (?_))
  refine WL.alloc Tryz.zeroValue68 rfl ?_
  intro g_1 w_1 hge_1 hlt_1 hb_1 k_1
  have zs_k_1 := k_1.size
  replace hw := hw.pure k_1
  refine WL.nil (WX.then_normal (WC.seq (WC.region (WL.bld rfl (bld_68_0_1_2_3_4_5_6_7 _ _ _ _ _ _ _ _) rfl (?_)))))
  refine WL.stores Tryz.sizeOf68 hb_1 rfl rfl (by simp; done) (by simp [Value.oneCell']; done) (by simp [Value.cells]; done) rfl ?_
  intro w_2 hs_2 hn_2 k_2
  have zs_k_2 := k_2.size
  replace hw := hw.chg k_2 (by intro x h1 h2; have h3 : _ = _ := h2; exfalso; omega)
  replace hb_1 := hn_2
  refine WL.nil (WX.then_normal (WC.ret (?_)))
  refine WX.ret1c (.inl rfl) Tryz.results34 Tryz.isAgg68 Tryz.sizeOf68 hb_1 rfl (by rfl) ?_
  exact ⟨_, rfl, rfl, hw⟩
theorem rounds_calls (w : World) : Calls Tryz.prog 35 [].toArray w (Ret fun v w' => v = .agg (K256.map v32).toArray ∧ Chg Nob w w') := by
  have hw := Chg.refl Nob w
  refine Calls.of_WC Tryz.func35 rfl Tryz.ntmps35 (by simp) ?_
  refine WC.seq (WC.region (?_))
  refine WL.alloc Tryz.zeroValue70 rfl ?_
  intro g_1 w_1 hge_1 hlt_1 hb_1 k_1
  have zs_k_1 := k_1.size
  replace hw := hw.pure k_1
  refine WL.nil (WX.then_normal (WC.seq (WC.region (?_))))
  refine WL.buildArr (K256.map v32) Tryz.underlying70 Tryz.sizeOf66 Tryz.zeroValue70 rfl rfl rfl (by intro v hv; obtain ⟨x, _, rfl⟩ := List.mem_map.1 hv; rfl) rfl ?_
  refine WL.stores Tryz.sizeOf70 hb_1 rfl rfl (by rfl) (by intro u hu; obtain ⟨x, _, rfl⟩ := List.mem_map.1 hu; rfl) (by exact Nat.le_of_ble_eq_true rfl) rfl ?_
  intro w_2 hs_2 hn_2 k_2
  have zs_k_2 := k_2.size
  replace hw := hw.chg k_2 (by intro x h1 h2; have h3 : _ = _ := h2; exfalso; omega)
  replace hb_1 := hn_2
  refine WL.nil (WX.then_normal (WC.ret (?_)))
  refine WX.ret1c (.inl rfl) Tryz.results35 Tryz.isAgg70 Tryz.sizeOf70 hb_1 rfl (by rfl) ?_
  exact ⟨_, rfl, rfl, hw⟩
end Go.Proofs.YtggecdldnpildaaGreat
namespace Go.Proofs.YtggecdldnpildaaGreat
open Go.RowKit Go.HL
set_option maxRecDepth 100000

theorem sch_len (b : List UInt8) (t : Nat) : (sch b t).length = t := by
  induction t with
  | zero => rfl
  | succ t ih => simp [sch, ih]
theorem sch_at {b : List UInt8} {t i : Nat} (h : i < t) : (sch b t ++ List.replicate (64 - t) 0)[i]? = some ((sch b t).getD i 0) := by
  have hl := sch_len b t
  rw [List.getElem?_append_left (by omega), List.getD_eq_getElem?_getD, List.getElem?_eq_getElem (by omega)]
  rfl
theorem sch_set {b : List UInt8} {t : Nat} (h : t < 64) : ((sch b t ++ List.replicate (64 - t) 0).map v32).set t (v32 (nextW b (sch b t) t)) = (sch b (t + 1) ++ List.replicate (64 - (t + 1)) 0).map v32 := by
  have hl := sch_len b t
  rw [← List.map_set]
  congr 1
  rw [List.set_append_right _ _ (by omega), hl, Nat.sub_self, show 64 - t = (64 - (t + 1)) + 1 from by omega, List.replicate_succ, List.set_cons_zero]
  simp [sch]
theorem byte_at {b : List UInt8} {i : Nat} (h : i < b.length) : b[i]? = some (b.getD i 0) := by
  rw [List.getD_eq_getElem?_getD, List.getElem?_eq_getElem h]
  rfl
def JS (b : List UInt8) (t g : Nat) (w' : World) : Prop := ∃ cs, Blk w' g 70 cs ∧ ∀ j, j < t → cs[j]? = some (v32 ((sch b t).getD j 0))
theorem JS.pure {b : List UInt8} {t g : Nat} (w1 w2 : World) (h : JS b t g w1) (k : Chg Nob w1 w2) : JS b t g w2 := by
  obtain ⟨cs, h1, h2⟩ := h
  exact ⟨cs, h1.pure k, h2⟩
theorem JS.init {b : List UInt8} {t g : Nat} {w1 : World} (h : Blk w1 g 70 ((sch b t ++ List.replicate (64 - t) 0).map v32)) : JS b t g w1 := ⟨_, h, fun j hj => map_at _ (sch_at hj)⟩
theorem JS.set {b : List UInt8} {t g : Nat} {w1 : World} {v : Value} (h : Blk w1 g 70 (((sch b t ++ List.replicate (64 - t) 0).map v32).set t v)) : JS b t g w1 := ⟨_, h, fun j hj => by
  rw [List.getElem?_set_ne (by omega)]
  exact map_at _ (sch_at hj)⟩
set_option maxHeartbeats 1000000 in
theorem schedule_calls {S : Nat → Prop} {w : World} {ao : Option Addr} {c : Nat} {b : List UInt8} (hr : RSl S w eb ao c b) (hl : b.length = 64) :
    Calls Tryz.prog 64 [.slice ao b.length c].toArray w (Ret fun v w' => v = .agg ((sch b 64).map v32).toArray ∧ Chg Nob w w') := by
  replace hr := hr.old
  have hw := Chg.refl Nob w
  obtain ⟨bp, op, rfl⟩ := hr.place (byte_at (b := b) (i := 0) (by omega))
  refine Calls.of_WC Tryz.func64 rfl Tryz.ntmps64 (by simp) ?_
  refine WC.seq (WC.region (?_))
  refine WL.alloc Tryz.zeroValue70 rfl ?_
  intro g_1 w_1 hge_1 hlt_1 hb_1 k_1
  have zs_k_1 := k_1.size
  replace hr := hr.pure k_1
  replace hw := hw.pure k_1
  refine WL.nil (WX.then_normal (WC.seq (WC.region (?_))))
  refine WL.alloc Tryz.zeroValue70 rfl ?_
  intro g_2 w_2 hge_2 hlt_2 hb_2 k_2
  have zs_k_2 := k_2.size
  replace hr := hr.pure k_2
  replace hw := hw.pure k_2
  replace hb_1 := hb_1.pure k_2
  refine WL.nil (WX.then_normal (WC.seq (WC.seq (WC.region (WL.move rfl rfl (WL.nil (WX.then_normal (?_))))))))
  refine WC.block (?_)
  refine WC.loop (σ := Nat) (fun t => [(0, .slice (some ⟨bp, op, none⟩) b.length c), (2, .pointer (some ⟨g_1, 0, none⟩)), (3, .pointer (some ⟨g_2, 0, none⟩)), (7, vi t)])
    (fun t w' => t ≤ 64 ∧ RSl (· < w.heap.size) w' eb (some ⟨bp, op, none⟩) c b ∧ Blk w' g_1 70 ((List.replicate 64 0).map v32) ∧ Blk w' g_2 70 ((sch b t ++ List.replicate (64 - t) 0).map v32) ∧ Chg Nob w w') (fun t => 64 - t) 0 ⟨rfl, rfl, rfl, rfl, trivial⟩ ⟨by omega, hr, hb_1, hb_2, hw⟩ ?_
  clear hr hb_1 hb_2 hw
  rintro t w3 ⟨ht, hr, hb1, hb2, hw⟩
  have hsl := sch_len b t
  refine WC.seq (WC.region (?_))
  refine WL.lss? rfl rfl rfl (fun h8 => ?_) (fun h8 => ?_)
  ·
    refine WL.nil (WX.then_normal (WC.seq (WC.cond_true rfl (WC.skip (WX.then_normal (WC.seq (WC.block (?_))))))))
    refine WC.seq (WC.region (WL.move rfl rfl (WL.assign rfl rfl (WL.nil (WX.then_normal (WC.seq (WC.seq (?_))))))))
    refine WC.region (WL.move rfl rfl (?_))
    refine WL.lss? rfl rfl rfl (fun h11 => ?_) (fun h11 => ?_)
    ·
      refine WL.nil (WX.then_normal (WC.cond_true rfl (WC.seq (?_))))
      have e0 := byte_at (b := b) (i := 4 * t) (by omega)
      have e1 := byte_at (b := b) (i := 4 * t + 1) (by omega)
      have e2 := byte_at (b := b) (i := 4 * t + 2) (by omega)
      have e3 := byte_at (b := b) (i := 4 * t + 3) (by omega)
      refine WC.draw (fun x => x = g_2) [0, 1, 2, 3, 4, 5, 6, 7, 8, 9, 10, 11, 12, 13, 14, 15, 16, 17, 18, 19, 20, 21, 22, 23, 24, 25, 26, 27, 28, 29, 30, 31, 32, 33, 34] [35] mixed rfl rfl (fun wd_3 kd_3 zd_3 => ?_)
      have zs_kd_3 := kd_3.size
      replace hr := hr.pure kd_3
      replace hb1 := hb1.pure kd_3
      replace hb2 := hb2.pure kd_3
      replace hw := hw.pure kd_3
      apply DQ.step (E' := [(4, _)])
      case ho => rfl
      case hs => exact ⟨rfl, trivial⟩
      case hk => rfl
      case h1 =>
        intro wq_5 kq_5
        refine WL.move rfl rfl (?_)
        refine WL.nil ?_
        exact WX.one ⟨rfl, by exact Chg.refl _ _⟩
      apply DQ.step (E' := [(0, _)])
      case ho => rfl
      case hs => exact ⟨rfl, trivial⟩
      case hk => rfl
      case h1 =>
        intro wq_6 kq_6
        refine WL.move rfl rfl (?_)
        refine WL.nil ?_
        exact WX.one ⟨rfl, by exact Chg.refl _ _⟩
      apply DQ.step (E' := [(4, _)])
      case ho => rfl
      case hs => exact ⟨rfl, trivial⟩
      case hk => rfl
      case h1 =>
        intro wq_7 kq_7
        refine WL.move rfl rfl (?_)
        refine WL.nil ?_
        exact WX.one ⟨rfl, by exact Chg.refl _ _⟩
      apply DQ.step (E' := [(14, _)])
      case ho => rfl
      case hs => exact ⟨rfl, trivial⟩
      case hk => rfl
      case h1 =>
        intro wq_8 kq_8
        refine WL.mul64 rfl rfl (by omega) rfl (?_)
        refine WL.nil ?_
        exact WX.one ⟨rfl, by exact Chg.refl _ _⟩
      apply DQ.step (E' := [(13, _), (15, _)])
      case ho => rfl
      case hs => exact ⟨rfl, rfl, trivial⟩
      case hk => rfl
      case h1 =>
        intro wq_9 kq_9
        have zs_kq_9 := kq_9.size
        replace hr := hr.chg kq_9 (by intro b h1 h2 h3; have h4 : _ = _ := h3; (try dsimp only at h2); exfalso; omega)
        replace hb1 := hb1.chg kq_9 (by intro h1; have h2 : _ = _ := h1; exfalso; omega)
        replace hw := hw.chg kq_9 (by intro x h1 h2; have h3 : _ = _ := h2; exfalso; omega)
        refine WL.indexC hr Tryz.underlying26 Tryz.sizeOf5 rfl rfl ⟨e0, rfl⟩ rfl ?_
        refine WL.nil ?_
        exact WX.one ⟨rfl, by exact Chg.refl _ _⟩
      apply DQ.step (E' := [(16, _)])
      case ho => rfl
      case hs => exact ⟨rfl, trivial⟩
      case hk => rfl
      case h1 =>
        intro wq_10 kq_10
        have zs_kq_10 := kq_10.size
        replace hr := hr.chg kq_10 (by intro b h1 h2 h3; have h4 : _ = _ := h3; (try dsimp only at h2); exfalso; omega)
        replace hb1 := hb1.chg kq_10 (by intro h1; have h2 : _ = _ := h1; exfalso; omega)
        replace hw := hw.chg kq_10 (by intro x h1 h2; have h3 : _ = _ := h2; exfalso; omega)
        refine WL.load Tryz.isAgg5 rfl ((hr.cellsAt e0) 0 _ rfl) rfl (?_)
        refine WL.nil ?_
        exact WX.one ⟨rfl, by exact Chg.refl _ _⟩
      apply DQ.step (E' := [(17, _)])
      case ho => rfl
      case hs => exact ⟨rfl, trivial⟩
      case hk => rfl
      case h1 =>
        intro wq_11 kq_11
        have zs_kq_11 := kq_11.size
        replace hr := hr.chg kq_11 (by intro b h1 h2 h3; have h4 : _ = _ := h3; (try dsimp only at h2); exfalso; omega)
        replace hb1 := hb1.chg kq_11 (by intro h1; have h2 : _ = _ := h1; exfalso; omega)
        replace hw := hw.chg kq_11 (by intro x h1 h2; have h3 : _ = _ := h2; exfalso; omega)
        refine WL.c_u8_u32 Tryz.underlying5 Tryz.underlying66 rfl rfl (?_)
        refine WL.nil ?_
        exact WX.one ⟨rfl, by exact Chg.refl _ _⟩
      apply DQ.step (E' := [(18, _)])
      case ho => rfl
      case hs => exact ⟨rfl, trivial⟩
      case hk => rfl
      case h1 =>
        intro wq_12 kq_12
        refine WL.num rfl rfl (n_shl32 _ _ _ _ 24 (by decide)) rfl (?_)
        refine WL.nil ?_
        exact WX.one ⟨rfl, by exact Chg.refl _ _⟩
      apply DQ.step (E' := [(0, _)])
      case ho => rfl
      case hs => exact ⟨rfl, trivial⟩
      case hk => rfl
      case h1 =>
        intro wq_13 kq_13
        refine WL.move rfl rfl (?_)
        refine WL.nil ?_
        exact WX.one ⟨rfl, by exact Chg.refl _ _⟩
      apply DQ.step (E' := [(4, _)])
      case ho => rfl
      case hs => exact ⟨rfl, trivial⟩
      case hk => rfl
      case h1 =>
        intro wq_14 kq_14
        refine WL.move rfl rfl (?_)
        refine WL.nil ?_
        exact WX.one ⟨rfl, by exact Chg.refl _ _⟩
      apply DQ.step (E' := [(21, _)])
      case ho => rfl
      case hs => exact ⟨rfl, trivial⟩
      case hk => rfl
      case h1 =>
        intro wq_15 kq_15
        refine WL.mul64 rfl rfl (by omega) rfl (?_)
        refine WL.nil ?_
        exact WX.one ⟨rfl, by exact Chg.refl _ _⟩
      apply DQ.step (E' := [(22, _)])
      case ho => rfl
      case hs => exact ⟨rfl, trivial⟩
      case hk => rfl
      case h1 =>
        intro wq_16 kq_16
        refine WL.add64 rfl rfl (by omega) rfl (?_)
        refine WL.nil ?_
        exact WX.one ⟨rfl, by exact Chg.refl _ _⟩
      apply DQ.step (E' := [(20, _), (23, _)])
      case ho => rfl
      case hs => exact ⟨rfl, rfl, trivial⟩
      case hk => rfl
      case h1 =>
        intro wq_17 kq_17
        have zs_kq_17 := kq_17.size
        replace hr := hr.chg kq_17 (by intro b h1 h2 h3; have h4 : _ = _ := h3; (try dsimp only at h2); exfalso; omega)
        replace hb1 := hb1.chg kq_17 (by intro h1; have h2 : _ = _ := h1; exfalso; omega)
        replace hw := hw.chg kq_17 (by intro x h1 h2; have h3 : _ = _ := h2; exfalso; omega)
        refine WL.indexC hr Tryz.underlying26 Tryz.sizeOf5 rfl rfl ⟨e1, rfl⟩ rfl ?_
        refine WL.nil ?_
        exact WX.one ⟨rfl, by exact Chg.refl _ _⟩
      apply DQ.step (E' := [(24, _)])
      case ho => rfl
      case hs => exact ⟨rfl, trivial⟩
      case hk => rfl
      case h1 =>
        intro wq_18 kq_18
        have zs_kq_18 := kq_18.size
        replace hr := hr.chg kq_18 (by intro b h1 h2 h3; have h4 : _ = _ := h3; (try dsimp only at h2); exfalso; omega)
        replace hb1 := hb1.chg kq_18 (by intro h1; have h2 : _ = _ := h1; exfalso; omega)
        replace hw := hw.chg kq_18 (by intro x h1 h2; have h3 : _ = _ := h2; exfalso; omega)
        refine WL.load Tryz.isAgg5 rfl ((hr.cellsAt e1) 0 _ rfl) rfl (?_)
        refine WL.nil ?_
        exact WX.one ⟨rfl, by exact Chg.refl _ _⟩
      apply DQ.step (E' := [(25, _)])
      case ho => rfl
      case hs => exact ⟨rfl, trivial⟩
      case hk => rfl
      case h1 =>
        intro wq_19 kq_19
        have zs_kq_19 := kq_19.size
        replace hr := hr.chg kq_19 (by intro b h1 h2 h3; have h4 : _ = _ := h3; (try dsimp only at h2); exfalso; omega)
        replace hb1 := hb1.chg kq_19 (by intro h1; have h2 : _ = _ := h1; exfalso; omega)
        replace hw := hw.chg kq_19 (by intro x h1 h2; have h3 : _ = _ := h2; exfalso; omega)
        refine WL.c_u8_u32 Tryz.underlying5 Tryz.underlying66 rfl rfl (?_)
        refine WL.nil ?_
        exact WX.one ⟨rfl, by exact Chg.refl _ _⟩
      apply DQ.step (E' := [(26, _)])
      case ho => rfl
      case hs => exact ⟨rfl, trivial⟩
      case hk => rfl
      case h1 =>
        intro wq_20 kq_20
        refine WL.num rfl rfl (n_shl32 _ _ _ _ 16 (by decide)) rfl (?_)
        refine WL.nil ?_
        exact WX.one ⟨rfl, by exact Chg.refl _ _⟩
      apply DQ.step (E' := [(19, _), (27, _)])
      case ho => rfl
      case hs => exact ⟨rfl, rfl, trivial⟩
      case hk => rfl
      case h1 =>
        intro wq_21 kq_21
        refine WL.num rfl rfl (n_or32 _ _ _ _) rfl (?_)
        refine WL.nil ?_
        exact WX.one ⟨rfl, by exact Chg.refl _ _⟩
      apply DQ.step (E' := [(0, _)])
      case ho => rfl
      case hs => exact ⟨rfl, trivial⟩
      case hk => rfl
      case h1 =>
        intro wq_22 kq_22
        refine WL.move rfl rfl (?_)
        refine WL.nil ?_
        exact WX.one ⟨rfl, by exact Chg.refl _ _⟩
      apply DQ.step (E' := [(4, _)])
      case ho => rfl
      case hs => exact ⟨rfl, trivial⟩
      case hk => rfl
      case h1 =>
        intro wq_23 kq_23
        refine WL.move rfl rfl (?_)
        refine WL.nil ?_
        exact WX.one ⟨rfl, by exact Chg.refl _ _⟩
      apply DQ.step (E' := [(30, _)])
      case ho => rfl
      case hs => exact ⟨rfl, trivial⟩
      case hk => rfl
      case h1 =>
        intro wq_24 kq_24
        refine WL.mul64 rfl rfl (by omega) rfl (?_)
        refine WL.nil ?_
        exact WX.one ⟨rfl, by exact Chg.refl _ _⟩
      apply DQ.step (E' := [(31, _)])
      case ho => rfl
      case hs => exact ⟨rfl, trivial⟩
      case hk => rfl
      case h1 =>
        intro wq_25 kq_25
        refine WL.add64 rfl rfl (by omega) rfl (?_)
        refine WL.nil ?_
        exact WX.one ⟨rfl, by exact Chg.refl _ _⟩
      apply DQ.step (E' := [(29, _), (32, _)])
      case ho => rfl
      case hs => exact ⟨rfl, rfl, trivial⟩
      case hk => rfl
      case h1 =>
        intro wq_26 kq_26
        have zs_kq_26 := kq_26.size
        replace hr := hr.chg kq_26 (by intro b h1 h2 h3; have h4 : _ = _ := h3; (try dsimp only at h2); exfalso; omega)
        replace hb1 := hb1.chg kq_26 (by intro h1; have h2 : _ = _ := h1; exfalso; omega)
        replace hw := hw.chg kq_26 (by intro x h1 h2; have h3 : _ = _ := h2; exfalso; omega)
        refine WL.indexC hr Tryz.underlying26 Tryz.sizeOf5 rfl rfl ⟨e2, rfl⟩ rfl ?_
        refine WL.nil ?_
        exact WX.one ⟨rfl, by exact Chg.refl _ _⟩
      apply DQ.step (E' := [(33, _)])
      case ho => rfl
      case hs => exact ⟨rfl, trivial⟩
      case hk => rfl
      case h1 =>
        intro wq_27 kq_27
        have zs_kq_27 := kq_27.size
        replace hr := hr.chg kq_27 (by intro b h1 h2 h3; have h4 : _ = _ := h3; (try dsimp only at h2); exfalso; omega)
        replace hb1 := hb1.chg kq_27 (by intro h1; have h2 : _ = _ := h1; exfalso; omega)
        replace hw := hw.chg kq_27 (by intro x h1 h2; have h3 : _ = _ := h2; exfalso; omega)
        refine WL.load Tryz.isAgg5 rfl ((hr.cellsAt e2) 0 _ rfl) rfl (?_)
        refine WL.nil ?_
        exact WX.one ⟨rfl, by exact Chg.refl _ _⟩
      apply DQ.step (E' := [(34, _)])
      case ho => rfl
      case hs => exact ⟨rfl, trivial⟩
      case hk => rfl
      case h1 =>
        intro wq_28 kq_28
        have zs_kq_28 := kq_28.size
        replace hr := hr.chg kq_28 (by intro b h1 h2 h3; have h4 : _ = _ := h3; (try dsimp only at h2); exfalso; omega)
        replace hb1 := hb1.chg kq_28 (by intro h1; have h2 : _ = _ := h1; exfalso; omega)
        replace hw := hw.chg kq_28 (by intro x h1 h2; have h3 : _ = _ := h2; exfalso; omega)
        refine WL.c_u8_u32 Tryz.underlying5 Tryz.underlying66 rfl rfl (?_)
        refine WL.nil ?_
        exact WX.one ⟨rfl, by exact Chg.refl _ _⟩
      apply DQ.step (E' := [(35, _)])
      case ho => rfl
      case hs => exact ⟨rfl, trivial⟩
      case hk => rfl
      case h1 =>
        intro wq_29 kq_29
        refine WL.num rfl rfl (n_shl32 _ _ _ _ 8 (by decide)) rfl (?_)
        refine WL.nil ?_
        exact WX.one ⟨rfl, by exact Chg.refl _ _⟩
      apply DQ.step (E' := [(28, _), (36, _)])
      case ho => rfl
      case hs => exact ⟨rfl, rfl, trivial⟩
      case hk => rfl
      case h1 =>
        intro wq_30 kq_30
        refine WL.num rfl rfl (n_or32 _ _ _ _) rfl (?_)
        refine WL.nil ?_
        exact WX.one ⟨rfl, by exact Chg.refl _ _⟩
      apply DQ.step (E' := [(0, _)])
      case ho => rfl
      case hs => exact ⟨rfl, trivial⟩
      case hk => rfl
      case h1 =>
        intro wq_31 kq_31
        refine WL.move rfl rfl (?_)
        refine WL.nil ?_
        exact WX.one ⟨rfl, by exact Chg.refl _ _⟩
      apply DQ.step (E' := [(4, _)])
      case ho => rfl
      case hs => exact ⟨rfl, trivial⟩
      case hk => rfl
      case h1 =>
        intro wq_32 kq_32
        refine WL.move rfl rfl (?_)
        refine WL.nil ?_
        exact WX.one ⟨rfl, by exact Chg.refl _ _⟩
      apply DQ.step (E' := [(39, _)])
      case ho => rfl
      case hs => exact ⟨rfl, trivial⟩
      case hk => rfl
      case h1 =>
        intro wq_33 kq_33
        refine WL.mul64 rfl rfl (by omega) rfl (?_)
        refine WL.nil ?_
        exact WX.one ⟨rfl, by exact Chg.refl _ _⟩
      apply DQ.step (E' := [(40, _)])
      case ho => rfl
      case hs => exact ⟨rfl, trivial⟩
      case hk => rfl
      case h1 =>
        intro wq_34 kq_34
        refine WL.add64 rfl rfl (by omega) rfl (?_)
        refine WL.nil ?_
        exact WX.one ⟨rfl, by exact Chg.refl _ _⟩
      apply DQ.step (E' := [(38, _), (41, _)])
      case ho => rfl
      case hs => exact ⟨rfl, rfl, trivial⟩
      case hk => rfl
      case h1 =>
        intro wq_35 kq_35
        have zs_kq_35 := kq_35.size
        replace hr := hr.chg kq_35 (by intro b h1 h2 h3; have h4 : _ = _ := h3; (try dsimp only at h2); exfalso; omega)
        replace hb1 := hb1.chg kq_35 (by intro h1; have h2 : _ = _ := h1; exfalso; omega)
        replace hw := hw.chg kq_35 (by intro x h1 h2; have h3 : _ = _ := h2; exfalso; omega)
        refine WL.indexC hr Tryz.underlying26 Tryz.sizeOf5 rfl rfl ⟨e3, rfl⟩ rfl ?_
        refine WL.nil ?_
        exact WX.one ⟨rfl, by exact Chg.refl _ _⟩
      apply DQ.step (E' := [(42, _)])
      case ho => rfl
      case hs => exact ⟨rfl, trivial⟩
      case hk => rfl
      case h1 =>
        intro wq_36 kq_36
        have zs_kq_36 := kq_36.size
        replace hr := hr.chg kq_36 (by intro b h1 h2 h3; have h4 : _ = _ := h3; (try dsimp only at h2); exfalso; omega)
        replace hb1 := hb1.chg kq_36 (by intro h1; have h2 : _ = _ := h1; exfalso; omega)
        replace hw := hw.chg kq_36 (by intro x h1 h2; have h3 : _ = _ := h2; exfalso; omega)
        refine WL.load Tryz.isAgg5 rfl ((hr.cellsAt e3) 0 _ rfl) rfl (?_)
        refine WL.nil ?_
        exact WX.one ⟨rfl, by exact Chg.refl _ _⟩
      apply DQ.step (E' := [(43, _)])
      case ho => rfl
      case hs => exact ⟨rfl, trivial⟩
      case hk => rfl
      case h1 =>
        intro wq_37 kq_37
        have zs_kq_37 := kq_37.size
        replace hr := hr.chg kq_37 (by intro b h1 h2 h3; have h4 : _ = _ := h3; (try dsimp only at h2); exfalso; omega)
        replace hb1 := hb1.chg kq_37 (by intro h1; have h2 : _ = _ := h1; exfalso; omega)
        replace hw := hw.chg kq_37 (by intro x h1 h2; have h3 : _ = _ := h2; exfalso; omega)
        refine WL.c_u8_u32 Tryz.underlying5 Tryz.underlying66 rfl rfl (?_)
        refine WL.nil ?_
        exact WX.one ⟨rfl, by exact Chg.refl _ _⟩
      apply DQ.step (E' := [(37, _), (44, _)])
      case ho => rfl
      case hs => exact ⟨rfl, rfl, trivial⟩
      case hk => rfl
      case h1 =>
        intro wq_38 kq_38
        refine WL.num rfl rfl (n_or32 _ _ _ _) rfl (?_)
        refine WL.nil ?_
        exact WX.one ⟨rfl, by exact Chg.refl _ _⟩
      apply DQ.step (E' := [(3, _), (12, _)])
      case ho => rfl
      case hs => exact ⟨rfl, rfl, trivial⟩
      case hk => rfl
      case h1 =>
        intro wq_39 kq_39
        have zs_kq_39 := kq_39.size
        replace hr := hr.chg kq_39 (by intro b h1 h2 h3; have h4 : _ = _ := h3; (try dsimp only at h2); exfalso; omega)
        replace hb1 := hb1.chg kq_39 (by intro h1; have h2 : _ = _ := h1; exfalso; omega)
        replace hw := hw.chg kq_39 (by intro x h1 h2; have h3 : _ = _ := h2; exfalso; omega)
        refine WL.indexArr (t) Tryz.underlying70 Tryz.sizeOf66 rfl rfl ⟨by omega, by omega⟩ rfl ?_
        refine WL.nil ?_
        exact WX.one ⟨rfl, by exact Chg.refl _ _⟩
      refine DQ.done (fun hd_4 => ?_)
      refine DL.step [(46, _), (45, _)] rfl ⟨rfl, rfl, trivial⟩ rfl (fun wq_40 kq_40 => ?_)
      have zs_kq_40 := kq_40.size
      replace hr := hr.pure kq_40
      replace hb1 := hb1.pure kq_40
      replace hb2 := hb2.pure kq_40
      replace hw := hw.pure kq_40
      replace hd_4 := hd_4.pure kq_40
      refine WL.store Tryz.sizeOf66 hb2 rfl rfl rfl (by simp; omega) ?_
      intro w_41 hs_41 hn_41 k_41
      have zs_k_41 := k_41.size
      replace hr := hr.chg k_41 (by intro b h1 h2 h3; have h4 : _ = _ := h3; (try dsimp only at h2); exfalso; omega)
      replace hb1 := hb1.chg k_41 (by intro h1; have h2 : _ = _ := h1; exfalso; omega)
      replace hw := hw.chg k_41 (by intro x h1 h2; have h3 : _ = _ := h2; exfalso; omega)
      replace hd_4 := hd_4.chg k_41 (by intro x h1 h2; exact h2)
      replace hb2 := hn_41
      refine WL.nil ?_
      refine WX.one0 (v := undef) ⟨hd_4, ?_⟩
      refine DL.done (fun we_42 ke_42 => ?_)
      have zs_ke_42 := ke_42.size
      replace hr := hr.pure ke_42
      replace hb1 := hb1.pure ke_42
      replace hb2 := hb2.pure ke_42
      replace hw := hw.pure ke_42
      replace hd_4 := hd_4.pure ke_42
      refine WX.then_normal (WC.exit (WX.then_exit (WX.block_here (WX.then_normal (WC.region (WL.add64 rfl rfl (by omega) rfl (WL.move rfl rfl (?_))))))))
      refine WL.nil (?_)
      refine WX.loop_next (t + 1) ⟨rfl, rfl, rfl, rfl, trivial⟩ ⟨by omega, hr, hb1, ?_, hw⟩ (by show _ - _ < _ - _; omega)
      rw [← sch_set (b := b) (t := t) (by omega)]
      rw [nextW, if_pos (by omega)]; exact hb2
    ·
      refine WL.nil (WX.then_normal (WC.cond_false rfl (WC.skip (WX.then_normal (WC.seq (?_))))))
      have f15 := sch_at (b := b) (t := t) (i := t - 15) (by omega)
      have f2 := sch_at (b := b) (t := t) (i := t - 2) (by omega)
      refine WC.draw (Nob) [0, 1, 2, 3, 4, 5, 6, 7, 8, 9] [] mixed rfl rfl (fun wd_3 kd_3 zd_3 => ?_)
      have zs_kd_3 := kd_3.size
      replace hr := hr.pure kd_3
      replace hb1 := hb1.pure kd_3
      replace hb2 := hb2.pure kd_3
      replace hw := hw.pure kd_3
      apply DQ.step (E' := [(4, _)])
      case ho => rfl
      case hs => exact ⟨rfl, trivial⟩
      case hk => rfl
      case h1 =>
        intro wq_4 kq_4
        refine WL.move rfl rfl (?_)
        refine WL.nil ?_
        exact WX.one ⟨rfl, by exact Chg.refl _ _⟩
      apply DQ.step (E' := [(47, _)])
      case ho => rfl
      case hs => exact ⟨rfl, trivial⟩
      case hk => rfl
      case h1 =>
        intro wq_5 kq_5
        refine WL.sub64 rfl rfl (by omega) rfl (?_)
        refine WL.nil ?_
        exact WX.one ⟨rfl, by exact Chg.refl _ _⟩
      apply DQ.step (E' := [(3, _), (48, _)])
      case ho => rfl
      case hs => exact ⟨rfl, rfl, trivial⟩
      case hk => rfl
      case h1 =>
        intro wq_6 kq_6
        have zs_kq_6 := kq_6.size
        replace hr := hr.pure kq_6
        replace hb1 := hb1.pure kq_6
        replace hb2 := hb2.pure kq_6
        replace hw := hw.pure kq_6
        refine WL.indexArr (t - 15) Tryz.underlying70 Tryz.sizeOf66 rfl rfl ⟨by omega, by omega⟩ rfl ?_
        refine WL.nil ?_
        exact WX.one ⟨rfl, by exact Chg.refl _ _⟩
      apply DQ.step (E' := [(49, _)])
      case ho => rfl
      case hs => exact ⟨rfl, trivial⟩
      case hk => rfl
      case h1 =>
        intro wq_7 kq_7
        have zs_kq_7 := kq_7.size
        replace hr := hr.pure kq_7
        replace hb1 := hb1.pure kq_7
        replace hb2 := hb2.pure kq_7
        replace hw := hw.pure kq_7
        refine WL.loadB Tryz.isAgg66 hb2 rfl (map_at _ f15) rfl (?_)
        refine WL.nil ?_
        exact WX.one ⟨rfl, by exact Chg.refl _ _⟩
      apply DQ.step (E' := [(4, _)])
      case ho => rfl
      case hs => exact ⟨rfl, trivial⟩
      case hk => rfl
      case h1 =>
        intro wq_8 kq_8
        refine WL.move rfl rfl (?_)
        refine WL.nil ?_
        exact WX.one ⟨rfl, by exact Chg.refl _ _⟩
      apply DQ.step (E' := [(51, _)])
      case ho => rfl
      case hs => exact ⟨rfl, trivial⟩
      case hk => rfl
      case h1 =>
        intro wq_9 kq_9
        refine WL.sub64 rfl rfl (by omega) rfl (?_)
        refine WL.nil ?_
        exact WX.one ⟨rfl, by exact Chg.refl _ _⟩
      apply DQ.step (E' := [(3, _), (52, _)])
      case ho => rfl
      case hs => exact ⟨rfl, rfl, trivial⟩
      case hk => rfl
      case h1 =>
        intro wq_10 kq_10
        have zs_kq_10 := kq_10.size
        replace hr := hr.pure kq_10
        replace hb1 := hb1.pure kq_10
        replace hb2 := hb2.pure kq_10
        replace hw := hw.pure kq_10
        refine WL.indexArr (t - 2) Tryz.underlying70 Tryz.sizeOf66 rfl rfl ⟨by omega, by omega⟩ rfl ?_
        refine WL.nil ?_
        exact WX.one ⟨rfl, by exact Chg.refl _ _⟩
      apply DQ.step (E' := [(53, _)])
      case ho => rfl
      case hs => exact ⟨rfl, trivial⟩
      case hk => rfl
      case h1 =>
        intro wq_11 kq_11
        have zs_kq_11 := kq_11.size
        replace hr := hr.pure kq_11
        replace hb1 := hb1.pure kq_11
        replace hb2 := hb2.pure kq_11
        replace hw := hw.pure kq_11
        refine WL.loadB Tryz.isAgg66 hb2 rfl (map_at _ f2) rfl (?_)
        refine WL.nil ?_
        exact WX.one ⟨rfl, by exact Chg.refl _ _⟩
      apply DQ.step (E' := [(50, _)])
      case ho => rfl
      case hs => exact ⟨rfl, trivial⟩
      case hk => rfl
      case h1 =>
        intro wq_12 kq_12
        refine WL.assign rfl rfl (?_)
        refine WL.nil ?_
        exact WX.one ⟨rfl, by exact Chg.refl _ _⟩
      apply DQ.step (E' := [(54, _)])
      case ho => rfl
      case hs => exact ⟨rfl, trivial⟩
      case hk => rfl
      case h1 =>
        intro wq_13 kq_13
        refine WL.assign rfl rfl (?_)
        refine WL.nil ?_
        exact WX.one ⟨rfl, by exact Chg.refl _ _⟩
      refine DQ.done (fun _ => ?_)
      refine DL.done (fun we_14 ke_14 => ?_)
      have zs_ke_14 := ke_14.size
      replace hr := hr.pure ke_14
      replace hb1 := hb1.pure ke_14
      replace hb2 := hb2.pure ke_14
      replace hw := hw.pure ke_14
      refine WX.then_normal (?_)
      refine WC.drawJ (fun x => x = g_2) (JS b t g_2) JS.pure [0, 1, 2, 3, 4, 5, 6, 7, 8, 9, 10, 11, 12, 13, 14, 15, 16, 17, 18, 19, 20, 21, 22, 23, 24, 25, 26, 27, 28] [29] mixed rfl rfl (JS.init hb2) (fun wd_15 kd_15 zd_15 => ?_)
      have zs_kd_15 := kd_15.size
      replace hr := hr.pure kd_15
      replace hb1 := hb1.pure kd_15
      replace hb2 := hb2.pure kd_15
      replace hw := hw.pure kd_15
      apply DQ.step (E' := [(4, _)])
      case ho => rfl
      case hs => exact ⟨rfl, trivial⟩
      case hk => rfl
      case h1 =>
        rintro wq_17 ⟨kq_17, jq⟩
        refine WL.move rfl rfl (?_)
        refine WL.nil ?_
        exact WX.one ⟨rfl, by exact Chg.refl _ _⟩
      apply DQ.step (E' := [(4, _)])
      case ho => rfl
      case hs => exact ⟨rfl, trivial⟩
      case hk => rfl
      case h1 =>
        rintro wq_18 ⟨kq_18, jq⟩
        refine WL.move rfl rfl (?_)
        refine WL.nil ?_
        exact WX.one ⟨rfl, by exact Chg.refl _ _⟩
      apply DQ.step (E' := [(56, _)])
      case ho => rfl
      case hs => exact ⟨rfl, trivial⟩
      case hk => rfl
      case h1 =>
        rintro wq_19 ⟨kq_19, jq⟩
        refine WL.sub64 rfl rfl (by omega) rfl (?_)
        refine WL.nil ?_
        exact WX.one ⟨rfl, by exact Chg.refl _ _⟩
      apply DQ.step (E' := [(3, _), (57, _)])
      case ho => rfl
      case hs => exact ⟨rfl, rfl, trivial⟩
      case hk => rfl
      case h1 =>
        rintro wq_20 ⟨kq_20, jq⟩
        have zs_kq_20 := kq_20.size
        replace hr := hr.chg kq_20 (by intro b h1 h2 h3; have h4 : _ = _ := h3; (try dsimp only at h2); exfalso; omega)
        replace hb1 := hb1.chg kq_20 (by intro h1; have h2 : _ = _ := h1; exfalso; omega)
        replace hw := hw.chg kq_20 (by intro x h1 h2; have h3 : _ = _ := h2; exfalso; omega)
        refine WL.indexArr (t - 16) Tryz.underlying70 Tryz.sizeOf66 rfl rfl ⟨by omega, by omega⟩ rfl ?_
        refine WL.nil ?_
        exact WX.one ⟨rfl, by exact Chg.refl _ _⟩
      apply DQ.step (E' := [(58, _)])
      case ho => rfl
      case hs => exact ⟨rfl, trivial⟩
      case hk => rfl
      case h1 =>
        rintro wq_21 ⟨kq_21, jq⟩
        have zs_kq_21 := kq_21.size
        replace hr := hr.chg kq_21 (by intro b h1 h2 h3; have h4 : _ = _ := h3; (try dsimp only at h2); exfalso; omega)
        replace hb1 := hb1.chg kq_21 (by intro h1; have h2 : _ = _ := h1; exfalso; omega)
        replace hw := hw.chg kq_21 (by intro x h1 h2; have h3 : _ = _ := h2; exfalso; omega)
        obtain ⟨cs, hq, hcs⟩ := jq
        refine WL.loadB Tryz.isAgg66 hq rfl (hcs (t - 16) (by omega)) rfl ?_
        refine WL.nil ?_
        exact WX.one ⟨rfl, by exact Chg.refl _ _⟩
      apply DQ.step (E' := [(5, _)])
      case ho => rfl
      case hs => exact ⟨rfl, trivial⟩
      case hk => rfl
      case h1 =>
        rintro wq_22 ⟨kq_22, jq⟩
        refine WL.move rfl rfl (?_)
        refine WL.nil ?_
        exact WX.one ⟨rfl, by exact Chg.refl _ _⟩
      apply DQ.step (E' := [(60, _)])
      case ho => rfl
      case hs => exact ⟨rfl, trivial⟩
      case hk => rfl
      case h1 =>
        rintro wq_23 ⟨kq_23, jq⟩
        have zs_kq_23 := kq_23.size
        replace hr := hr.chg kq_23 (by intro b h1 h2 h3; have h4 : _ = _ := h3; (try dsimp only at h2); exfalso; omega)
        replace hb1 := hb1.chg kq_23 (by intro h1; have h2 : _ = _ := h1; exfalso; omega)
        replace hw := hw.chg kq_23 (by intro x h1 h2; have h3 : _ = _ := h2; exfalso; omega)
        refine WL.call eg_65 rfl rfl (ror_calls ((sch b t).getD (t - 15) 0) 7 _ (by decide)) ?_
        rintro v w4 ⟨rfl, k4⟩
        have zs_k4 := k4.size
        replace hr := hr.pure k4
        replace hb1 := hb1.pure k4
        replace hw := hw.pure k4
        refine WL.nil ?_
        exact WX.one ⟨rfl, by assumption⟩
      apply DQ.step (E' := [(5, _)])
      case ho => rfl
      case hs => exact ⟨rfl, trivial⟩
      case hk => rfl
      case h1 =>
        rintro wq_24 ⟨kq_24, jq⟩
        refine WL.move rfl rfl (?_)
        refine WL.nil ?_
        exact WX.one ⟨rfl, by exact Chg.refl _ _⟩
      apply DQ.step (E' := [(62, _)])
      case ho => rfl
      case hs => exact ⟨rfl, trivial⟩
      case hk => rfl
      case h1 =>
        rintro wq_25 ⟨kq_25, jq⟩
        have zs_kq_25 := kq_25.size
        replace hr := hr.chg kq_25 (by intro b h1 h2 h3; have h4 : _ = _ := h3; (try dsimp only at h2); exfalso; omega)
        replace hb1 := hb1.chg kq_25 (by intro h1; have h2 : _ = _ := h1; exfalso; omega)
        replace hw := hw.chg kq_25 (by intro x h1 h2; have h3 : _ = _ := h2; exfalso; omega)
        refine WL.call eg_65 rfl rfl (ror_calls ((sch b t).getD (t - 15) 0) 18 _ (by decide)) ?_
        rintro v w4 ⟨rfl, k4⟩
        have zs_k4 := k4.size
        replace hr := hr.pure k4
        replace hb1 := hb1.pure k4
        replace hw := hw.pure k4
        refine WL.nil ?_
        exact WX.one ⟨rfl, by assumption⟩
      apply DQ.step (E' := [(61, _), (63, _)])
      case ho => rfl
      case hs => exact ⟨rfl, rfl, trivial⟩
      case hk => rfl
      case h1 =>
        rintro wq_26 ⟨kq_26, jq⟩
        refine WL.num rfl rfl (n_xor32 _ _ _ _) rfl (?_)
        refine WL.nil ?_
        exact WX.one ⟨rfl, by exact Chg.refl _ _⟩
      apply DQ.step (E' := [(5, _)])
      case ho => rfl
      case hs => exact ⟨rfl, trivial⟩
      case hk => rfl
      case h1 =>
        rintro wq_27 ⟨kq_27, jq⟩
        refine WL.move rfl rfl (?_)
        refine WL.nil ?_
        exact WX.one ⟨rfl, by exact Chg.refl _ _⟩
      apply DQ.step (E' := [(65, _)])
      case ho => rfl
      case hs => exact ⟨rfl, trivial⟩
      case hk => rfl
      case h1 =>
        rintro wq_28 ⟨kq_28, jq⟩
        refine WL.num rfl rfl (n_shr32 _ _ _ _ 3 (by decide)) rfl (?_)
        refine WL.nil ?_
        exact WX.one ⟨rfl, by exact Chg.refl _ _⟩
      apply DQ.step (E' := [(64, _), (66, _)])
      case ho => rfl
      case hs => exact ⟨rfl, rfl, trivial⟩
      case hk => rfl
      case h1 =>
        rintro wq_29 ⟨kq_29, jq⟩
        refine WL.num rfl rfl (n_xor32 _ _ _ _) rfl (?_)
        refine WL.nil ?_
        exact WX.one ⟨rfl, by exact Chg.refl _ _⟩
      apply DQ.step (E' := [(59, _), (67, _)])
      case ho => rfl
      case hs => exact ⟨rfl, rfl, trivial⟩
      case hk => rfl
      case h1 =>
        rintro wq_30 ⟨kq_30, jq⟩
        refine WL.num rfl rfl (n_add32 _ _ _ _) rfl (?_)
        refine WL.nil ?_
        exact WX.one ⟨rfl, by exact Chg.refl _ _⟩
      apply DQ.step (E' := [(4, _)])
      case ho => rfl
      case hs => exact ⟨rfl, trivial⟩
      case hk => rfl
      case h1 =>
        rintro wq_31 ⟨kq_31, jq⟩
        refine WL.move rfl rfl (?_)
        refine WL.nil ?_
        exact WX.one ⟨rfl, by exact Chg.refl _ _⟩
      apply DQ.step (E' := [(69, _)])
      case ho => rfl
      case hs => exact ⟨rfl, trivial⟩
      case hk => rfl
      case h1 =>
        rintro wq_32 ⟨kq_32, jq⟩
        refine WL.sub64 rfl rfl (by omega) rfl (?_)
        refine WL.nil ?_
        exact WX.one ⟨rfl, by exact Chg.refl _ _⟩
      apply DQ.step (E' := [(3, _), (70, _)])
      case ho => rfl
      case hs => exact ⟨rfl, rfl, trivial⟩
      case hk => rfl
      case h1 =>
        rintro wq_33 ⟨kq_33, jq⟩
        have zs_kq_33 := kq_33.size
        replace hr := hr.chg kq_33 (by intro b h1 h2 h3; have h4 : _ = _ := h3; (try dsimp only at h2); exfalso; omega)
        replace hb1 := hb1.chg kq_33 (by intro h1; have h2 : _ = _ := h1; exfalso; omega)
        replace hw := hw.chg kq_33 (by intro x h1 h2; have h3 : _ = _ := h2; exfalso; omega)
        refine WL.indexArr (t - 7) Tryz.underlying70 Tryz.sizeOf66 rfl rfl ⟨by omega, by omega⟩ rfl ?_
        refine WL.nil ?_
        exact WX.one ⟨rfl, by exact Chg.refl _ _⟩
      apply DQ.step (E' := [(71, _)])
      case ho => rfl
      case hs => exact ⟨rfl, trivial⟩
      case hk => rfl
      case h1 =>
        rintro wq_34 ⟨kq_34, jq⟩
        have zs_kq_34 := kq_34.size
        replace hr := hr.chg kq_34 (by intro b h1 h2 h3; have h4 : _ = _ := h3; (try dsimp only at h2); exfalso; omega)
        replace hb1 := hb1.chg kq_34 (by intro h1; have h2 : _ = _ := h1; exfalso; omega)
        replace hw := hw.chg kq_34 (by intro x h1 h2; have h3 : _ = _ := h2; exfalso; omega)
        obtain ⟨cs, hq, hcs⟩ := jq
        refine WL.loadB Tryz.isAgg66 hq rfl (hcs (t - 7) (by omega)) rfl ?_
        refine WL.nil ?_
        exact WX.one ⟨rfl, by exact Chg.refl _ _⟩
      apply DQ.step (E' := [(68, _), (72, _)])
      case ho => rfl
      case hs => exact ⟨rfl, rfl, trivial⟩
      case hk => rfl
      case h1 =>
        rintro wq_35 ⟨kq_35, jq⟩
        refine WL.num rfl rfl (n_add32 _ _ _ _) rfl (?_)
        refine WL.nil ?_
        exact WX.one ⟨rfl, by exact Chg.refl _ _⟩
      apply DQ.step (E' := [(6, _)])
      case ho => rfl
      case hs => exact ⟨rfl, trivial⟩
      case hk => rfl
      case h1 =>
        rintro wq_36 ⟨kq_36, jq⟩
        refine WL.move rfl rfl (?_)
        refine WL.nil ?_
        exact WX.one ⟨rfl, by exact Chg.refl _ _⟩
      apply DQ.step (E' := [(74, _)])
      case ho => rfl
      case hs => exact ⟨rfl, trivial⟩
      case hk => rfl
      case h1 =>
        rintro wq_37 ⟨kq_37, jq⟩
        have zs_kq_37 := kq_37.size
        replace hr := hr.chg kq_37 (by intro b h1 h2 h3; have h4 : _ = _ := h3; (try dsimp only at h2); exfalso; omega)
        replace hb1 := hb1.chg kq_37 (by intro h1; have h2 : _ = _ := h1; exfalso; omega)
        replace hw := hw.chg kq_37 (by intro x h1 h2; have h3 : _ = _ := h2; exfalso; omega)
        refine WL.call eg_65 rfl rfl (ror_calls ((sch b t).getD (t - 2) 0) 17 _ (by decide)) ?_
        rintro v w4 ⟨rfl, k4⟩
        have zs_k4 := k4.size
        replace hr := hr.pure k4
        replace hb1 := hb1.pure k4
        replace hw := hw.pure k4
        refine WL.nil ?_
        exact WX.one ⟨rfl, by assumption⟩
      apply DQ.step (E' := [(6, _)])
      case ho => rfl
      case hs => exact ⟨rfl, trivial⟩
      case hk => rfl
      case h1 =>
        rintro wq_38 ⟨kq_38, jq⟩
        refine WL.move rfl rfl (?_)
        refine WL.nil ?_
        exact WX.one ⟨rfl, by exact Chg.refl _ _⟩
      apply DQ.step (E' := [(76, _)])
      case ho => rfl
      case hs => exact ⟨rfl, trivial⟩
      case hk => rfl
      case h1 =>
        rintro wq_39 ⟨kq_39, jq⟩
        have zs_kq_39 := kq_39.size
        replace hr := hr.chg kq_39 (by intro b h1 h2 h3; have h4 : _ = _ := h3; (try dsimp only at h2); exfalso; omega)
        replace hb1 := hb1.chg kq_39 (by intro h1; have h2 : _ = _ := h1; exfalso; omega)
        replace hw := hw.chg kq_39 (by intro x h1 h2; have h3 : _ = _ := h2; exfalso; omega)
        refine WL.call eg_65 rfl rfl (ror_calls ((sch b t).getD (t - 2) 0) 19 _ (by decide)) ?_
        rintro v w4 ⟨rfl, k4⟩
        have zs_k4 := k4.size
        replace hr := hr.pure k4
        replace hb1 := hb1.pure k4
        replace hw := hw.pure k4
        refine WL.nil ?_
        exact WX.one ⟨rfl, by assumption⟩
      apply DQ.step (E' := [(75, _), (77, _)])
      case ho => rfl
      case hs => exact ⟨rfl, rfl, trivial⟩
      case hk => rfl
      case h1 =>
        rintro wq_40 ⟨kq_40, jq⟩
        refine WL.num rfl rfl (n_xor32 _ _ _ _) rfl (?_)
        refine WL.nil ?_
        exact WX.one ⟨rfl, by exact Chg.refl _ _⟩
      apply DQ.step (E' := [(6, _)])
      case ho => rfl
      case hs => exact ⟨rfl, trivial⟩
      case hk => rfl
      case h1 =>
        rintro wq_41 ⟨kq_41, jq⟩
        refine WL.move rfl rfl (?_)
        refine WL.nil ?_
        exact WX.one ⟨rfl, by exact Chg.refl _ _⟩
      apply DQ.step (E' := [(79, _)])
      case ho => rfl
      case hs => exact ⟨rfl, trivial⟩
      case hk => rfl
      case h1 =>
        rintro wq_42 ⟨kq_42, jq⟩
        refine WL.num rfl rfl (n_shr32 _ _ _ _ 10 (by decide)) rfl (?_)
        refine WL.nil ?_
        exact WX.one ⟨rfl, by exact Chg.refl _ _⟩
      apply DQ.step (E' := [(78, _), (80, _)])
      case ho => rfl
      case hs => exact ⟨rfl, rfl, trivial⟩
      case hk => rfl
      case h1 =>
        rintro wq_43 ⟨kq_43, jq⟩
        refine WL.num rfl rfl (n_xor32 _ _ _ _) rfl (?_)
        refine WL.nil ?_
        exact WX.one ⟨rfl, by exact Chg.refl _ _⟩
      apply DQ.step (E' := [(73, _), (81, _)])
      case ho => rfl
      case hs => exact ⟨rfl, rfl, trivial⟩
      case hk => rfl
      case h1 =>
        rintro wq_44 ⟨kq_44, jq⟩
        refine WL.num rfl rfl (n_add32 _ _ _ _) rfl (?_)
        refine WL.nil ?_
        exact WX.one ⟨rfl, by exact Chg.refl _ _⟩
      apply DQ.step (E' := [(3, _), (55, _)])
      case ho => rfl
      case hs => exact ⟨rfl, rfl, trivial⟩
      case hk => rfl
      case h1 =>
        rintro wq_45 ⟨kq_45, jq⟩
        have zs_kq_45 := kq_45.size
        replace hr := hr.chg kq_45 (by intro b h1 h2 h3; have h4 : _ = _ := h3; (try dsimp only at h2); exfalso; omega)
        replace hb1 := hb1.chg kq_45 (by intro h1; have h2 : _ = _ := h1; exfalso; omega)
        replace hw := hw.chg kq_45 (by intro x h1 h2; have h3 : _ = _ := h2; exfalso; omega)
        refine WL.indexArr (t) Tryz.underlying70 Tryz.sizeOf66 rfl rfl ⟨by omega, by omega⟩ rfl ?_
        refine WL.nil ?_
        exact WX.one ⟨rfl, by exact Chg.refl _ _⟩
      refine DQ.doneJ (fun hd_16 => ?_)
      refine DL.step [(83, _), (82, _)] rfl ⟨rfl, rfl, trivial⟩ rfl (fun wq_46 kq_46 => ?_)
      have zs_kq_46 := kq_46.size
      replace hr := hr.pure kq_46
      replace hb1 := hb1.pure kq_46
      replace hb2 := hb2.pure kq_46
      replace hw := hw.pure kq_46
      replace hd_16 := hd_16.pure kq_46
      refine WL.store Tryz.sizeOf66 hb2 rfl rfl rfl (by simp; omega) ?_
      intro w_47 hs_47 hn_47 k_47
      have zs_k_47 := k_47.size
      replace hr := hr.chg k_47 (by intro b h1 h2 h3; have h4 : _ = _ := h3; (try dsimp only at h2); exfalso; omega)
      replace hb1 := hb1.chg k_47 (by intro h1; have h2 : _ = _ := h1; exfalso; omega)
      replace hw := hw.chg k_47 (by intro x h1 h2; have h3 : _ = _ := h2; exfalso; omega)
      replace hd_16 := hd_16.chg k_47 (by intro x h1 h2; exact h2)
      replace hb2 := hn_47
      refine WL.nil ?_
      refine WX.one0 (v := undef) ⟨⟨hd_16, (by exact JS.set hb2)⟩, ?_⟩
      refine DL.done (fun we_48 ke_48 => ?_)
      have zs_ke_48 := ke_48.size
      replace hr := hr.pure ke_48
      replace hb1 := hb1.pure ke_48
      replace hb2 := hb2.pure ke_48
      replace hw := hw.pure ke_48
      replace hd_16 := hd_16.pure ke_48
      refine WX.block_normal (WX.then_normal (WC.region (WL.add64 rfl rfl (by omega) rfl (WL.move rfl rfl (WL.nil (?_))))))
      refine WX.loop_next (t + 1) ⟨rfl, rfl, rfl, rfl, trivial⟩ ⟨by omega, hr, hb1, ?_, hw⟩ (by show _ - _ < _ - _; omega)
      rw [← sch_set (b := b) (t := t) (by omega)]
      rw [nextW, if_neg (by omega)]; exact hb2
  ·
    refine WL.nil (WX.then_normal (WC.seq (WC.cond_false rfl (WC.exit (WX.then_exit (WX.then_exit (WX.block_here (?_))))))))
    refine WX.then_normal (WC.seq (WC.region (WL.loadsB Tryz.isAgg70 Tryz.sizeOf70 hb2 rfl (by simp; omega) rfl (?_))))
    refine WL.stores Tryz.sizeOf70 hb1 rfl rfl (by simp; omega) (by intro u hu; obtain ⟨x, _, rfl⟩ := List.mem_map.1 hu; rfl) (by simp; omega) rfl ?_
    intro w_3 hs_3 hn_3 k_3
    have zs_k_3 := k_3.size
    replace hr := hr.chg k_3 (by intro b h1 h2 h3; have h4 : _ = _ := h3; (try dsimp only at h2); exfalso; omega)
    replace hb2 := hb2.chg k_3 (by intro h1; have h2 : _ = _ := h1; exfalso; omega)
    replace hw := hw.chg k_3 (by intro x h1 h2; have h3 : _ = _ := h2; exfalso; omega)
    replace hb1 := hn_3
    refine WL.nil (WX.then_normal (WC.ret (?_)))
    refine WX.ret1c (.inl rfl) Tryz.results64 Tryz.isAgg70 Tryz.sizeOf70 hb1 rfl (by simp; omega) ?_
    have ht64 : t = 64 := by omega
    subst ht64
    refine ⟨_, rfl, ?_, hw⟩
    simp
    omega
end Go.Proofs.YtggecdldnpildaaGreat
namespace Go.Proofs.YtggecdldnpildaaGreat
open Go.RowKit Go.HL
set_option maxRecDepth 100000

def V8.add (s v : V8) : V8 := ⟨s.a + v.a, s.b + v.b, s.c + v.c, s.d + v.d, s.e + v.e, s.f + v.f, s.g + v.g, s.h + v.h⟩
def V8.list (v : V8) : List UInt32 := [v.a, v.b, v.c, v.d, v.e, v.f, v.g, v.h]
theorem V8.cells_eq (v : V8) : v.cells = v.list.map v32 := rfl
theorem mix_eq (s : V8) (b : List UInt8) : mix s b = s.add (roundsN (sch b 64) s 64) := rfl
/-- the first i parts are added -/
def addTo (s v : V8) (i : Nat) : List UInt32 := (s.add v).list.take i ++ s.list.drop i
theorem addTo_len (s v : V8) (i : Nat) (h : i ≤ 8) : (addTo s v i).length = 8 := by
  simp [addTo, V8.list]
  omega
theorem addTo_at {s v : V8} {i : Nat} (h : i < 8) : (addTo s v i)[i]? = some (s.list.getD i 0) ∧ v.list[i]? = some (v.list.getD i 0) ∧ (addTo s v i).set i (s.list.getD i 0 + v.list.getD i 0) = addTo s v (i + 1) := by
  have h8 : i = 0 ∨ i = 1 ∨ i = 2 ∨ i = 3 ∨ i = 4 ∨ i = 5 ∨ i = 6 ∨ i = 7 := by omega
  rcases h8 with rfl | rfl | rfl | rfl | rfl | rfl | rfl | rfl <;> exact ⟨rfl, rfl, rfl⟩
theorem getD_at {xs : List UInt32} {i : Nat} (h : i < xs.length) : xs[i]? = some (xs.getD i 0) := by
  rw [List.getD_eq_getElem?_getD, List.getElem?_eq_getElem h]
  rfl
set_option maxHeartbeats 1000000 in
theorem mix_calls {S : Nat → Prop} {w : World} {gs gk : Nat} {s : V8} {ao : Option Addr} {c : Nat} {b : List UInt8} (hs : Blk w gs 68 s.cells) (hk : Blk w gk 70 (K256.map v32)) (hr : RSl S w eb ao c b) (hl : b.length = 64) (hsk : gs ≠ gk) :
    Calls Tryz.prog 37 [.pointer (some ⟨gs, 0, none⟩), .slice ao b.length c, .pointer (some ⟨gk, 0, none⟩)].toArray w (Ret fun v w' => v = .tuple #[] ∧ Blk w' gs 68 (mix s b).cells ∧ Chg (fun x => x = gs) w w') := by
  have hw := Chg.refl Nob w
  replace hs : Blk w gs 68 [v32 s.a, v32 s.b, v32 s.c, v32 s.d, v32 s.e, v32 s.f, v32 s.g, v32 s.h] := hs
  have ls := hs.lt
  have lk := hk.lt
  refine Calls.of_WC Tryz.func37 rfl Tryz.ntmps37 (by simp) ?_
  refine WC.seq (WC.region (WL.move rfl rfl (?_)))
  refine WL.call eg_64 rfl rfl (schedule_calls hr hl) ?_
  rintro v w1 ⟨rfl, k⟩
  obtain ⟨ws, hws⟩ : ∃ ws, ws = sch b 64 := ⟨_, rfl⟩
  have hsl : ws.length = 64 := by rw [hws]; exact sch_len b 64
  rw [← hws]
  have zs_k := k.size
  replace hs := hs.pure k
  replace hk := hk.pure k
  replace hw := hw.pure k
  refine WL.alloc Tryz.zeroValue70 rfl ?_
  intro g_1 w_1 hge_1 hlt_1 hb_1 k_1
  have zs_k_1 := k_1.size
  replace hs := hs.pure k_1
  replace hk := hk.pure k_1
  replace hw := hw.pure k_1
  refine WL.stores Tryz.sizeOf70 hb_1 rfl rfl (by simp; omega) (by intro u hu; obtain ⟨x, _, rfl⟩ := List.mem_map.1 hu; rfl) (by simp [Value.cells]; omega) rfl ?_
  intro w_2 hs_2 hn_2 k_2
  have zs_k_2 := k_2.size
  replace hs := hs.chg k_2 (by intro h1; have h2 : _ = _ := h1; exfalso; omega)
  replace hk := hk.chg k_2 (by intro h1; have h2 : _ = _ := h1; exfalso; omega)
  replace hw := hw.chg k_2 (by intro x h1 h2; have h3 : _ = _ := h2; exfalso; omega)
  replace hb_1 := hn_2
  refine WL.nil (WX.then_normal (WC.seq (WC.region (WL.move rfl rfl (WL.nilCheck rfl rfl (WL.loadsB Tryz.isAgg68 Tryz.sizeOf68 hs rfl (by simp; done) rfl (?_)))))))
  refine WL.alloc Tryz.zeroValue68 rfl ?_
  intro g_3 w_3 hge_3 hlt_3 hb_3 k_3
  have zs_k_3 := k_3.size
  replace hs := hs.pure k_3
  replace hk := hk.pure k_3
  replace hw := hw.pure k_3
  replace hb_1 := hb_1.pure k_3
  refine WL.stores Tryz.sizeOf68 hb_3 rfl rfl (by simp; done) (by simp [Value.oneCell']; done) (by simp [Value.cells]; done) rfl ?_
  intro w_4 hs_4 hn_4 k_4
  have zs_k_4 := k_4.size
  replace hs := hs.chg k_4 (by intro h1; have h2 : _ = _ := h1; exfalso; omega)
  replace hk := hk.chg k_4 (by intro h1; have h2 : _ = _ := h1; exfalso; omega)
  replace hw := hw.chg k_4 (by intro x h1 h2; have h3 : _ = _ := h2; exfalso; omega)
  replace hb_1 := hb_1.chg k_4 (by intro h1; have h2 : _ = _ := h1; exfalso; omega)
  replace hb_3 := hn_4
  refine WL.nil (WX.then_normal (WC.seq (WC.seq (WC.region (WL.move rfl rfl (WL.nil (WX.then_normal (?_))))))))
  refine WC.block (?_)
  have e6 : ∀ zs : List Value, zs.length = 64 → List.take 0 zs ++ List.map v32 ws ++ List.drop (0 + (List.map v32 ws).length) zs = List.map v32 ws := by
    intro zs hz
    rw [List.drop_eq_nil_of_le (by simp; omega)]
    simp
  rw [e6 _ rfl] at hb_1
  refine WC.loop (σ := Nat) (fun t => [(0, .pointer (some ⟨gs, 0, none⟩)), (2, .pointer (some ⟨gk, 0, none⟩)), (6, .pointer (some ⟨g_1, 0, none⟩)), (7, .pointer (some ⟨g_3, 0, none⟩)), (19, vi t)])
    (fun t w' => t ≤ 64 ∧ Blk w' gs 68 [v32 s.a, v32 s.b, v32 s.c, v32 s.d, v32 s.e, v32 s.f, v32 s.g, v32 s.h] ∧ Blk w' gk 70 (K256.map v32) ∧ Blk w' g_1 70 (ws.map v32) ∧ Blk w' g_3 68 (roundsN ws s t).cells ∧ Chg Nob w w') (fun t => 64 - t) 0 ⟨rfl, rfl, rfl, rfl, rfl, trivial⟩ ⟨by omega, hs, hk, ?_, hb_3, hw⟩ ?_
  ·
    exact hb_1
  clear hs hk hb_1 hb_3 hw
  rintro t w9 ⟨ht, hs, hk, h6, h7, hw⟩
  obtain ⟨V, hV⟩ : ∃ V, V = roundsN ws s t := ⟨_, rfl⟩
  rw [← hV] at h7
  replace h7 : Blk w9 g_3 68 [v32 V.a, v32 V.b, v32 V.c, v32 V.d, v32 V.e, v32 V.f, v32 V.g, v32 V.h] := h7
  refine WC.seq (WC.region (?_))
  refine WL.lss? rfl rfl rfl (fun h20 => ?_) (fun h20 => ?_)
  ·
    refine WL.nil (WX.then_normal (WC.seq (WC.cond_true rfl (WC.skip (WX.then_normal (WC.seq (WC.block (?_))))))))
    refine WC.seq (WC.region (WL.move rfl rfl (WL.assign rfl rfl (WL.nil (WX.then_normal (WC.seq (?_)))))))
    refine WC.draw (Nob) [0, 1, 2, 3, 4, 5] [] mixed rfl rfl (fun wd_5 kd_5 zd_5 => ?_)
    have zs_kd_5 := kd_5.size
    replace hs := hs.pure kd_5
    replace hk := hk.pure kd_5
    replace h6 := h6.pure kd_5
    replace h7 := h7.pure kd_5
    replace hw := hw.pure kd_5
    apply DQ.step (E' := [(7, _)])
    case ho => rfl
    case hs => exact ⟨rfl, trivial⟩
    case hk => rfl
    case h1 =>
      intro wq_6 kq_6
      have zs_kq_6 := kq_6.size
      replace hs := hs.pure kq_6
      replace hk := hk.pure kq_6
      replace h6 := h6.pure kq_6
      replace h7 := h7.pure kq_6
      replace hw := hw.pure kq_6
      refine WL.indexArr 4 Tryz.underlying68 Tryz.sizeOf66 rfl rfl ⟨rfl, by decide⟩ rfl (?_)
      refine WL.nil ?_
      exact WX.one ⟨rfl, by exact Chg.refl _ _⟩
    apply DQ.step (E' := [(22, _)])
    case ho => rfl
    case hs => exact ⟨rfl, trivial⟩
    case hk => rfl
    case h1 =>
      intro wq_7 kq_7
      have zs_kq_7 := kq_7.size
      replace hs := hs.pure kq_7
      replace hk := hk.pure kq_7
      replace h6 := h6.pure kq_7
      replace h7 := h7.pure kq_7
      replace hw := hw.pure kq_7
      refine WL.loadB Tryz.isAgg66 h7 rfl rfl rfl (?_)
      refine WL.nil ?_
      exact WX.one ⟨rfl, by exact Chg.refl _ _⟩
    apply DQ.step (E' := [(7, _)])
    case ho => rfl
    case hs => exact ⟨rfl, trivial⟩
    case hk => rfl
    case h1 =>
      intro wq_8 kq_8
      have zs_kq_8 := kq_8.size
      replace hs := hs.pure kq_8
      replace hk := hk.pure kq_8
      replace h6 := h6.pure kq_8
      replace h7 := h7.pure kq_8
      replace hw := hw.pure kq_8
      refine WL.indexArr 0 Tryz.underlying68 Tryz.sizeOf66 rfl rfl ⟨rfl, by decide⟩ rfl (?_)
      refine WL.nil ?_
      exact WX.one ⟨rfl, by exact Chg.refl _ _⟩
    apply DQ.step (E' := [(24, _)])
    case ho => rfl
    case hs => exact ⟨rfl, trivial⟩
    case hk => rfl
    case h1 =>
      intro wq_9 kq_9
      have zs_kq_9 := kq_9.size
      replace hs := hs.pure kq_9
      replace hk := hk.pure kq_9
      replace h6 := h6.pure kq_9
      replace h7 := h7.pure kq_9
      replace hw := hw.pure kq_9
      refine WL.loadB Tryz.isAgg66 h7 rfl rfl rfl (?_)
      refine WL.nil ?_
      exact WX.one ⟨rfl, by exact Chg.refl _ _⟩
    apply DQ.step (E' := [(23, _)])
    case ho => rfl
    case hs => exact ⟨rfl, trivial⟩
    case hk => rfl
    case h1 =>
      intro wq_10 kq_10
      refine WL.assign rfl rfl (?_)
      refine WL.nil ?_
      exact WX.one ⟨rfl, by exact Chg.refl _ _⟩
    apply DQ.step (E' := [(25, _)])
    case ho => rfl
    case hs => exact ⟨rfl, trivial⟩
    case hk => rfl
    case h1 =>
      intro wq_11 kq_11
      refine WL.assign rfl rfl (?_)
      refine WL.nil ?_
      exact WX.one ⟨rfl, by exact Chg.refl _ _⟩
    refine DQ.done (fun _ => ?_)
    refine DL.done (fun we_12 ke_12 => ?_)
    have zs_ke_12 := ke_12.size
    replace hs := hs.pure ke_12
    replace hk := hk.pure ke_12
    replace h6 := h6.pure ke_12
    replace h7 := h7.pure ke_12
    replace hw := hw.pure ke_12
    refine WX.then_normal (WC.seq (?_))
    have fk := getD_at (xs := K256) (i := t) (by show t < 64; omega)
    have fw := getD_at (xs := ws) (i := t) (by omega)
    refine WC.draw (Nob) [0, 1, 2, 3, 4, 5, 6, 7, 8, 9, 10, 11, 12, 13, 14, 15, 16, 17, 18, 19, 20, 21, 22, 23, 24, 25, 26, 27, 28, 29, 30, 31, 32] [] mixed rfl rfl (fun wd_13 kd_13 zd_13 => ?_)
    have zs_kd_13 := kd_13.size
    replace hs := hs.pure kd_13
    replace hk := hk.pure kd_13
    replace h6 := h6.pure kd_13
    replace h7 := h7.pure kd_13
    replace hw := hw.pure kd_13
    apply DQ.step (E' := [(7, _)])
    case ho => rfl
    case hs => exact ⟨rfl, trivial⟩
    case hk => rfl
    case h1 =>
      intro wq_14 kq_14
      have zs_kq_14 := kq_14.size
      replace hs := hs.pure kq_14
      replace hk := hk.pure kq_14
      replace h6 := h6.pure kq_14
      replace h7 := h7.pure kq_14
      replace hw := hw.pure kq_14
      refine WL.indexArr 7 Tryz.underlying68 Tryz.sizeOf66 rfl rfl ⟨rfl, by decide⟩ rfl (?_)
      refine WL.nil ?_
      exact WX.one ⟨rfl, by exact Chg.refl _ _⟩
    apply DQ.step (E' := [(26, _)])
    case ho => rfl
    case hs => exact ⟨rfl, trivial⟩
    case hk => rfl
    case h1 =>
      intro wq_15 kq_15
      have zs_kq_15 := kq_15.size
      replace hs := hs.pure kq_15
      replace hk := hk.pure kq_15
      replace h6 := h6.pure kq_15
      replace h7 := h7.pure kq_15
      replace hw := hw.pure kq_15
      refine WL.loadB Tryz.isAgg66 h7 rfl rfl rfl (?_)
      refine WL.nil ?_
      exact WX.one ⟨rfl, by exact Chg.refl _ _⟩
    apply DQ.step (E' := [(9, _)])
    case ho => rfl
    case hs => exact ⟨rfl, trivial⟩
    case hk => rfl
    case h1 =>
      intro wq_16 kq_16
      refine WL.move rfl rfl (?_)
      refine WL.nil ?_
      exact WX.one ⟨rfl, by exact Chg.refl _ _⟩
    apply DQ.step (E' := [(28, _)])
    case ho => rfl
    case hs => exact ⟨rfl, trivial⟩
    case hk => rfl
    case h1 =>
      intro wq_17 kq_17
      have zs_kq_17 := kq_17.size
      replace hs := hs.pure kq_17
      replace hk := hk.pure kq_17
      replace h6 := h6.pure kq_17
      replace h7 := h7.pure kq_17
      replace hw := hw.pure kq_17
      refine WL.call eg_65 rfl rfl (ror_calls V.e 6 _ (by decide)) ?_
      rintro v w4 ⟨rfl, k4⟩
      have zs_k4 := k4.size
      replace hs := hs.pure k4
      replace hk := hk.pure k4
      replace h6 := h6.pure k4
      replace h7 := h7.pure k4
      replace hw := hw.pure k4
      refine WL.nil ?_
      exact WX.one ⟨rfl, by assumption⟩
    apply DQ.step (E' := [(9, _)])
    case ho => rfl
    case hs => exact ⟨rfl, trivial⟩
    case hk => rfl
    case h1 =>
      intro wq_18 kq_18
      refine WL.move rfl rfl (?_)
      refine WL.nil ?_
      exact WX.one ⟨rfl, by exact Chg.refl _ _⟩
    apply DQ.step (E' := [(30, _)])
    case ho => rfl
    case hs => exact ⟨rfl, trivial⟩
    case hk => rfl
    case h1 =>
      intro wq_19 kq_19
      have zs_kq_19 := kq_19.size
      replace hs := hs.pure kq_19
      replace hk := hk.pure kq_19
      replace h6 := h6.pure kq_19
      replace h7 := h7.pure kq_19
      replace hw := hw.pure kq_19
      refine WL.call eg_65 rfl rfl (ror_calls V.e 11 _ (by decide)) ?_
      rintro v w4 ⟨rfl, k4⟩
      have zs_k4 := k4.size
      replace hs := hs.pure k4
      replace hk := hk.pure k4
      replace h6 := h6.pure k4
      replace h7 := h7.pure k4
      replace hw := hw.pure k4
      refine WL.nil ?_
      exact WX.one ⟨rfl, by assumption⟩
    apply DQ.step (E' := [(29, _), (31, _)])
    case ho => rfl
    case hs => exact ⟨rfl, rfl, trivial⟩
    case hk => rfl
    case h1 =>
      intro wq_20 kq_20
      refine WL.num rfl rfl (n_xor32 _ _ _ _) rfl (?_)
      refine WL.nil ?_
      exact WX.one ⟨rfl, by exact Chg.refl _ _⟩
    apply DQ.step (E' := [(9, _)])
    case ho => rfl
    case hs => exact ⟨rfl, trivial⟩
    case hk => rfl
    case h1 =>
      intro wq_21 kq_21
      refine WL.move rfl rfl (?_)
      refine WL.nil ?_
      exact WX.one ⟨rfl, by exact Chg.refl _ _⟩
    apply DQ.step (E' := [(33, _)])
    case ho => rfl
    case hs => exact ⟨rfl, trivial⟩
    case hk => rfl
    case h1 =>
      intro wq_22 kq_22
      have zs_kq_22 := kq_22.size
      replace hs := hs.pure kq_22
      replace hk := hk.pure kq_22
      replace h6 := h6.pure kq_22
      replace h7 := h7.pure kq_22
      replace hw := hw.pure kq_22
      refine WL.call eg_65 rfl rfl (ror_calls V.e 25 _ (by decide)) ?_
      rintro v w4 ⟨rfl, k4⟩
      have zs_k4 := k4.size
      replace hs := hs.pure k4
      replace hk := hk.pure k4
      replace h6 := h6.pure k4
      replace h7 := h7.pure k4
      replace hw := hw.pure k4
      refine WL.nil ?_
      exact WX.one ⟨rfl, by assumption⟩
    apply DQ.step (E' := [(32, _), (34, _)])
    case ho => rfl
    case hs => exact ⟨rfl, rfl, trivial⟩
    case hk => rfl
    case h1 =>
      intro wq_23 kq_23
      refine WL.num rfl rfl (n_xor32 _ _ _ _) rfl (?_)
      refine WL.nil ?_
      exact WX.one ⟨rfl, by exact Chg.refl _ _⟩
    apply DQ.step (E' := [(27, _), (35, _)])
    case ho => rfl
    case hs => exact ⟨rfl, rfl, trivial⟩
    case hk => rfl
    case h1 =>
      intro wq_24 kq_24
      refine WL.num rfl rfl (n_add32 _ _ _ _) rfl (?_)
      refine WL.nil ?_
      exact WX.one ⟨rfl, by exact Chg.refl _ _⟩
    apply DQ.step (E' := [(9, _)])
    case ho => rfl
    case hs => exact ⟨rfl, trivial⟩
    case hk => rfl
    case h1 =>
      intro wq_25 kq_25
      refine WL.move rfl rfl (?_)
      refine WL.nil ?_
      exact WX.one ⟨rfl, by exact Chg.refl _ _⟩
    apply DQ.step (E' := [(7, _)])
    case ho => rfl
    case hs => exact ⟨rfl, trivial⟩
    case hk => rfl
    case h1 =>
      intro wq_26 kq_26
      have zs_kq_26 := kq_26.size
      replace hs := hs.pure kq_26
      replace hk := hk.pure kq_26
      replace h6 := h6.pure kq_26
      replace h7 := h7.pure kq_26
      replace hw := hw.pure kq_26
      refine WL.indexArr 5 Tryz.underlying68 Tryz.sizeOf66 rfl rfl ⟨rfl, by decide⟩ rfl (?_)
      refine WL.nil ?_
      exact WX.one ⟨rfl, by exact Chg.refl _ _⟩
    apply DQ.step (E' := [(38, _)])
    case ho => rfl
    case hs => exact ⟨rfl, trivial⟩
    case hk => rfl
    case h1 =>
      intro wq_27 kq_27
      have zs_kq_27 := kq_27.size
      replace hs := hs.pure kq_27
      replace hk := hk.pure kq_27
      replace h6 := h6.pure kq_27
      replace h7 := h7.pure kq_27
      replace hw := hw.pure kq_27
      refine WL.loadB Tryz.isAgg66 h7 rfl rfl rfl (?_)
      refine WL.nil ?_
      exact WX.one ⟨rfl, by exact Chg.refl _ _⟩
    apply DQ.step (E' := [(37, _), (39, _)])
    case ho => rfl
    case hs => exact ⟨rfl, rfl, trivial⟩
    case hk => rfl
    case h1 =>
      intro wq_28 kq_28
      refine WL.num rfl rfl (n_and32 _ _ _ _) rfl (?_)
      refine WL.nil ?_
      exact WX.one ⟨rfl, by exact Chg.refl _ _⟩
    apply DQ.step (E' := [(9, _)])
    case ho => rfl
    case hs => exact ⟨rfl, trivial⟩
    case hk => rfl
    case h1 =>
      intro wq_29 kq_29
      refine WL.move rfl rfl (?_)
      refine WL.nil ?_
      exact WX.one ⟨rfl, by exact Chg.refl _ _⟩
    apply DQ.step (E' := [(41, _)])
    case ho => rfl
    case hs => exact ⟨rfl, trivial⟩
    case hk => rfl
    case h1 =>
      intro wq_30 kq_30
      refine WL.not32 rfl rfl (?_)
      refine WL.nil ?_
      exact WX.one ⟨rfl, by exact Chg.refl _ _⟩
    apply DQ.step (E' := [(7, _)])
    case ho => rfl
    case hs => exact ⟨rfl, trivial⟩
    case hk => rfl
    case h1 =>
      intro wq_31 kq_31
      have zs_kq_31 := kq_31.size
      replace hs := hs.pure kq_31
      replace hk := hk.pure kq_31
      replace h6 := h6.pure kq_31
      replace h7 := h7.pure kq_31
      replace hw := hw.pure kq_31
      refine WL.indexArr 6 Tryz.underlying68 Tryz.sizeOf66 rfl rfl ⟨rfl, by decide⟩ rfl (?_)
      refine WL.nil ?_
      exact WX.one ⟨rfl, by exact Chg.refl _ _⟩
    apply DQ.step (E' := [(43, _)])
    case ho => rfl
    case hs => exact ⟨rfl, trivial⟩
    case hk => rfl
    case h1 =>
      intro wq_32 kq_32
      have zs_kq_32 := kq_32.size
      replace hs := hs.pure kq_32
      replace hk := hk.pure kq_32
      replace h6 := h6.pure kq_32
      replace h7 := h7.pure kq_32
      replace hw := hw.pure kq_32
      refine WL.loadB Tryz.isAgg66 h7 rfl rfl rfl (?_)
      refine WL.nil ?_
      exact WX.one ⟨rfl, by exact Chg.refl _ _⟩
    apply DQ.step (E' := [(42, _), (44, _)])
    case ho => rfl
    case hs => exact ⟨rfl, rfl, trivial⟩
    case hk => rfl
    case h1 =>
      intro wq_33 kq_33
      refine WL.num rfl rfl (n_and32 _ _ _ _) rfl (?_)
      refine WL.nil ?_
      exact WX.one ⟨rfl, by exact Chg.refl _ _⟩
    apply DQ.step (E' := [(40, _), (45, _)])
    case ho => rfl
    case hs => exact ⟨rfl, rfl, trivial⟩
    case hk => rfl
    case h1 =>
      intro wq_34 kq_34
      refine WL.num rfl rfl (n_xor32 _ _ _ _) rfl (?_)
      refine WL.nil ?_
      exact WX.one ⟨rfl, by exact Chg.refl _ _⟩
    apply DQ.step (E' := [(36, _), (46, _)])
    case ho => rfl
    case hs => exact ⟨rfl, rfl, trivial⟩
    case hk => rfl
    case h1 =>
      intro wq_35 kq_35
      refine WL.num rfl rfl (n_add32 _ _ _ _) rfl (?_)
      refine WL.nil ?_
      exact WX.one ⟨rfl, by exact Chg.refl _ _⟩
    apply DQ.step (E' := [(2, _)])
    case ho => rfl
    case hs => exact ⟨rfl, trivial⟩
    case hk => rfl
    case h1 =>
      intro wq_36 kq_36
      refine WL.move rfl rfl (?_)
      refine WL.nil ?_
      exact WX.one ⟨rfl, by exact Chg.refl _ _⟩
    apply DQ.step (E' := [(8, _)])
    case ho => rfl
    case hs => exact ⟨rfl, trivial⟩
    case hk => rfl
    case h1 =>
      intro wq_37 kq_37
      refine WL.move rfl rfl (?_)
      refine WL.nil ?_
      exact WX.one ⟨rfl, by exact Chg.refl _ _⟩
    apply DQ.step (E' := [(48, _)])
    case ho => rfl
    case hs => exact ⟨rfl, trivial⟩
    case hk => rfl
    case h1 =>
      intro wq_38 kq_38
      refine WL.nilCheck rfl rfl (?_)
      refine WL.nil ?_
      exact WX.one ⟨rfl, by exact Chg.refl _ _⟩
    apply DQ.step (E' := [(50, _), (49, _)])
    case ho => rfl
    case hs => exact ⟨rfl, rfl, trivial⟩
    case hk => rfl
    case h1 =>
      intro wq_39 kq_39
      have zs_kq_39 := kq_39.size
      replace hs := hs.pure kq_39
      replace hk := hk.pure kq_39
      replace h6 := h6.pure kq_39
      replace h7 := h7.pure kq_39
      replace hw := hw.pure kq_39
      refine WL.indexArr (t) Tryz.underlying70 Tryz.sizeOf66 rfl rfl ⟨by omega, by omega⟩ rfl ?_
      refine WL.nil ?_
      exact WX.one ⟨rfl, by exact Chg.refl _ _⟩
    apply DQ.step (E' := [(51, _)])
    case ho => rfl
    case hs => exact ⟨rfl, trivial⟩
    case hk => rfl
    case h1 =>
      intro wq_40 kq_40
      have zs_kq_40 := kq_40.size
      replace hs := hs.pure kq_40
      replace hk := hk.pure kq_40
      replace h6 := h6.pure kq_40
      replace h7 := h7.pure kq_40
      replace hw := hw.pure kq_40
      refine WL.loadB Tryz.isAgg66 hk rfl (map_at _ fk) rfl (?_)
      refine WL.nil ?_
      exact WX.one ⟨rfl, by exact Chg.refl _ _⟩
    apply DQ.step (E' := [(47, _), (52, _)])
    case ho => rfl
    case hs => exact ⟨rfl, rfl, trivial⟩
    case hk => rfl
    case h1 =>
      intro wq_41 kq_41
      refine WL.num rfl rfl (n_add32 _ _ _ _) rfl (?_)
      refine WL.nil ?_
      exact WX.one ⟨rfl, by exact Chg.refl _ _⟩
    apply DQ.step (E' := [(8, _)])
    case ho => rfl
    case hs => exact ⟨rfl, trivial⟩
    case hk => rfl
    case h1 =>
      intro wq_42 kq_42
      refine WL.move rfl rfl (?_)
      refine WL.nil ?_
      exact WX.one ⟨rfl, by exact Chg.refl _ _⟩
    apply DQ.step (E' := [(6, _), (54, _)])
    case ho => rfl
    case hs => exact ⟨rfl, rfl, trivial⟩
    case hk => rfl
    case h1 =>
      intro wq_43 kq_43
      have zs_kq_43 := kq_43.size
      replace hs := hs.pure kq_43
      replace hk := hk.pure kq_43
      replace h6 := h6.pure kq_43
      replace h7 := h7.pure kq_43
      replace hw := hw.pure kq_43
      refine WL.indexArr (t) Tryz.underlying70 Tryz.sizeOf66 rfl rfl ⟨by omega, by omega⟩ rfl ?_
      refine WL.nil ?_
      exact WX.one ⟨rfl, by exact Chg.refl _ _⟩
    apply DQ.step (E' := [(55, _)])
    case ho => rfl
    case hs => exact ⟨rfl, trivial⟩
    case hk => rfl
    case h1 =>
      intro wq_44 kq_44
      have zs_kq_44 := kq_44.size
      replace hs := hs.pure kq_44
      replace hk := hk.pure kq_44
      replace h6 := h6.pure kq_44
      replace h7 := h7.pure kq_44
      replace hw := hw.pure kq_44
      refine WL.loadB Tryz.isAgg66 h6 rfl (map_at _ fw) rfl (?_)
      refine WL.nil ?_
      exact WX.one ⟨rfl, by exact Chg.refl _ _⟩
    apply DQ.step (E' := [(53, _), (56, _)])
    case ho => rfl
    case hs => exact ⟨rfl, rfl, trivial⟩
    case hk => rfl
    case h1 =>
      intro wq_45 kq_45
      refine WL.num rfl rfl (n_add32 _ _ _ _) rfl (?_)
      refine WL.nil ?_
      exact WX.one ⟨rfl, by exact Chg.refl _ _⟩
    apply DQ.step (E' := [(57, _)])
    case ho => rfl
    case hs => exact ⟨rfl, trivial⟩
    case hk => rfl
    case h1 =>
      intro wq_46 kq_46
      refine WL.assign rfl rfl (?_)
      refine WL.nil ?_
      exact WX.one ⟨rfl, by exact Chg.refl _ _⟩
    refine DQ.done (fun _ => ?_)
    refine DL.done (fun we_47 ke_47 => ?_)
    have zs_ke_47 := ke_47.size
    replace hs := hs.pure ke_47
    replace hk := hk.pure ke_47
    replace h6 := h6.pure ke_47
    replace h7 := h7.pure ke_47
    replace hw := hw.pure ke_47
    refine WX.then_normal (WC.seq (?_))
    refine WC.draw (Nob) [0, 1, 2, 3, 4, 5, 6, 7, 8, 9, 10, 11, 12, 13, 14, 15, 16, 17, 18, 19, 20, 21, 22, 23, 24] [] mixed rfl rfl (fun wd_48 kd_48 zd_48 => ?_)
    have zs_kd_48 := kd_48.size
    replace hs := hs.pure kd_48
    replace hk := hk.pure kd_48
    replace h6 := h6.pure kd_48
    replace h7 := h7.pure kd_48
    replace hw := hw.pure kd_48
    apply DQ.step (E' := [(10, _)])
    case ho => rfl
    case hs => exact ⟨rfl, trivial⟩
    case hk => rfl
    case h1 =>
      intro wq_49 kq_49
      refine WL.move rfl rfl (?_)
      refine WL.nil ?_
      exact WX.one ⟨rfl, by exact Chg.refl _ _⟩
    apply DQ.step (E' := [(58, _)])
    case ho => rfl
    case hs => exact ⟨rfl, trivial⟩
    case hk => rfl
    case h1 =>
      intro wq_50 kq_50
      have zs_kq_50 := kq_50.size
      replace hs := hs.pure kq_50
      replace hk := hk.pure kq_50
      replace h6 := h6.pure kq_50
      replace h7 := h7.pure kq_50
      replace hw := hw.pure kq_50
      refine WL.call eg_65 rfl rfl (ror_calls V.a 2 _ (by decide)) ?_
      rintro v w4 ⟨rfl, k4⟩
      have zs_k4 := k4.size
      replace hs := hs.pure k4
      replace hk := hk.pure k4
      replace h6 := h6.pure k4
      replace h7 := h7.pure k4
      replace hw := hw.pure k4
      refine WL.nil ?_
      exact WX.one ⟨rfl, by assumption⟩
    apply DQ.step (E' := [(10, _)])
    case ho => rfl
    case hs => exact ⟨rfl, trivial⟩
    case hk => rfl
    case h1 =>
      intro wq_51 kq_51
      refine WL.move rfl rfl (?_)
      refine WL.nil ?_
      exact WX.one ⟨rfl, by exact Chg.refl _ _⟩
    apply DQ.step (E' := [(60, _)])
    case ho => rfl
    case hs => exact ⟨rfl, trivial⟩
    case hk => rfl
    case h1 =>
      intro wq_52 kq_52
      have zs_kq_52 := kq_52.size
      replace hs := hs.pure kq_52
      replace hk := hk.pure kq_52
      replace h6 := h6.pure kq_52
      replace h7 := h7.pure kq_52
      replace hw := hw.pure kq_52
      refine WL.call eg_65 rfl rfl (ror_calls V.a 13 _ (by decide)) ?_
      rintro v w4 ⟨rfl, k4⟩
      have zs_k4 := k4.size
      replace hs := hs.pure k4
      replace hk := hk.pure k4
      replace h6 := h6.pure k4
      replace h7 := h7.pure k4
      replace hw := hw.pure k4
      refine WL.nil ?_
      exact WX.one ⟨rfl, by assumption⟩
    apply DQ.step (E' := [(59, _), (61, _)])
    case ho => rfl
    case hs => exact ⟨rfl, rfl, trivial⟩
    case hk => rfl
    case h1 =>
      intro wq_53 kq_53
      refine WL.num rfl rfl (n_xor32 _ _ _ _) rfl (?_)
      refine WL.nil ?_
      exact WX.one ⟨rfl, by exact Chg.refl _ _⟩
    apply DQ.step (E' := [(10, _)])
    case ho => rfl
    case hs => exact ⟨rfl, trivial⟩
    case hk => rfl
    case h1 =>
      intro wq_54 kq_54
      refine WL.move rfl rfl (?_)
      refine WL.nil ?_
      exact WX.one ⟨rfl, by exact Chg.refl _ _⟩
    apply DQ.step (E' := [(63, _)])
    case ho => rfl
    case hs => exact ⟨rfl, trivial⟩
    case hk => rfl
    case h1 =>
      intro wq_55 kq_55
      have zs_kq_55 := kq_55.size
      replace hs := hs.pure kq_55
      replace hk := hk.pure kq_55
      replace h6 := h6.pure kq_55
      replace h7 := h7.pure kq_55
      replace hw := hw.pure kq_55
      refine WL.call eg_65 rfl rfl (ror_calls V.a 22 _ (by decide)) ?_
      rintro v w4 ⟨rfl, k4⟩
      have zs_k4 := k4.size
      replace hs := hs.pure k4
      replace hk := hk.pure k4
      replace h6 := h6.pure k4
      replace h7 := h7.pure k4
      replace hw := hw.pure k4
      refine WL.nil ?_
      exact WX.one ⟨rfl, by assumption⟩
    apply DQ.step (E' := [(62, _), (64, _)])
    case ho => rfl
    case hs => exact ⟨rfl, rfl, trivial⟩
    case hk => rfl
    case h1 =>
      intro wq_56 kq_56
      refine WL.num rfl rfl (n_xor32 _ _ _ _) rfl (?_)
      refine WL.nil ?_
      exact WX.one ⟨rfl, by exact Chg.refl _ _⟩
    apply DQ.step (E' := [(10, _)])
    case ho => rfl
    case hs => exact ⟨rfl, trivial⟩
    case hk => rfl
    case h1 =>
      intro wq_57 kq_57
      refine WL.move rfl rfl (?_)
      refine WL.nil ?_
      exact WX.one ⟨rfl, by exact Chg.refl _ _⟩
    apply DQ.step (E' := [(7, _)])
    case ho => rfl
    case hs => exact ⟨rfl, trivial⟩
    case hk => rfl
    case h1 =>
      intro wq_58 kq_58
      have zs_kq_58 := kq_58.size
      replace hs := hs.pure kq_58
      replace hk := hk.pure kq_58
      replace h6 := h6.pure kq_58
      replace h7 := h7.pure kq_58
      replace hw := hw.pure kq_58
      refine WL.indexArr 1 Tryz.underlying68 Tryz.sizeOf66 rfl rfl ⟨rfl, by decide⟩ rfl (?_)
      refine WL.nil ?_
      exact WX.one ⟨rfl, by exact Chg.refl _ _⟩
    apply DQ.step (E' := [(67, _)])
    case ho => rfl
    case hs => exact ⟨rfl, trivial⟩
    case hk => rfl
    case h1 =>
      intro wq_59 kq_59
      have zs_kq_59 := kq_59.size
      replace hs := hs.pure kq_59
      replace hk := hk.pure kq_59
      replace h6 := h6.pure kq_59
      replace h7 := h7.pure kq_59
      replace hw := hw.pure kq_59
      refine WL.loadB Tryz.isAgg66 h7 rfl rfl rfl (?_)
      refine WL.nil ?_
      exact WX.one ⟨rfl, by exact Chg.refl _ _⟩
    apply DQ.step (E' := [(66, _), (68, _)])
    case ho => rfl
    case hs => exact ⟨rfl, rfl, trivial⟩
    case hk => rfl
    case h1 =>
      intro wq_60 kq_60
      refine WL.num rfl rfl (n_and32 _ _ _ _) rfl (?_)
      refine WL.nil ?_
      exact WX.one ⟨rfl, by exact Chg.refl _ _⟩
    apply DQ.step (E' := [(10, _)])
    case ho => rfl
    case hs => exact ⟨rfl, trivial⟩
    case hk => rfl
    case h1 =>
      intro wq_61 kq_61
      refine WL.move rfl rfl (?_)
      refine WL.nil ?_
      exact WX.one ⟨rfl, by exact Chg.refl _ _⟩
    apply DQ.step (E' := [(7, _)])
    case ho => rfl
    case hs => exact ⟨rfl, trivial⟩
    case hk => rfl
    case h1 =>
      intro wq_62 kq_62
      have zs_kq_62 := kq_62.size
      replace hs := hs.pure kq_62
      replace hk := hk.pure kq_62
      replace h6 := h6.pure kq_62
      replace h7 := h7.pure kq_62
      replace hw := hw.pure kq_62
      refine WL.indexArr 2 Tryz.underlying68 Tryz.sizeOf66 rfl rfl ⟨rfl, by decide⟩ rfl (?_)
      refine WL.nil ?_
      exact WX.one ⟨rfl, by exact Chg.refl _ _⟩
    apply DQ.step (E' := [(71, _)])
    case ho => rfl
    case hs => exact ⟨rfl, trivial⟩
    case hk => rfl
    case h1 =>
      intro wq_63 kq_63
      have zs_kq_63 := kq_63.size
      replace hs := hs.pure kq_63
      replace hk := hk.pure kq_63
      replace h6 := h6.pure kq_63
      replace h7 := h7.pure kq_63
      replace hw := hw.pure kq_63
      refine WL.loadB Tryz.isAgg66 h7 rfl rfl rfl (?_)
      refine WL.nil ?_
      exact WX.one ⟨rfl, by exact Chg.refl _ _⟩
    apply DQ.step (E' := [(70, _), (72, _)])
    case ho => rfl
    case hs => exact ⟨rfl, rfl, trivial⟩
    case hk => rfl
    case h1 =>
      intro wq_64 kq_64
      refine WL.num rfl rfl (n_and32 _ _ _ _) rfl (?_)
      refine WL.nil ?_
      exact WX.one ⟨rfl, by exact Chg.refl _ _⟩
    apply DQ.step (E' := [(69, _), (73, _)])
    case ho => rfl
    case hs => exact ⟨rfl, rfl, trivial⟩
    case hk => rfl
    case h1 =>
      intro wq_65 kq_65
      refine WL.num rfl rfl (n_xor32 _ _ _ _) rfl (?_)
      refine WL.nil ?_
      exact WX.one ⟨rfl, by exact Chg.refl _ _⟩
    apply DQ.step (E' := [(7, _)])
    case ho => rfl
    case hs => exact ⟨rfl, trivial⟩
    case hk => rfl
    case h1 =>
      intro wq_66 kq_66
      have zs_kq_66 := kq_66.size
      replace hs := hs.pure kq_66
      replace hk := hk.pure kq_66
      replace h6 := h6.pure kq_66
      replace h7 := h7.pure kq_66
      replace hw := hw.pure kq_66
      refine WL.indexArr 1 Tryz.underlying68 Tryz.sizeOf66 rfl rfl ⟨rfl, by decide⟩ rfl (?_)
      refine WL.nil ?_
      exact WX.one ⟨rfl, by exact Chg.refl _ _⟩
    apply DQ.step (E' := [(75, _)])
    case ho => rfl
    case hs => exact ⟨rfl, trivial⟩
    case hk => rfl
    case h1 =>
      intro wq_67 kq_67
      have zs_kq_67 := kq_67.size
      replace hs := hs.pure kq_67
      replace hk := hk.pure kq_67
      replace h6 := h6.pure kq_67
      replace h7 := h7.pure kq_67
      replace hw := hw.pure kq_67
      refine WL.loadB Tryz.isAgg66 h7 rfl rfl rfl (?_)
      refine WL.nil ?_
      exact WX.one ⟨rfl, by exact Chg.refl _ _⟩
    apply DQ.step (E' := [(7, _)])
    case ho => rfl
    case hs => exact ⟨rfl, trivial⟩
    case hk => rfl
    case h1 =>
      intro wq_68 kq_68
      have zs_kq_68 := kq_68.size
      replace hs := hs.pure kq_68
      replace hk := hk.pure kq_68
      replace h6 := h6.pure kq_68
      replace h7 := h7.pure kq_68
      replace hw := hw.pure kq_68
      refine WL.indexArr 2 Tryz.underlying68 Tryz.sizeOf66 rfl rfl ⟨rfl, by decide⟩ rfl (?_)
      refine WL.nil ?_
      exact WX.one ⟨rfl, by exact Chg.refl _ _⟩
    apply DQ.step (E' := [(77, _)])
    case ho => rfl
    case hs => exact ⟨rfl, trivial⟩
    case hk => rfl
    case h1 =>
      intro wq_69 kq_69
      have zs_kq_69 := kq_69.size
      replace hs := hs.pure kq_69
      replace hk := hk.pure kq_69
      replace h6 := h6.pure kq_69
      replace h7 := h7.pure kq_69
      replace hw := hw.pure kq_69
      refine WL.loadB Tryz.isAgg66 h7 rfl rfl rfl (?_)
      refine WL.nil ?_
      exact WX.one ⟨rfl, by exact Chg.refl _ _⟩
    apply DQ.step (E' := [(76, _), (78, _)])
    case ho => rfl
    case hs => exact ⟨rfl, rfl, trivial⟩
    case hk => rfl
    case h1 =>
      intro wq_70 kq_70
      refine WL.num rfl rfl (n_and32 _ _ _ _) rfl (?_)
      refine WL.nil ?_
      exact WX.one ⟨rfl, by exact Chg.refl _ _⟩
    apply DQ.step (E' := [(74, _), (79, _)])
    case ho => rfl
    case hs => exact ⟨rfl, rfl, trivial⟩
    case hk => rfl
    case h1 =>
      intro wq_71 kq_71
      refine WL.num rfl rfl (n_xor32 _ _ _ _) rfl (?_)
      refine WL.nil ?_
      exact WX.one ⟨rfl, by exact Chg.refl _ _⟩
    apply DQ.step (E' := [(65, _), (80, _)])
    case ho => rfl
    case hs => exact ⟨rfl, rfl, trivial⟩
    case hk => rfl
    case h1 =>
      intro wq_72 kq_72
      refine WL.num rfl rfl (n_add32 _ _ _ _) rfl (?_)
      refine WL.nil ?_
      exact WX.one ⟨rfl, by exact Chg.refl _ _⟩
    apply DQ.step (E' := [(81, _)])
    case ho => rfl
    case hs => exact ⟨rfl, trivial⟩
    case hk => rfl
    case h1 =>
      intro wq_73 kq_73
      refine WL.assign rfl rfl (?_)
      refine WL.nil ?_
      exact WX.one ⟨rfl, by exact Chg.refl _ _⟩
    refine DQ.done (fun _ => ?_)
    refine DL.done (fun we_74 ke_74 => ?_)
    have zs_ke_74 := ke_74.size
    replace hs := hs.pure ke_74
    replace hk := hk.pure ke_74
    replace h6 := h6.pure ke_74
    replace h7 := h7.pure ke_74
    replace hw := hw.pure ke_74
    refine WX.then_normal (WC.region (WL.move rfl rfl (WL.move rfl rfl (WL.num rfl rfl (n_add32 _ _ _ _) rfl (WL.indexArr 0 Tryz.underlying68 Tryz.sizeOf66 rfl rfl ⟨rfl, by decide⟩ rfl (WL.loadB Tryz.isAgg66 h7 rfl rfl rfl (WL.indexArr 1 Tryz.underlying68 Tryz.sizeOf66 rfl rfl ⟨rfl, by decide⟩ rfl (?_))))))))
    refine WL.loadB Tryz.isAgg66 h7 rfl rfl rfl (WL.indexArr 2 Tryz.underlying68 Tryz.sizeOf66 rfl rfl ⟨rfl, by decide⟩ rfl (WL.loadB Tryz.isAgg66 h7 rfl rfl rfl (WL.indexArr 3 Tryz.underlying68 Tryz.sizeOf66 rfl rfl ⟨rfl, by decide⟩ rfl (WL.loadB Tryz.isAgg66 h7 rfl rfl rfl (WL.move rfl rfl (WL.num rfl rfl (n_add32 _ _ _ _) rfl (WL.indexArr 4 Tryz.underlying68 Tryz.sizeOf66 rfl rfl ⟨rfl, by decide⟩ rfl (?_))))))))
    refine WL.loadB Tryz.isAgg66 h7 rfl rfl rfl (WL.indexArr 5 Tryz.underlying68 Tryz.sizeOf66 rfl rfl ⟨rfl, by decide⟩ rfl (WL.loadB Tryz.isAgg66 h7 rfl rfl rfl (WL.indexArr 6 Tryz.underlying68 Tryz.sizeOf66 rfl rfl ⟨rfl, by decide⟩ rfl (WL.loadB Tryz.isAgg66 h7 rfl rfl rfl (WL.bld rfl (bld_68_0_1_2_3_4_5_6_7 _ _ _ _ _ _ _ _) rfl (?_))))))
    refine WL.stores Tryz.sizeOf68 h7 rfl rfl (by simp; done) (by simp [Value.oneCell']; done) (by simp; done) rfl ?_
    intro w_75 hs_75 hn_75 k_75
    have zs_k_75 := k_75.size
    replace hs := hs.chg k_75 (by intro h1; have h2 : _ = _ := h1; exfalso; omega)
    replace hk := hk.chg k_75 (by intro h1; have h2 : _ = _ := h1; exfalso; omega)
    replace h6 := h6.chg k_75 (by intro h1; have h2 : _ = _ := h1; exfalso; omega)
    replace hw := hw.chg k_75 (by intro x h1 h2; have h3 : _ = _ := h2; exfalso; omega)
    replace h7 := hn_75
    refine WL.nil (WX.block_normal (WX.then_normal (WC.region (WL.add64 rfl rfl (by omega) rfl (WL.move rfl rfl (WL.nil (?_)))))))
    refine WX.loop_next (t + 1) ⟨rfl, rfl, rfl, rfl, rfl, trivial⟩ ⟨by omega, hs, hk, h6, ?_, hw⟩ (by show _ - _ < _ - _; omega)
    rw [roundsN, ← hV]
    exact h7
  ·
    refine WL.nil (WX.then_normal (WC.seq (WC.cond_false rfl (WC.exit (WX.then_exit (WX.then_exit (WX.block_here (?_))))))))
    refine WX.then_normal (WC.seq (WC.region (WL.move rfl rfl (WL.nil (WX.then_normal (WC.block (?_)))))))
    have ht64 : t = 64 := by omega
    rw [ht64] at hV
    refine WC.loop (σ := Nat) (fun i => [(0, .pointer (some ⟨gs, 0, none⟩)), (7, .pointer (some ⟨g_3, 0, none⟩)), (103, vi i)])
      (fun i w' => i ≤ 8 ∧ Blk w' gs 68 ((addTo s V i).map v32) ∧ Blk w' g_3 68 (V.list.map v32) ∧ Chg (fun x => x = gs) w w') (fun i => 8 - i) 0 ⟨rfl, rfl, rfl, trivial⟩ ⟨by omega, hs, h7, hw.mono (fun _ _ h => h.elim)⟩ ?_
    clear hs hk h6 h7 hw
    rintro i w9 ⟨hi, hs, h7, hw⟩
    refine WC.seq (WC.region (?_))
    refine WL.lss? rfl rfl rfl (fun h104 => ?_) (fun h104 => ?_)
    ·
      refine WL.nil (WX.then_normal (WC.seq (WC.cond_true rfl (WC.skip (WX.then_normal (WC.seq (WC.block (?_))))))))
      refine WC.seq (WC.region (WL.move rfl rfl (WL.assign rfl rfl (WL.nil (WX.then_normal (?_))))))
      obtain ⟨f1, f2, f3⟩ := addTo_at (s := s) (v := V) (i := i) (by omega)
      have hal := addTo_len s V i (by omega)
      refine WC.draw (fun x => x = gs) [0, 1, 2, 3, 5, 6, 7, 9, 10] [4, 8, 11] mixed rfl rfl (fun wd_5 kd_5 zd_5 => ?_)
      have zs_kd_5 := kd_5.size
      replace hs := hs.pure kd_5
      replace h7 := h7.pure kd_5
      replace hw := hw.pure kd_5
      apply DQ.step (E' := [(0, _)])
      case ho => rfl
      case hs => exact ⟨rfl, trivial⟩
      case hk => rfl
      case h1 =>
        intro wq_7 kq_7
        refine WL.move rfl rfl (?_)
        refine WL.nil ?_
        exact WX.one ⟨rfl, by exact Chg.refl _ _⟩
      apply DQ.step (E' := [(13, _)])
      case ho => rfl
      case hs => exact ⟨rfl, trivial⟩
      case hk => rfl
      case h1 =>
        intro wq_8 kq_8
        refine WL.move rfl rfl (?_)
        refine WL.nil ?_
        exact WX.one ⟨rfl, by exact Chg.refl _ _⟩
      apply DQ.step (E' := [(106, _)])
      case ho => rfl
      case hs => exact ⟨rfl, trivial⟩
      case hk => rfl
      case h1 =>
        intro wq_9 kq_9
        refine WL.nilCheck rfl rfl (?_)
        refine WL.nil ?_
        exact WX.one ⟨rfl, by exact Chg.refl _ _⟩
      apply DQ.step (E' := [(108, _), (107, _)])
      case ho => rfl
      case hs => exact ⟨rfl, rfl, trivial⟩
      case hk => rfl
      case h1 =>
        intro wq_10 kq_10
        have zs_kq_10 := kq_10.size
        replace h7 := h7.chg kq_10 (by intro h1; have h2 : _ = _ := h1; exfalso; omega)
        refine WL.indexArr (i) Tryz.underlying68 Tryz.sizeOf66 rfl rfl ⟨by omega, by omega⟩ rfl ?_
        refine WL.nil ?_
        exact WX.one ⟨rfl, by exact Chg.refl _ _⟩
      apply DQ.step (E' := [(13, _)])
      case ho => rfl
      case hs => exact ⟨rfl, trivial⟩
      case hk => rfl
      case h1 =>
        intro wq_11 kq_11
        refine WL.move rfl rfl (?_)
        refine WL.nil ?_
        exact WX.one ⟨rfl, by exact Chg.refl _ _⟩
      apply DQ.step (E' := [(7, _), (111, _)])
      case ho => rfl
      case hs => exact ⟨rfl, rfl, trivial⟩
      case hk => rfl
      case h1 =>
        intro wq_12 kq_12
        have zs_kq_12 := kq_12.size
        replace h7 := h7.chg kq_12 (by intro h1; have h2 : _ = _ := h1; exfalso; omega)
        refine WL.indexArr (i) Tryz.underlying68 Tryz.sizeOf66 rfl rfl ⟨by omega, by omega⟩ rfl ?_
        refine WL.nil ?_
        exact WX.one ⟨rfl, by exact Chg.refl _ _⟩
      apply DQ.step (E' := [(112, _)])
      case ho => rfl
      case hs => exact ⟨rfl, trivial⟩
      case hk => rfl
      case h1 =>
        intro wq_13 kq_13
        have zs_kq_13 := kq_13.size
        replace h7 := h7.chg kq_13 (by intro h1; have h2 : _ = _ := h1; exfalso; omega)
        refine WL.loadB Tryz.isAgg66 h7 rfl (map_at _ f2) rfl (?_)
        refine WL.nil ?_
        exact WX.one ⟨rfl, by exact Chg.refl _ _⟩
      apply DQ.step (E' := [(106, _)])
      case ho => rfl
      case hs => exact ⟨rfl, trivial⟩
      case hk => rfl
      case h1 =>
        intro wq_14 kq_14
        refine WL.nilCheck rfl rfl (?_)
        refine WL.nil ?_
        exact WX.one ⟨rfl, by exact Chg.refl _ _⟩
      apply DQ.step (E' := [(115, _), (107, _)])
      case ho => rfl
      case hs => exact ⟨rfl, rfl, trivial⟩
      case hk => rfl
      case h1 =>
        intro wq_15 kq_15
        have zs_kq_15 := kq_15.size
        replace h7 := h7.chg kq_15 (by intro h1; have h2 : _ = _ := h1; exfalso; omega)
        refine WL.indexArr (i) Tryz.underlying68 Tryz.sizeOf66 rfl rfl ⟨by omega, by omega⟩ rfl ?_
        refine WL.nil ?_
        exact WX.one ⟨rfl, by exact Chg.refl _ _⟩
      refine DQ.done (fun hd_6 => ?_)
      refine DL.step [(109, _)] rfl ⟨rfl, trivial⟩ rfl (fun wq_16 kq_16 => ?_)
      have zs_kq_16 := kq_16.size
      replace hs := hs.pure kq_16
      replace h7 := h7.pure kq_16
      replace hw := hw.pure kq_16
      replace hd_6 := hd_6.pure kq_16
      refine WL.loadB Tryz.isAgg66 hs rfl (map_at _ f1) rfl (?_)
      refine WL.nil ?_
      refine WX.one ⟨hd_6, ?_⟩
      refine DL.step [(110, _), (113, _)] rfl ⟨rfl, rfl, trivial⟩ rfl (fun wq_17 kq_17 => ?_)
      have zs_kq_17 := kq_17.size
      replace hs := hs.pure kq_17
      replace h7 := h7.pure kq_17
      replace hw := hw.pure kq_17
      replace hd_6 := hd_6.pure kq_17
      refine WL.num rfl rfl (n_add32 _ _ _ _) rfl (?_)
      refine WL.nil ?_
      refine WX.one ⟨hd_6, ?_⟩
      refine DL.step [(116, _), (114, _)] rfl ⟨rfl, rfl, trivial⟩ rfl (fun wq_18 kq_18 => ?_)
      have zs_kq_18 := kq_18.size
      replace hs := hs.pure kq_18
      replace h7 := h7.pure kq_18
      replace hw := hw.pure kq_18
      replace hd_6 := hd_6.pure kq_18
      refine WL.store Tryz.sizeOf66 hs rfl rfl rfl (by simp; omega) ?_
      intro w_19 hs_19 hn_19 k_19
      have zs_k_19 := k_19.size
      replace h7 := h7.chg k_19 (by intro h1; have h2 : _ = _ := h1; exfalso; omega)
      replace hw := hw.chg k_19 (by intro x h1 h2; exact h2)
      replace hd_6 := hd_6.chg k_19 (by intro x h1 h2; exact h2)
      replace hs := hn_19
      refine WL.nil ?_
      refine WX.one0 (v := undef) ⟨hd_6, ?_⟩
      refine DL.done (fun we_20 ke_20 => ?_)
      have zs_ke_20 := ke_20.size
      replace hs := hs.pure ke_20
      replace h7 := h7.pure ke_20
      replace hw := hw.pure ke_20
      replace hd_6 := hd_6.pure ke_20
      refine WX.block_normal (WX.then_normal (WC.region (WL.add64 rfl rfl (by omega) rfl (WL.move rfl rfl (WL.nil (?_))))))
      refine WX.loop_next (i + 1) ⟨rfl, rfl, rfl, trivial⟩ ⟨by omega, ?_, h7, hw⟩ (by show _ - _ < _ - _; omega)
      rw [← f3, List.map_set]
      exact hs
    ·
      refine WL.nil (WX.then_normal (WC.seq (WC.cond_false rfl (WC.exit (WX.then_exit (WX.then_exit (WX.block_here (?_))))))))
      refine WX.ret0 (.inr rfl) Tryz.results37 ?_
      have hi8 : i = 8 := by omega
      subst hi8
      refine ⟨_, rfl, rfl, ?_, hw⟩
      rw [mix_eq, ← hws, ← hV]
      exact hs
end Go.Proofs.YtggecdldnpildaaGreat
namespace Go.Proofs.YtggecdldnpildaaGreat
open Go.RowKit Go.HL
set_option maxRecDepth 100000

/-- block after block -/
def comp (s : V8) (ms : List UInt8) : V8 := if 64 ≤ ms.length then comp (mix s (ms.take 64)) (ms.drop 64) else s
termination_by ms.length
decreasing_by simp; omega
theorem comp_more {s : V8} {ms : List UInt8} (h : 64 ≤ ms.length) : comp s ms = comp (mix s (ms.take 64)) (ms.drop 64) := by rw [comp, if_pos h]
theorem comp_end {s : V8} {ms : List UInt8} (h : ms.length < 64) : comp s ms = s := by rw [comp, if_neg (by omega)]
def bytes4 (x : UInt32) : List UInt8 := [(x >>> UInt32.ofNat 24).toUInt8, (x >>> UInt32.ofNat 16).toUInt8, (x >>> UInt32.ofNat 8).toUInt8, x.toUInt8]
def sumB (b : List UInt8) : List UInt8 := (comp st0 (padded b)).list.flatMap bytes4
theorem sumB_len (b : List UInt8) : (sumB b).length = 32 := by simp [sumB, V8.list, bytes4]
theorem padded_len (b : List UInt8) : (padded b).length % 64 = 0 := by
  simp [padded, be8]
  omega
set_option maxHeartbeats 1000000 in
theorem sum_calls {S : Nat → Prop} {w : World} {ao : Option Addr} {c : Nat} {b : List UInt8} (hr : RSl S w eb ao c b) (hl : b.length ≤ 140737488351232) :
    Calls Tryz.prog 12 [.slice ao b.length c].toArray w (Ret fun v w' => v = .string ⟨(sumB b).toArray⟩ ∧ Chg Nob w w') := by
  replace hr := hr.old
  have hw := Chg.refl Nob w
  refine Calls.of_WC Tryz.func12 rfl Tryz.ntmps12 (by simp) ?_
  refine WC.seq (WC.region (WL.assign rfl rfl (WL.nil (WX.then_normal (WC.seq (WC.region (?_)))))))
  refine WL.call eg_34 rfl rfl (begin_calls _) ?_
  rintro v w1 ⟨rfl, k⟩
  rw [V8.cells_eq]
  have zs_k := k.size
  replace hr := hr.pure k
  replace hw := hw.pure k
  refine WL.call eg_35 rfl rfl (rounds_calls _) ?_
  rintro v w1 ⟨rfl, k⟩
  have zs_k := k.size
  replace hr := hr.pure k
  replace hw := hw.pure k
  refine WL.alloc Tryz.zeroValue68 rfl ?_
  intro g_1 w_1 hge_1 hlt_1 hb_1 k_1
  have zs_k_1 := k_1.size
  replace hr := hr.pure k_1
  replace hw := hw.pure k_1
  refine WL.alloc Tryz.zeroValue70 rfl ?_
  intro g_2 w_2 hge_2 hlt_2 hb_2 k_2
  have zs_k_2 := k_2.size
  replace hr := hr.pure k_2
  replace hw := hw.pure k_2
  replace hb_1 := hb_1.pure k_2
  refine WL.stores Tryz.sizeOf68 hb_1 rfl rfl (by rfl) (by intro u hu; obtain ⟨x, _, rfl⟩ := List.mem_map.1 hu; rfl) (by exact Nat.le_of_ble_eq_true rfl) rfl ?_
  intro w_3 hs_3 hn_3 k_3
  have zs_k_3 := k_3.size
  replace hr := hr.chg k_3 (by intro b h1 h2 h3; have h4 : _ = _ := h3; (try dsimp only at h2); exfalso; omega)
  replace hw := hw.chg k_3 (by intro x h1 h2; have h3 : _ = _ := h2; exfalso; omega)
  replace hb_2 := hb_2.chg k_3 (by intro h1; have h2 : _ = _ := h1; exfalso; omega)
  replace hb_1 := hn_3
  refine WL.stores Tryz.sizeOf70 hb_2 rfl rfl (by rfl) (by intro u hu; obtain ⟨x, _, rfl⟩ := List.mem_map.1 hu; rfl) (by exact Nat.le_of_ble_eq_true rfl) rfl ?_
  intro w_4 hs_4 hn_4 k_4
  have zs_k_4 := k_4.size
  replace hr := hr.chg k_4 (by intro b h1 h2 h3; have h4 : _ = _ := h3; (try dsimp only at h2); exfalso; omega)
  replace hw := hw.chg k_4 (by intro x h1 h2; have h3 : _ = _ := h2; exfalso; omega)
  replace hb_1 := hb_1.chg k_4 (by intro h1; have h2 : _ = _ := h1; exfalso; omega)
  replace hb_2 := hn_4
  refine WL.nil (WX.then_normal (WC.seq (WC.seq (WC.region (WL.move rfl rfl (?_))))))
  have hr2 := hr.old
  refine WL.call eg_36 rfl rfl (pad_calls hr2 hl) ?_
  rintro v w1 ⟨⟨a1, c1, rfl, hq⟩, k⟩
  have zs_k := k.size
  replace hw := hw.pure k
  replace hb_1 := hb_1.pure k
  replace hb_2 := hb_2.pure k
  refine WL.assign rfl rfl (WL.nil (WX.then_normal (WC.block (?_))))
  have e6 : ∀ zs : List Value, zs.length = 64 → List.take 0 zs ++ List.map v32 K256 ++ List.drop (0 + (List.map v32 K256).length) zs = List.map v32 K256 := by
    intro zs hz
    rw [List.drop_eq_nil_of_le (by simp [K256]; omega)]
    simp
  rw [e6 _ rfl] at hb_2
  have hm : RSl (fun x => g_1 < x ∧ g_2 < x) _ eb a1 c1 (padded b) := hq.rsl.mono (fun x h => by constructor <;> omega)
  refine WC.loop (σ := V8 × List UInt8 × Option Addr × Nat) (fun q => [(3, .pointer (some ⟨g_1, 0, none⟩)), (4, .pointer (some ⟨g_2, 0, none⟩)), (5, .slice q.2.2.1 q.2.1.length q.2.2.2)])
    (fun q w' => comp q.1 q.2.1 = comp st0 (padded b) ∧ q.2.1.length % 64 = 0 ∧ q.2.1.length ≤ 140737488355328 ∧ Blk w' g_1 68 q.1.cells ∧ Blk w' g_2 70 (K256.map v32) ∧ RSl (fun x => g_1 < x ∧ g_2 < x) w' eb q.2.2.1 q.2.2.2 q.2.1 ∧ Chg Nob w w') (fun q => q.2.1.length) (st0, padded b, a1, c1) ⟨rfl, rfl, rfl, trivial⟩ ⟨rfl, padded_len b, by simp [padded, be8]; omega, hb_1, hb_2, hm, hw⟩ ?_
  clear hr hw hq hm hb_1 hb_2
  rintro ⟨s, ms, am, cm⟩ w9 ⟨hcm, hm64, hmle, hb1, hb2, hm, hw⟩
  dsimp only at hcm hm64 hmle hb1 hb2 hm hw ⊢
  refine WC.seq (WC.seq (WC.region (WL.move rfl rfl (WL.len Tryz.underlying26 rfl rfl (?_)))))
  refine WL.gtr? rfl rfl rfl (fun h15 => ?_) (fun h15 => ?_)
  ·
    refine WL.nil (WX.then_normal (WC.cond_true rfl (WC.skip (WX.then_normal (WC.seq (WC.block (WC.region (?_))))))))
    refine WL.move rfl rfl (?_)
    refine WL.slice (l := 0) (h := 64) (k := .i64) Tryz.underlying26 Tryz.sizeOf5 hm rfl (.inr ⟨rfl, rfl⟩) (.inl rfl) (by constructor <;> omega) rfl ?_
    intro a_hc c_hc hc n_hc
    rw [List.drop_zero] at hc ⊢
    refine WL.call eg_37 rfl rfl (mix_calls hb1 hb2 hc (by simp; omega) (by omega)) ?_
    rintro v w1 ⟨rfl, hb1', k⟩
    have zs_k := k.size
    replace hb2 := hb2.chg k (by intro h1; have h2 : _ = _ := h1; exfalso; omega)
    replace hm := hm.chg k (by intro b h1 h2 h3; have h4 : _ = _ := h3; (try dsimp only at h2); exfalso; omega)
    replace hw := hw.chg k (by intro x h1 h2; have h3 : _ = _ := h2; exfalso; omega)
    replace hb1 := hb1'
    refine WL.nil (WX.block_normal (WX.then_normal (WC.region (WL.move rfl rfl (?_)))))
    refine WL.slice (l := 64) (h := ms.length) (j := .i64) Tryz.underlying26 Tryz.sizeOf5 hm rfl (.inl rfl) (.inr ⟨rfl, rfl⟩) (by constructor <;> omega) rfl ?_
    intro a_hm2 c_hm2 hm2 n_hm2
    refine WL.assign rfl rfl (WL.nil (?_))
    rw [List.take_length] at hm2 ⊢
    have hml : 64 ≤ ms.length := by omega
    refine WX.loop_next (mix s (ms.take 64), ms.drop 64, a_hm2, c_hm2) ⟨rfl, rfl, rfl, trivial⟩ ⟨by rw [← hcm, comp_more hml], by simp; omega, by simp; omega, hb1, hb2, hm2, hw⟩ (by show (ms.drop 64).length < ms.length; simp; omega)
  ·
    refine WL.nil (WX.then_normal (WC.cond_false rfl (WC.exit (WX.then_exit (WX.then_exit (WX.block_here (WX.then_normal (?_))))))))
    refine WC.seq (WC.region (?_))
    have zw9 := hw.size
    refine WL.make (e := eb) (0 : UInt8) 0 32 Tryz.underlying26 info_5 rfl rfl rfl ⟨rfl, rfl, by decide⟩ (by decide) rfl ?_
    intro gq wq hq kq zq eq_
    rw [show List.replicate 0 (0 : UInt8) = [] from rfl] at hq ⊢
    have zs_kq := kq.size
    replace hb1 := hb1.pure kq
    replace hb2 := hb2.pure kq
    replace hm := hm.pure kq
    replace hw := hw.pure kq
    refine WL.assign rfl rfl (WL.nil (WX.then_normal (WC.seq (WC.seq (WC.region (WL.loadsB Tryz.isAgg68 Tryz.sizeOf68 hb1 rfl (by rfl) rfl (WL.move rfl rfl (?_))))))))
    refine WL.nil (WX.then_normal (WC.block (?_)))
    have hs0 : s = comp st0 (padded b) := by rw [← hcm, comp_end (by omega)]
    have hq0 : Row (w.heap.size ≤ ·) wq 5 eb (some ⟨gq, 0, none⟩) 32 ([] : List UInt8) := hq.mono (fun b h => by omega)
    refine WC.loop (σ := Nat × Option Addr × Nat) (fun q => [(22, .agg s.cells.toArray), (23, vi q.1), (6, .slice q.2.1 ((s.list.take q.1).flatMap bytes4).length q.2.2)])
      (fun q w' => q.1 ≤ 8 ∧ Row (w.heap.size ≤ ·) w' 5 eb q.2.1 q.2.2 ((s.list.take q.1).flatMap bytes4) ∧ Chg Nob w w') (fun q => 8 - q.1) (0, some ⟨gq, 0, none⟩, 32) ⟨rfl, rfl, rfl, trivial⟩ ⟨by simp, by simpa using hq0, hw⟩ ?_
    clear hm hb1 hb2 hq hw hq0
    rintro ⟨i, ai, ci⟩ w8 ⟨hi, hq, hw⟩
    dsimp only at hi hq hw ⊢
    have zw := hw.size
    have hlen : ((s.list.take i).flatMap bytes4).length = 4 * i := by
      have h9 : i = 0 ∨ i = 1 ∨ i = 2 ∨ i = 3 ∨ i = 4 ∨ i = 5 ∨ i = 6 ∨ i = 7 ∨ i = 8 := by omega
      rcases h9 with rfl | rfl | rfl | rfl | rfl | rfl | rfl | rfl | rfl <;> rfl
    refine WC.seq (WC.region (?_))
    refine WL.lss? rfl rfl rfl (fun h24 => ?_) (fun h24 => ?_)
    ·
      refine WL.nil (WX.then_normal (WC.seq (WC.cond_true rfl (WC.skip (WX.then_normal (WC.seq (WC.block (?_))))))))
      refine WC.seq (WC.region (?_))
      have fv := getD_at (xs := s.list) (i := i) (by show i < 8; omega)
      refine WL.indexV i Tryz.underlying68 Tryz.sizeOf66 Tryz.isAgg66 rfl rfl ⟨rfl, by omega⟩ (map_at v32 fv) rfl ?_
      refine WL.assign rfl rfl (WL.nil (WX.then_normal (WC.region (WL.move rfl rfl (WL.move rfl rfl (WL.num rfl rfl (n_shr32 _ _ _ _ 24 (by decide)) rfl (WL.c_u32_u8 Tryz.underlying66 Tryz.underlying5 rfl rfl (?_))))))))
      refine WL.move rfl rfl (WL.num rfl rfl (n_shr32 _ _ _ _ 16 (by decide)) rfl (WL.c_u32_u8 Tryz.underlying66 Tryz.underlying5 rfl rfl (WL.move rfl rfl (WL.num rfl rfl (n_shr32 _ _ _ _ 8 (by decide)) rfl (WL.c_u32_u8 Tryz.underlying66 Tryz.underlying5 rfl rfl (WL.move rfl rfl (WL.c_u32_u8 Tryz.underlying66 Tryz.underlying5 rfl rfl (?_))))))))
      refine WL.build (e := eb) (bytes4 (s.list.getD i 0)) Tryz.underlying26 Tryz.sizeOf5 Tryz.zeroValue5 rfl rfl rfl (by simp [Value.cells] <;> rfl) (by decide) rfl ?_
      intro a_hn w_hn hn l_hn z_hn k_hn
      have zs_k_hn := k_hn.size
      replace hq := hq.pure k_hn
      replace hw := hw.pure k_hn
      refine WL.append (e := eb) info_5 rfl Tryz.underlying26 rfl rfl hq (hn.rsl.src Tryz.underlying26) (by (try simp only [List.length_append, List.length_cons, List.length_nil] at *); omega) (by intro b hb; first | (apply hS; omega) | ((try dsimp only); omega)) rfl ?_
      intro a_hq2 c_hq2 w_hq2 hq2 g_hq2 n_hq2
      have z_hq2 := g_hq2.chg.size
      have zs_g_hq2_chg := g_hq2.chg.size
      replace hw := hw.chg g_hq2.chg (by intros; exfalso; (try dsimp only at *); omega)
      refine WL.assign rfl rfl (WL.nil (WX.block_normal (WX.then_normal (WC.region (WL.add64 rfl rfl (by omega) rfl (WL.move rfl rfl (WL.nil (?_))))))))
      have e1 : (s.list.take (i + 1)).flatMap bytes4 = (s.list.take i).flatMap bytes4 ++ bytes4 (s.list.getD i 0) := by
        rw [List.take_add_one, fv, List.flatMap_append]
        simp
      refine WX.loop_next (i + 1, a_hq2, c_hq2) ⟨rfl, rfl, ?_, trivial⟩ ⟨by dsimp only; omega, ?_, hw⟩ (by show _ - _ < _ - _; omega)
      ·
        dsimp only; rw [e1]; rfl
      ·
        dsimp only; rw [e1]; exact hq2
    ·
      refine WL.nil (WX.then_normal (WC.seq (WC.cond_false rfl (WC.exit (WX.then_exit (WX.then_exit (WX.block_here (?_))))))))
      refine WX.then_normal (WC.seq (WC.region (WL.move rfl rfl (WL.toStr Tryz.underlying26 Tryz.underlying5 Tryz.underlying9 hq.rsl rfl rfl (WL.assign rfl rfl (WL.nil (WX.then_normal (?_))))))))
      refine WC.ret (?_)
      refine WX.ret1 (.inl rfl) Tryz.results12 rfl ?_
      have h8 : i = 8 := by omega
      subst h8
      rw [hs0]
      exact ⟨_, rfl, rfl, hw⟩
end Go.Proofs.YtggecdldnpildaaGreat
/-! plain: what is read of a block -/
namespace Go.HL
theorem find_append {α : Type} (p : α → Bool) (a b : List α) : (a ++ b).find? p = match a.find? p with | some x => some x | none => b.find? p := by
  rw [List.find?_append]
  cases a.find? p <;> rfl
theorem combos_drop {p : List Int → Bool} {rest set : List Int} {n i : Nat} {d : Int} (hd : rest[i]? = some d) (h : (combos (rest.drop (i + 1)) n (set ++ [d])).find? p = none) : (combos (rest.drop i) (n + 1) set).find? p = (combos (rest.drop (i + 1)) (n + 1) set).find? p := by
  obtain ⟨hi, rfl⟩ := List.getElem?_eq_some_iff.1 hd
  rw [List.drop_eq_getElem_cons hi, combos, find_append, h]
theorem combos_hit {p : List Int → Bool} {rest set out : List Int} {n i : Nat} {d : Int} (hd : rest[i]? = some d) (h : (combos (rest.drop (i + 1)) n (set ++ [d])).find? p = some out) : (combos (rest.drop i) (n + 1) set).find? p = some out := by
  obtain ⟨hi, rfl⟩ := List.getElem?_eq_some_iff.1 hd
  rw [List.drop_eq_getElem_cons hi, combos, find_append, h]
def setsA (rest : List Int) (m : Nat) : List (List Int) := (List.range m).flatMap fun n => combos rest n []
theorem setsA_succ (rest : List Int) (m : Nat) : setsA rest (m + 1) = setsA rest m ++ combos rest m [] := by
  rw [setsA, List.range_succ, List.flatMap_append]
  simp [setsA]
/-- nothing is tried ahead of the empty set -/
theorem setsA_first {p : List Int → Bool} {rest : List Int} {m : Nat} (hm : 0 < m) (h : p [] = true) : (setsA rest m).find? p = some [] := by
  induction m with
  | zero => omega
  | succ m ih =>
    rw [setsA_succ, find_append]
    rcases Nat.eq_zero_or_pos m with rfl | h1
    · simp [setsA, combos_zero, h]
    · rw [ih h1]
theorem setsA_up {p : List Int → Bool} {rest : List Int} {m n : Nat} {t : List Int} (h : (setsA rest m).find? p = some t) (hn : m ≤ n) : (setsA rest n).find? p = some t := by
  induction n with
  | zero =>
    have : m = 0 := by omega
    subst this
    exact h
  | succ n ih =>
    rcases Nat.lt_or_ge n m with h1 | h1
    · have : m = n + 1 := by omega
      subst this
      exact h
    · rw [setsA_succ, find_append, ih h1]
end Go.HL
namespace Go.Proofs.YtggecdldnpildaaGreat
open Go.RowKit Go.HL
set_option maxRecDepth 100000

/-- what a block is read as, without some drives -/
noncomputable def bytA (s : RA) (f a size : Nat) (bad : List Int) : List UInt8 := (datA (strA s f a size) bad).take size
noncomputable def fitA (s : RA) (f a size : Nat) (sum : ByteArray) (bad : List Int) : Bool := decide ((⟨(sumB (bytA s f a size bad)).toArray⟩ : ByteArray) = sum)
abbrev bdrv (s : RA) (a size : Nat) : List Int := drvA s.dn a (costA s.dn (secsA size))
abbrev bgon (s : RA) (a size : Nat) : List Int := gonA s (bdrv s a size)
abbrev brst (s : RA) (a size : Nat) : List Int := (bdrv s a size).filter fun d => !decide (d ∈ bgon s a size)
noncomputable def rdA (s : RA) (f a size : Nat) (sum : ByteArray) : Option (List Int) := (setsA (brst s a size) (4 - (bgon s a size).length)).find? fun t => fitA s f a size sum (srt (bgon s a size ++ t))
theorem layA_len (n : Nat) (b : List UInt8) (_hn : 4 ≤ n) : (layA n b).length = costA n (secsA b.length) := by rw [layA, layR_len]; rfl
/-- where all that has failed is gone, just that is left out -/
theorem intact_gone {s : RA} (h : s.ok) (h5 : 5 ≤ s.dn) {f a : Nat} {b : List UInt8} (hI : Intact s f a (layA s.dn b) (bgon s a b.length)) (h3 : (bgon s a b.length).length ≤ 3) :
    rdA s f a b.length ⟨(sumB b).toArray⟩ = some [] ∧ srt (bgon s a b.length ++ []) = bgon s a b.length ∧ bytA s f a b.length (bgon s a b.length) = b := by
  have hs : srt (bgon s a b.length ++ []) = bgon s a b.length := by rw [List.append_nil, bgon, bdrv, gonA_sorted]
  have hb : bytA s f a b.length (bgon s a b.length) = b := datA_is h (by omega) h3 hI
  refine ⟨setsA_first (by omega) ?_, hs, hb⟩
  show fitA s f a b.length _ (srt (bgon s a b.length ++ [])) = true
  rw [hs, fitA, hb, decide_eq_true rfl]
/-! what befalls a rack -/
theorem lose_held2 (s : RA) {d : Int} {b : Bool} {q : Pl} (hq : q.1 ≠ d) : heldS (loseS s d b) q = heldS s q := by
  have key : ∀ (n : Nat) (ws : List (Pl × List UInt8)), ws.length = n → newV (stay d ws) q = newV ws q := by
    intro n
    induction n with
    | zero =>
      intro ws h
      have : ws = [] := List.eq_nil_of_length_eq_zero h
      subst this
      rfl
    | succ n ih =>
      intro ws h
      obtain ⟨ws', x, rfl⟩ : ∃ ws' x, ws = ws' ++ [x] := ⟨ws.dropLast, ws.getLast (by intro e; subst e; cases h), (List.dropLast_concat_getLast _).symm⟩
      have ih := ih ws' (by simpa using h)
      have e1 : stay d (ws' ++ [x]) = if x.1.1 = d then stay d ws' else stay d ws' ++ [x] := by
        unfold stay
        rw [List.filter_append]
        by_cases hx : x.1.1 = d <;> simp [hx]
      rw [e1, newV_snoc (b := x.2)]
      split
      · rename_i hx
        rw [ih, if_neg (fun e => hq (by rw [e, hx]))]
      · rw [newV_snoc (b := x.2), ih]
  rw [heldS_eq, heldS_eq, show (loseS s d b).waits = stay d s.waits from rfl, key _ _ rfl]
  rfl
theorem Intact.mono {s : RA} {f a : Nat} {cells : List (List UInt8)} {bad bad' : List Int} (h : Intact s f a cells bad) (k : ∀ d ∈ bad, d ∈ bad') : Intact s f a cells bad' := fun j c hc hn => h j c hc (fun hm => hn (k _ hm))
theorem lose_intact {s : RA} (h : s.ok) {f a : Nat} {cells : List (List UInt8)} {bad : List Int} (hI : Intact s f a cells bad) {d : Int} (hd : isS s d) (hm : d ∈ bad) : Intact (loseS s d true) f a cells bad := fun j c hc hn => by
  have hn' : (((a + j) % s.dn : Nat) : Int) ∉ bad := hn
  obtain ⟨h1, h2⟩ := hI j c hc hn'
  have hne : (((a + j) % s.dn : Nat) : Int) ≠ d := fun e => hn' (e ▸ hm)
  exact ⟨by show goneS (loseS s d true) (((a + j) % s.dn : Nat) : Int) = false; rw [loseS_gone h hd true (by omega), if_neg hne, h1], by show heldS (loseS s d true) (plN s.dn f (a + j)) = c; rw [lose_held2 s (q := plN s.dn f (a + j)) hne, h2]⟩
theorem all_intact {s : RA} {f a : Nat} {cells : List (List UInt8)} {bad : List Int} (hI : Intact s f a cells bad) : Intact (allS s) f a cells bad := fun j c hc hn => by
  have hn' : (((a + j) % s.dn : Nat) : Int) ∉ bad := hn
  obtain ⟨h1, h2⟩ := hI j c hc hn'
  exact ⟨h1, by show heldS (allS s) (plN s.dn f (a + j)) = c; rw [allS_held, h2]⟩
end Go.Proofs.YtggecdldnpildaaGreat
