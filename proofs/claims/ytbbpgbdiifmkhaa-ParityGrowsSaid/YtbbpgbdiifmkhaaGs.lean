import Derived.Test.YtbbpgbdiifmkhaaGr
import Derived.Test.YtbbpgbdiifmkhaaHs
namespace Go.Proofs.Ytbbpgbdiifmkhaa
open Go.RowKit Go.HL

theorem addRow_zero {acc : List UInt8} {n : Nat} {m : UInt8} (h : acc.length = n) : addRow acc (List.replicate n 0) m = acc := by
  apply List.ext_getElem?
  intro k
  rcases Nat.lt_or_ge k n with hk | hk
  · have h1 : acc[k]? = some acc[k] := List.getElem?_eq_getElem (by omega)
    have h2 : (List.replicate n (0 : UInt8))[k]? = some 0 := by rw [List.getElem?_replicate, if_pos hk]
    rw [addRow_at h1 h2, h1, mul_zero_r, UInt8.xor_zero]
  · rw [List.getElem?_eq_none (by rw [addRow_len (by rw [List.length_replicate, h])]; omega), List.getElem?_eq_none (by omega)]
theorem prow_app {wt : Nat → UInt8} {cols more : List (List UInt8)} {n : Nat} : ∀ {i : Nat}, i ≤ cols.length → prow wt (cols ++ more) n i = prow wt cols n i := by
  intro i
  induction i with
  | zero => intro _; rfl
  | succ i ih =>
    intro hi
    rw [prow, prow, ih (by omega), show (cols ++ more).getD i [] = cols.getD i [] from by rw [List.getD_eq_getElem?_getD, List.getElem?_append_left (by omega), ← List.getD_eq_getElem?_getD]]
theorem three_grow {cols : List (List UInt8)} {n : Nat} (h : ∀ d ∈ cols, d.length = n) : three (cols ++ [List.replicate n 0]) n (cols.length + 1) = three cols n cols.length := by
  have hq : ∀ q, prow (wtq q) (cols ++ [List.replicate n 0]) n (cols.length + 1) = prow (wtq q) cols n cols.length := by
    intro q
    rw [prow, prow_app (Nat.le_refl _), show (cols ++ [List.replicate n (0 : UInt8)]).getD cols.length [] = List.replicate n (0 : UInt8) from by rw [List.getD_eq_getElem?_getD, List.getElem?_append_right (Nat.le_refl _), Nat.sub_self]; rfl]
    exact addRow_zero (prow_len h (Nat.le_refl _))
  simp only [three, hq]
theorem wtq_zero {q : Nat} : wtq q 0 = 1 ∨ 2 < q := by
  rcases Nat.lt_or_ge 2 q with h | h
  · exact .inr h
  · left
    rw [wtq_G h, Nat.mul_zero, G_zero]
theorem addRow_one {c : List UInt8} {n : Nat} (h : c.length = n) : addRow (List.replicate n 0) c 1 = c := by
  apply List.ext_getElem?
  intro k
  rcases Nat.lt_or_ge k n with hk | hk
  · have h1 : c[k]? = some c[k] := List.getElem?_eq_getElem (by omega)
    have h2 : (List.replicate n (0 : UInt8))[k]? = some 0 := by rw [List.getElem?_replicate, if_pos hk]
    rw [addRow_at h2 h1, h1, mul_comm, mul_one, UInt8.zero_xor]
  · rw [List.getElem?_eq_none (by rw [addRow_len (by rw [List.length_replicate, h]), List.length_replicate]; omega), List.getElem?_eq_none (by omega)]
theorem three_one {c : List UInt8} {n : Nat} (h : c.length = n) : three [c] n 1 = [c, c, c] := by
  have hq : ∀ q, q ≤ 2 → prow (wtq q) [c] n 1 = c := by
    intro q hq
    rcases wtq_zero (q := q) with h1 | h1
    · show addRow (List.replicate n 0) c (wtq q 0) = c
      rw [h1, addRow_one h]
    · omega
  simp only [three, hq 0 (by decide), hq 1 (by decide), hq 2 (by decide)]
theorem RS.grown {S1 S2 S3 : Nat → Prop} {w : World} {T U : TypeId} {ao aa : Option Addr} {c ca g m : Nat} {ra : List Rw} {xs : List UInt8} (hb : Row S1 w T erow ao c (ra ++ [⟨some ⟨g, 0, none⟩, m, xs⟩])) (ha : RS S2 w aa ca ra) (hg : Row S3 w U eb (some ⟨g, 0, none⟩) m xs) :
    RS (fun _ => True) w ao c (ra ++ [⟨some ⟨g, 0, none⟩, m, xs⟩]) := by
  refine ⟨hb.rsl.mono (fun _ _ => trivial), fun r hr => ?_⟩
  rcases List.mem_append.1 hr with h1 | h1
  · exact (ha.inner r h1).mono (fun _ _ => trivial)
  · simp at h1
    subst h1
    exact hg.rsl.mono (fun _ _ => trivial)
theorem RS.one {S1 S2 : Nat → Prop} {w : World} {ao : Option Addr} {c : Nat} {r : Rw} (hb : RSl S1 w erow ao c [r]) (h : RSl S2 w eb r.ao r.cap r.xs) : RS (fun _ => True) w ao c [r] := by
  refine ⟨hb.mono (fun _ _ => trivial), fun q hq => ?_⟩
  simp at hq
  subst hq
  exact h.mono (fun _ _ => trivial)
theorem RS.three' {S1 S2 : Nat → Prop} {w : World} {T : TypeId} {ao : Option Addr} {c : Nat} {r : Rw} (hb : Row S1 w T erow ao c [r, r, r]) (h : RSl S2 w eb r.ao r.cap r.xs) : RS (fun _ => True) w ao c [r, r, r] := by
  refine ⟨hb.rsl.mono (fun _ _ => trivial), fun q hq => ?_⟩
  simp at hq
  subst hq
  exact h.mono (fun _ _ => trivial)
theorem take_one {rs : List Rw} {r : Rw} (h : rs[0]? = some r) : (rs.take 1).drop 0 = [r] := by
  cases rs with
  | nil => simp at h
  | cons a t =>
    simp at h
    subst h
    rfl
theorem parityGrows_bad {w : World} {aa : Option Addr} {ca : Nat} {ra : List Rw} (ha : RS (· < w.heap.size) w aa ca ra) (la : bounded ra) (hno : ¬ okM ra) :
    Calls Try.prog 4 [.slice aa ra.length ca].toArray w (Ret fun v w' => v = .bool true ∧ Chg Nob w w') := by
  have hw := Chg.refl Nob w
  refine Calls.of_WC Try.func4 rfl Try.ntmps4 (by simp) ?_
  refine WC.seq (WC.region (WL.assign rfl rfl (WL.nil (WX.then_normal (WC.seq (WC.seq (WC.region (?_))))))))
  refine WL.call eg_7 rfl rfl (known3_calls _) ?_
  rintro v w0 ⟨rfl, k0⟩
  have zs_k0 := k0.size
  replace ha := ha.pure k0
  replace hw := hw.pure k0
  refine WL.not rfl rfl (WL.move rfl rfl (WL.want rfl rfl rfl (WL.move rfl rfl (WL.want rfl rfl rfl (?_)))))
  refine WL.call eg_8 rfl rfl (small_calls ha la) ?_
  rintro v w0 ⟨⟨s1, rfl⟩, k0⟩
  have zs_k0 := k0.size
  replace ha := ha.pure k0
  replace hw := hw.pure k0
  rcases s1 with _ | _
  ·
    refine WL.want rfl rfl rfl (WL.not rfl rfl (WL.pickF rfl rfl rfl (WL.nil (WX.then_normal (WC.cond_true rfl (WC.seq (WC.region (?_))))))))
    refine WL.call eg_7 rfl rfl (known3_calls _) ?_
    rintro v w0 ⟨rfl, k0⟩
    have zs_k0 := k0.size
    replace ha := ha.pure k0
    replace hw := hw.pure k0
    refine WL.assign rfl rfl (WL.nil (WX.then_normal (WC.ret (WX.then_ret (?_)))))
    refine WX.ret1 (.inl rfl) Try.results4 rfl ?_
    exact ⟨_, rfl, rfl, hw⟩
  ·
    refine WL.want rfl rfl rfl (WL.not rfl rfl (WL.pickF rfl rfl rfl (WL.nil (WX.then_normal (WC.cond_false rfl (WC.skip (WX.then_normal (?_))))))))
    refine WC.seq (WC.region (WL.move rfl rfl (?_)))
    refine WL.call eg_9 rfl rfl (make_bad ha la.1 hno) ?_
    rintro v w0 ⟨rfl, k0⟩
    have zs_k0 := k0.size
    replace ha := ha.pure k0
    replace hw := hw.pure k0
    refine WL.move rfl rfl (WL.extract rfl rfl rfl (WL.extract rfl rfl rfl (WL.assign rfl rfl (WL.assign rfl rfl (WL.nil (WX.then_normal (WC.seq (?_))))))))
    refine WC.seq (WC.region (WL.move rfl rfl (?_)))
    refine WL.neq rfl rfl rfl ?_
    rw [show decide ((1 : Int) ≠ 0) = true from rfl]
    refine WL.move rfl rfl (WL.pass rfl rfl rfl rfl (WL.pass rfl rfl rfl rfl (WL.pass rfl rfl rfl rfl (WL.pickT rfl rfl rfl (WL.nil (WX.then_normal (WC.cond_true rfl (?_))))))))
    refine WC.seq (WC.region (WL.assign rfl rfl (WL.nil (WX.then_normal (WC.ret (WX.then_ret (?_)))))))
    refine WX.ret1 (.inl rfl) Try.results4 rfl ?_
    exact ⟨_, rfl, rfl, hw⟩
set_option maxHeartbeats 8000000 in
theorem parityGrows_good {w : World} {aa : Option Addr} {ca : Nat} {ra : List Rw} (ha : RS (· < w.heap.size) w aa ca ra) (la : bounded ra) (n : Nat) (h13 : ra.length ≤ 13) (hn : lenC (xss ra) = (n : Int)) :
    Calls Try.prog 4 [.slice aa ra.length ca].toArray w (Ret fun v w' => v = .bool true ∧ Chg Nob w w') := by
  have hw := Chg.refl Nob w
  have hpos := okM_pos (rs := ra) ⟨h13, by omega⟩
  obtain ⟨m0, hm, hn1, hn2, hne, hall⟩ := lenC_some (cols := xss ra) (by omega)
  have hmn : m0 = n := by omega
  subst hmn
  have hxl := xss_len ra
  obtain ⟨⟨rao, rcap, rxs⟩, hr0⟩ : ∃ r0, ra[0]? = some r0 := ⟨_, List.getElem?_eq_getElem hpos⟩
  have hrl : rxs.length = m0 := hall _ (xss_mem hr0)
  refine Calls.of_WC Try.func4 rfl Try.ntmps4 (by simp) ?_
  refine WC.seq (WC.region (WL.assign rfl rfl (WL.nil (WX.then_normal (WC.seq (WC.seq (WC.region (?_))))))))
  refine WL.call eg_7 rfl rfl (known3_calls _) ?_
  rintro v w0 ⟨rfl, k0⟩
  have zs_k0 := k0.size
  replace ha := ha.pure k0
  replace hw := hw.pure k0
  refine WL.not rfl rfl (WL.move rfl rfl (WL.want rfl rfl rfl (WL.move rfl rfl (WL.want rfl rfl rfl (?_)))))
  refine WL.call eg_8 rfl rfl (small_calls ha la) ?_
  rintro v w0 ⟨⟨s1, rfl⟩, k0⟩
  have zs_k0 := k0.size
  replace ha := ha.pure k0
  replace hw := hw.pure k0
  rcases s1 with _ | _
  ·
    refine WL.want rfl rfl rfl (WL.not rfl rfl (WL.pickF rfl rfl rfl (WL.nil (WX.then_normal (WC.cond_true rfl (WC.seq (WC.region (?_))))))))
    refine WL.call eg_7 rfl rfl (known3_calls _) ?_
    rintro v w0 ⟨rfl, k0⟩
    have zs_k0 := k0.size
    replace ha := ha.pure k0
    replace hw := hw.pure k0
    refine WL.assign rfl rfl (WL.nil (WX.then_normal (WC.ret (WX.then_ret (?_)))))
    refine WX.ret1 (.inl rfl) Try.results4 rfl ?_
    exact ⟨_, rfl, rfl, hw⟩
  ·
    refine WL.want rfl rfl rfl (WL.not rfl rfl (WL.pickF rfl rfl rfl (WL.nil (WX.then_normal (WC.cond_false rfl (WC.skip (WX.then_normal (?_))))))))
    refine WC.seq (WC.region (WL.move rfl rfl (?_)))
    refine WL.call eg_9 rfl rfl (make_rs ha h13 hn) ?_
    rintro v w0 ⟨⟨ap, cp, ps, rfl, hp, hps⟩, k0⟩
    have zs_k0 := k0.size
    replace ha := ha.pure k0
    replace hw := hw.pure k0
    replace hp := hp.old
    refine WL.move rfl rfl (WL.extract rfl rfl rfl (WL.extract rfl rfl rfl (WL.assign rfl rfl (WL.assign rfl rfl (WL.nil (WX.then_normal (WC.seq (?_))))))))
    refine WC.seq (WC.region (WL.move rfl rfl (?_)))
    refine WL.neq rfl rfl rfl ?_
    rw [show decide ((0 : Int) ≠ 0) = false from rfl]
    refine WL.move rfl rfl (WL.want rfl rfl rfl (WL.move rfl rfl (WL.want rfl rfl rfl (WL.len Try.underlying22 rfl rfl (WL.want rfl rfl rfl (?_))))))
    refine WL.geq? rfl rfl rfl (fun h27 => ?_) (fun h27 => ?_)
    ·
      refine WL.pickF rfl rfl rfl (WL.nil (WX.then_normal (WC.cond_true rfl (WC.seq (WC.region (WL.assign rfl rfl (WL.nil (?_))))))))
      refine WX.then_normal (WC.ret (WX.then_ret (?_)))
      refine WX.ret1 (.inl rfl) Try.results4 rfl ?_
      exact ⟨_, rfl, rfl, hw⟩
    ·
      refine WL.pickF rfl rfl rfl (WL.nil (WX.then_normal (WC.cond_false rfl (WC.skip (WX.then_normal (WC.seq (?_)))))))
      have zw0 := hw.size
      obtain ⟨b1, o1, rfl⟩ := ha.outer.place hr0
      refine WC.drawM (Nob) [1, 3, 4, 5, 6] [0, 2, 7, 8, 9, 10, 11, 12, 13, 14, 15] mixed rfl rfl (fun wd_1 kd_1 zd_1 => ?_)
      have zs_kd_1 := kd_1.size
      replace ha := ha.pure kd_1
      replace hw := hw.pure kd_1
      replace hp := hp.pure kd_1
      apply DQT.step (E' := [(0, _)])
      case ho => rfl
      case hs => exact ⟨rfl, trivial⟩
      case hk => rfl
      case h1 =>
        intro wq_3 kq_3
        refine WL.move rfl rfl (?_)
        refine WL.nil ?_
        exact WX.one ⟨rfl, by first | exact Chg.refl _ _ | assumption⟩
      apply DQT.step (E' := [(0, _)])
      case ho => rfl
      case hs => exact ⟨rfl, trivial⟩
      case hk => rfl
      case h1 =>
        intro wq_4 kq_4
        refine WL.move rfl rfl (?_)
        refine WL.nil ?_
        exact WX.one ⟨rfl, by first | exact Chg.refl _ _ | assumption⟩
      apply DQT.step (E' := [(33, _)])
      case ho => rfl
      case hs => exact ⟨rfl, trivial⟩
      case hk => rfl
      case h1 =>
        intro wq_5 kq_5
        have zs_kq_5 := kq_5.size
        replace ha := ha.pure kq_5
        replace hw := hw.pure kq_5
        replace hp := hp.pure kq_5
        refine WL.indexC ha.outer Try.underlying22 Try.sizeOf28 rfl rfl ⟨hr0, rfl⟩ rfl ?_
        refine WL.nil ?_
        exact WX.one ⟨rfl, by first | exact Chg.refl _ _ | assumption⟩
      apply DQT.step (E' := [(34, _)])
      case ho => rfl
      case hs => exact ⟨rfl, trivial⟩
      case hk => rfl
      case h1 =>
        intro wq_6 kq_6
        have zs_kq_6 := kq_6.size
        replace ha := ha.pure kq_6
        replace hw := hw.pure kq_6
        replace hp := hp.pure kq_6
        refine WL.load Try.isAgg28 rfl ((ha.outer.cellsAt hr0) 0 _ rfl) rfl (?_)
        refine WL.nil ?_
        exact WX.one ⟨rfl, by first | exact Chg.refl _ _ | assumption⟩
      apply DQT.step (E' := [(35, _)])
      case ho => rfl
      case hs => exact ⟨rfl, trivial⟩
      case hk => rfl
      case h1 =>
        intro wq_7 kq_7
        have zs_kq_7 := kq_7.size
        replace ha := ha.pure kq_7
        replace hw := hw.pure kq_7
        replace hp := hp.pure kq_7
        refine WL.len Try.underlying28 rfl rfl (?_)
        refine WL.nil ?_
        exact WX.one ⟨rfl, by first | exact Chg.refl _ _ | assumption⟩
      refine DQT.done (fun hd_2 => ?_)
      refine ⟨?_, trivial, ?_, trivial, trivial, trivial, trivial, trivial, trivial, trivial, trivial, trivial⟩
      refine DT.step [] rfl trivial rfl (fun wq_8 kq_8 => ?_)
      have zs_kq_8 := kq_8.size
      replace ha := ha.pure kq_8
      replace hw := hw.pure kq_8
      replace hp := hp.pure kq_8
      replace hd_2 := hd_2.pure kq_8
      refine WL.build (e := erow) [] Try.underlying22 Try.sizeOf28 Try.zeroValue28 rfl rfl rfl (by first | (simp [Value.cells]; done) | (simp [Value.cells] <;> rfl) | (simp [Value.cells, eb, ei, es, ebool, e32, e64]; done)) (by decide) rfl ?_
      intro a_b0 w_b0 b0 l_b0 z_b0 k_b0
      have zs_k_b0 := k_b0.size
      replace ha := ha.pure k_b0
      replace hw := hw.pure k_b0
      replace hp := hp.pure k_b0
      replace hd_2 := hd_2.pure k_b0
      refine WL.nil ?_
      refine WX.one ⟨hd_2, ?_⟩
      refine ⟨?_, ?_, trivial, trivial, trivial, trivial, trivial, trivial, trivial, trivial, trivial⟩
      refine DT.step [(30, _), (31, _)] rfl ⟨rfl, rfl, trivial⟩ rfl (fun wq_9 kq_9 => ?_)
      have zs_kq_9 := kq_9.size
      replace ha := ha.pure kq_9
      replace hw := hw.pure kq_9
      replace hp := hp.pure kq_9
      replace hd_2 := hd_2.pure kq_9
      replace b0 := b0.pure kq_9
      refine WL.append0 (e := erow) info_28 rfl Try.underlying22 rfl rfl b0 (ha.outer.src Try.underlying22) hpos (by constructor <;> omega) rfl ?_
      intro g2 c2 w2 hb2 k2 eg2 z2
      have hg2lt : g2 < w2.heap.size := by omega
      have zs_k2 := k2.size
      replace ha := ha.pure k2
      replace hw := hw.pure k2
      replace hp := hp.pure k2
      replace hd_2 := hd_2.pure k2
      refine WL.nil ?_
      refine WX.one ⟨hd_2, ?_⟩
      refine ⟨?_, trivial, trivial, trivial, trivial, trivial, trivial, trivial, trivial, trivial⟩
      refine DT.step [(36, _)] rfl ⟨rfl, trivial⟩ rfl (fun wq_10 kq_10 => ?_)
      have zs_kq_10 := kq_10.size
      replace ha := ha.pure kq_10
      replace hw := hw.pure kq_10
      replace hp := hp.pure kq_10
      replace hd_2 := hd_2.pure kq_10
      replace hb2 := hb2.pure kq_10
      refine WL.make (e := eb) (0 : UInt8) m0 m0 Try.underlying28 info_5 rfl rfl rfl ⟨by show (rxs.length : Int) = m0; omega, by show (rxs.length : Int) = m0; omega, Nat.le_refl _⟩ (by constructor <;> omega) rfl ?_
      intro g7 w7 hm7 k7 z7 eg7
      have hg7 : Row (fun b => b = g7) w7 5 eb (some ⟨g7, 0, none⟩) m0 (List.replicate m0 0) := ⟨fun a ea => by injection ea with ea; subst ea; rfl, hm7.own⟩
      have hg7lt : g7 < w7.heap.size := by omega
      have zs_k7 := k7.size
      replace ha := ha.pure k7
      replace hw := hw.pure k7
      replace hp := hp.pure k7
      replace hd_2 := hd_2.pure k7
      replace hb2 := hb2.pure k7
      refine WL.nil ?_
      refine WX.one ⟨hd_2, ?_⟩
      refine ⟨?_, trivial, trivial, trivial, trivial, trivial, trivial, trivial, trivial⟩
      refine DT.step [(37, _)] rfl ⟨rfl, trivial⟩ rfl (fun wq_11 kq_11 => ?_)
      have zs_kq_11 := kq_11.size
      replace ha := ha.pure kq_11
      replace hw := hw.pure kq_11
      replace hp := hp.pure kq_11
      replace hd_2 := hd_2.pure kq_11
      replace hb2 := hb2.pure kq_11
      replace hg7 := hg7.pure kq_11
      refine WL.build (e := erow) [⟨some ⟨g7, 0, none⟩, m0, List.replicate m0 0⟩] Try.underlying22 Try.sizeOf28 Try.zeroValue28 rfl rfl rfl (by first | (simp [Value.cells]; done) | (simp [Value.cells] <;> rfl) | (simp [Value.cells, eb, ei, es, ebool, e32, e64]; done)) (by decide) rfl ?_
      intro a_b8 w_b8 b8 l_b8 z_b8 k_b8
      have zs_k_b8 := k_b8.size
      replace ha := ha.pure k_b8
      replace hw := hw.pure k_b8
      replace hp := hp.pure k_b8
      replace hd_2 := hd_2.pure k_b8
      replace hb2 := hb2.pure k_b8
      replace hg7 := hg7.pure k_b8
      refine WL.nil ?_
      refine WX.one ⟨hd_2, ?_⟩
      refine ⟨?_, trivial, trivial, trivial, trivial, trivial, trivial, trivial⟩
      refine DT.step [(32, _), (38, _)] rfl ⟨rfl, rfl, trivial⟩ rfl (fun wq_12 kq_12 => ?_)
      have zs_kq_12 := kq_12.size
      replace ha := ha.pure kq_12
      replace hw := hw.pure kq_12
      replace hp := hp.pure kq_12
      replace hd_2 := hd_2.pure kq_12
      replace hb2 := hb2.pure kq_12
      replace hg7 := hg7.pure kq_12
      replace b8 := b8.pure kq_12
      have hne72 : g7 ≠ g2 := by omega
      refine WL.append (e := erow) info_28 rfl Try.underlying22 rfl rfl (hb2.mono (S' := fun x => g2 ≤ x) (fun b h => by have h3 : b = g2 := h; omega)) (b8.rsl.src Try.underlying22) (by constructor <;> (simp only [List.length_cons, List.length_nil]; omega)) (fun b hb => by omega) rfl ?_
      intro ao9 c9 w9 hb9 gg9 n9
      have gc : Chg (fun x => x = g2) _ w9 := gg9.chg.mono (by rintro x _ ⟨⟨a, ea, rfl⟩, _⟩; injection ea with ea; rw [← ea])
      have zs_gc := gc.size
      replace ha := ha.chg gc (by first | (intro x h1 h2; exact h2) | (intro x h1 h2; have h3 : _ = _ := h2; exfalso; omega) | (intro b h1 h2 h3; have h4 : _ = _ := h3; (try dsimp only at h2); exfalso; omega) | (intro h1; have h2 : _ = _ := h1; exfalso; omega) | (intros; exfalso; (try dsimp only at *); omega) | (intro b h1 h2 h3; exfalso; have h4 := h3.2; (try dsimp only at *); omega) | (intro h1; exfalso; have h4 := h1.2; (try dsimp only at *); omega) | (intro x h1 h2; exfalso; have h4 := h2.2; (try dsimp only at *); omega) | (intro x h1 h2; exact h2.1))
      replace hw := hw.chg gc (by first | (intro x h1 h2; exact h2) | (intro x h1 h2; have h3 : _ = _ := h2; exfalso; omega) | (intro b h1 h2 h3; have h4 : _ = _ := h3; (try dsimp only at h2); exfalso; omega) | (intro h1; have h2 : _ = _ := h1; exfalso; omega) | (intros; exfalso; (try dsimp only at *); omega) | (intro b h1 h2 h3; exfalso; have h4 := h3.2; (try dsimp only at *); omega) | (intro h1; exfalso; have h4 := h1.2; (try dsimp only at *); omega) | (intro x h1 h2; exfalso; have h4 := h2.2; (try dsimp only at *); omega) | (intro x h1 h2; exact h2.1))
      replace hp := hp.chg gc (by first | (intro x h1 h2; exact h2) | (intro x h1 h2; have h3 : _ = _ := h2; exfalso; omega) | (intro b h1 h2 h3; have h4 : _ = _ := h3; (try dsimp only at h2); exfalso; omega) | (intro h1; have h2 : _ = _ := h1; exfalso; omega) | (intros; exfalso; (try dsimp only at *); omega) | (intro b h1 h2 h3; exfalso; have h4 := h3.2; (try dsimp only at *); omega) | (intro h1; exfalso; have h4 := h1.2; (try dsimp only at *); omega) | (intro x h1 h2; exfalso; have h4 := h2.2; (try dsimp only at *); omega) | (intro x h1 h2; exact h2.1))
      replace hd_2 := hd_2.chg gc (by first | (intro x h1 h2; exact h2) | (intro x h1 h2; have h3 : _ = _ := h2; exfalso; omega) | (intro b h1 h2 h3; have h4 : _ = _ := h3; (try dsimp only at h2); exfalso; omega) | (intro h1; have h2 : _ = _ := h1; exfalso; omega) | (intros; exfalso; (try dsimp only at *); omega) | (intro b h1 h2 h3; exfalso; have h4 := h3.2; (try dsimp only at *); omega) | (intro h1; exfalso; have h4 := h1.2; (try dsimp only at *); omega) | (intro x h1 h2; exfalso; have h4 := h2.2; (try dsimp only at *); omega) | (intro x h1 h2; exact h2.1))
      replace hg7 := hg7.chg gc (by first | (intro x h1 h2; exact h2) | (intro x h1 h2; have h3 : _ = _ := h2; exfalso; omega) | (intro b h1 h2 h3; have h4 : _ = _ := h3; (try dsimp only at h2); exfalso; omega) | (intro h1; have h2 : _ = _ := h1; exfalso; omega) | (intros; exfalso; (try dsimp only at *); omega) | (intro b h1 h2 h3; exfalso; have h4 := h3.2; (try dsimp only at *); omega) | (intro h1; exfalso; have h4 := h1.2; (try dsimp only at *); omega) | (intro x h1 h2; exfalso; have h4 := h2.2; (try dsimp only at *); omega) | (intro x h1 h2; exact h2.1))
      refine WL.nil ?_
      refine WX.one ⟨hd_2, ?_⟩
      refine ⟨?_, trivial, trivial, trivial, trivial, trivial, trivial⟩
      refine DT.step [(39, _)] rfl ⟨rfl, trivial⟩ rfl (fun wq_13 kq_13 => ?_)
      have zs_kq_13 := kq_13.size
      replace ha := ha.pure kq_13
      replace hw := hw.pure kq_13
      replace hp := hp.pure kq_13
      replace hd_2 := hd_2.pure kq_13
      replace hg7 := hg7.pure kq_13
      replace hb9 := hb9.pure kq_13
      have hR9 := RS.grown hb9 ha hg7
      have hx9 : xss (ra ++ [⟨some ⟨g7, 0, none⟩, m0, List.replicate m0 0⟩]) = xss ra ++ [List.replicate m0 0] := by rw [xss_app]; rfl
      have hal9 : ∀ d ∈ xss (ra ++ [⟨some ⟨g7, 0, none⟩, m0, List.replicate m0 0⟩]), d.length = m0 := by
        rw [hx9]
        intro d hd
        rcases List.mem_append.1 hd with h1 | h1
        ·
          exact hall d h1
        ·
          simp at h1
          rw [h1, List.length_replicate]
      have hn9 : lenC (xss (ra ++ [⟨some ⟨g7, 0, none⟩, m0, List.replicate m0 0⟩])) = (m0 : Int) := by
        rw [lenC_of (fun e => by rw [hx9] at e; simp at e) hal9, if_pos ⟨hn1, hn2⟩]
      refine WL.call eg_9 rfl rfl (make_rs hR9 (by rw [List.length_append]; show ra.length + 1 ≤ 13; omega) hn9) ?_
      rintro v w4 ⟨⟨aq, cq, qs, rfl, hq, hqs⟩, k4⟩
      have hqs2 : xss qs = xss ps := by rw [hqs, hps, hx9, List.length_append, ← hxl]; exact three_grow hall
      have zs_k4 := k4.size
      replace ha := ha.pure k4
      replace hw := hw.pure k4
      replace hp := hp.pure k4
      replace hd_2 := hd_2.pure k4
      replace hq := hq.old
      refine WL.nil ?_
      refine WX.one ⟨hd_2, ?_⟩
      refine ⟨?_, trivial, trivial, trivial, trivial, trivial⟩
      refine DT.step [(40, _)] rfl ⟨rfl, trivial⟩ rfl (fun wq_14 kq_14 => ?_)
      have zs_kq_14 := kq_14.size
      replace ha := ha.pure kq_14
      replace hw := hw.pure kq_14
      replace hp := hp.pure kq_14
      replace hd_2 := hd_2.pure kq_14
      replace hq := hq.pure kq_14
      refine WL.move rfl rfl (?_)
      refine WL.nil ?_
      refine WX.one ⟨hd_2, ?_⟩
      refine ⟨?_, ?_, trivial, trivial, trivial⟩
      refine DT.step [(29, _)] rfl ⟨rfl, trivial⟩ rfl (fun wq_15 kq_15 => ?_)
      have zs_kq_15 := kq_15.size
      replace ha := ha.pure kq_15
      replace hw := hw.pure kq_15
      replace hp := hp.pure kq_15
      replace hd_2 := hd_2.pure kq_15
      replace hq := hq.pure kq_15
      refine WL.extract rfl rfl rfl (?_)
      refine WL.nil ?_
      refine WX.one ⟨hd_2, ?_⟩
      refine ⟨?_, ?_, trivial, trivial⟩
      refine DT.step [(29, _)] rfl ⟨rfl, trivial⟩ rfl (fun wq_16 kq_16 => ?_)
      have zs_kq_16 := kq_16.size
      replace ha := ha.pure kq_16
      replace hw := hw.pure kq_16
      replace hp := hp.pure kq_16
      replace hd_2 := hd_2.pure kq_16
      replace hq := hq.pure kq_16
      refine WL.extract rfl rfl rfl (?_)
      refine WL.nil ?_
      refine WX.one ⟨hd_2, ?_⟩
      refine ⟨?_, trivial, trivial⟩
      refine DT.step [(41, _)] rfl ⟨rfl, trivial⟩ rfl (fun wq_17 kq_17 => ?_)
      have zs_kq_17 := kq_17.size
      replace ha := ha.pure kq_17
      replace hw := hw.pure kq_17
      replace hp := hp.pure kq_17
      replace hd_2 := hd_2.pure kq_17
      replace hq := hq.pure kq_17
      refine WL.assign rfl rfl (?_)
      refine WL.nil ?_
      refine WX.one ⟨hd_2, ?_⟩
      refine ⟨?_, trivial⟩
      refine DT.step [(42, _)] rfl ⟨rfl, trivial⟩ rfl (fun wq_18 kq_18 => ?_)
      have zs_kq_18 := kq_18.size
      replace ha := ha.pure kq_18
      replace hw := hw.pure kq_18
      replace hp := hp.pure kq_18
      replace hd_2 := hd_2.pure kq_18
      replace hq := hq.pure kq_18
      refine WL.assign rfl rfl (?_)
      refine WL.nil ?_
      refine WX.one ⟨hd_2, ?_⟩
      refine DT.done (fun we_19 ke_19 => ?_) _
      have zs_ke_19 := ke_19.size
      replace ha := ha.pure ke_19
      replace hw := hw.pure ke_19
      replace hp := hp.pure ke_19
      replace hd_2 := hd_2.pure ke_19
      replace hq := hq.pure ke_19
      rotate_left
      refine DT.step [(41, _)] rfl ⟨rfl, trivial⟩ rfl (fun wq_16 kq_16 => ?_)
      have zs_kq_16 := kq_16.size
      replace ha := ha.pure kq_16
      replace hw := hw.pure kq_16
      replace hp := hp.pure kq_16
      replace hd_2 := hd_2.pure kq_16
      replace hq := hq.pure kq_16
      refine WL.assign rfl rfl (?_)
      refine WL.nil ?_
      refine WX.one ⟨hd_2, ?_⟩
      refine ⟨?_, trivial, trivial⟩
      refine DT.step [(29, _)] rfl ⟨rfl, trivial⟩ rfl (fun wq_17 kq_17 => ?_)
      have zs_kq_17 := kq_17.size
      replace ha := ha.pure kq_17
      replace hw := hw.pure kq_17
      replace hp := hp.pure kq_17
      replace hd_2 := hd_2.pure kq_17
      replace hq := hq.pure kq_17
      refine WL.extract rfl rfl rfl (?_)
      refine WL.nil ?_
      refine WX.one ⟨hd_2, ?_⟩
      refine ⟨?_, trivial⟩
      refine DT.step [(42, _)] rfl ⟨rfl, trivial⟩ rfl (fun wq_18 kq_18 => ?_)
      have zs_kq_18 := kq_18.size
      replace ha := ha.pure kq_18
      replace hw := hw.pure kq_18
      replace hp := hp.pure kq_18
      replace hd_2 := hd_2.pure kq_18
      replace hq := hq.pure kq_18
      refine WL.assign rfl rfl (?_)
      refine WL.nil ?_
      refine WX.one ⟨hd_2, ?_⟩
      refine DT.done (fun we_19 ke_19 => ?_) _
      have zs_ke_19 := ke_19.size
      replace ha := ha.pure ke_19
      replace hw := hw.pure ke_19
      replace hp := hp.pure ke_19
      replace hd_2 := hd_2.pure ke_19
      replace hq := hq.pure ke_19
      rotate_left
      refine DT.step [(29, _)] rfl ⟨rfl, trivial⟩ rfl (fun wq_15 kq_15 => ?_)
      have zs_kq_15 := kq_15.size
      replace ha := ha.pure kq_15
      replace hw := hw.pure kq_15
      replace hp := hp.pure kq_15
      replace hd_2 := hd_2.pure kq_15
      replace hq := hq.pure kq_15
      refine WL.extract rfl rfl rfl (?_)
      refine WL.nil ?_
      refine WX.one ⟨hd_2, ?_⟩
      refine ⟨?_, trivial, trivial, trivial⟩
      refine DT.step [(29, _)] rfl ⟨rfl, trivial⟩ rfl (fun wq_16 kq_16 => ?_)
      have zs_kq_16 := kq_16.size
      replace ha := ha.pure kq_16
      replace hw := hw.pure kq_16
      replace hp := hp.pure kq_16
      replace hd_2 := hd_2.pure kq_16
      replace hq := hq.pure kq_16
      refine WL.extract rfl rfl rfl (?_)
      refine WL.nil ?_
      refine WX.one ⟨hd_2, ?_⟩
      refine ⟨?_, trivial, trivial⟩
      refine DT.step [(41, _)] rfl ⟨rfl, trivial⟩ rfl (fun wq_17 kq_17 => ?_)
      have zs_kq_17 := kq_17.size
      replace ha := ha.pure kq_17
      replace hw := hw.pure kq_17
      replace hp := hp.pure kq_17
      replace hd_2 := hd_2.pure kq_17
      replace hq := hq.pure kq_17
      refine WL.assign rfl rfl (?_)
      refine WL.nil ?_
      refine WX.one ⟨hd_2, ?_⟩
      refine ⟨?_, trivial⟩
      refine DT.step [(42, _)] rfl ⟨rfl, trivial⟩ rfl (fun wq_18 kq_18 => ?_)
      have zs_kq_18 := kq_18.size
      replace ha := ha.pure kq_18
      replace hw := hw.pure kq_18
      replace hp := hp.pure kq_18
      replace hd_2 := hd_2.pure kq_18
      replace hq := hq.pure kq_18
      refine WL.assign rfl rfl (?_)
      refine WL.nil ?_
      refine WX.one ⟨hd_2, ?_⟩
      refine DT.done (fun we_19 ke_19 => ?_) _
      have zs_ke_19 := ke_19.size
      replace ha := ha.pure ke_19
      replace hw := hw.pure ke_19
      replace hp := hp.pure ke_19
      replace hd_2 := hd_2.pure ke_19
      replace hq := hq.pure ke_19
      rotate_left
      refine DT.step [(36, _)] rfl ⟨rfl, trivial⟩ rfl (fun wq_9 kq_9 => ?_)
      have zs_kq_9 := kq_9.size
      replace ha := ha.pure kq_9
      replace hw := hw.pure kq_9
      replace hp := hp.pure kq_9
      replace hd_2 := hd_2.pure kq_9
      replace b0 := b0.pure kq_9
      refine WL.make (e := eb) (0 : UInt8) m0 m0 Try.underlying28 info_5 rfl rfl rfl ⟨by show (rxs.length : Int) = m0; omega, by show (rxs.length : Int) = m0; omega, Nat.le_refl _⟩ (by constructor <;> omega) rfl ?_
      intro g7 w7 hm7 k7 z7 eg7
      have hg7 : Row (fun b => b = g7) w7 5 eb (some ⟨g7, 0, none⟩) m0 (List.replicate m0 0) := ⟨fun a ea => by injection ea with ea; subst ea; rfl, hm7.own⟩
      have hg7lt : g7 < w7.heap.size := by omega
      have zs_k7 := k7.size
      replace ha := ha.pure k7
      replace hw := hw.pure k7
      replace hp := hp.pure k7
      replace hd_2 := hd_2.pure k7
      replace b0 := b0.pure k7
      refine WL.nil ?_
      refine WX.one ⟨hd_2, ?_⟩
      refine ⟨?_, ?_, trivial, trivial, trivial, trivial, trivial, trivial, trivial, trivial⟩
      refine DT.step [(30, _), (31, _)] rfl ⟨rfl, rfl, trivial⟩ rfl (fun wq_10 kq_10 => ?_)
      have zs_kq_10 := kq_10.size
      replace ha := ha.pure kq_10
      replace hw := hw.pure kq_10
      replace hp := hp.pure kq_10
      replace hd_2 := hd_2.pure kq_10
      replace b0 := b0.pure kq_10
      replace hg7 := hg7.pure kq_10
      refine WL.append0 (e := erow) info_28 rfl Try.underlying22 rfl rfl b0 (ha.outer.src Try.underlying22) hpos (by constructor <;> omega) rfl ?_
      intro g2 c2 w2 hb2 k2 eg2 z2
      have hg2lt : g2 < w2.heap.size := by omega
      have zs_k2 := k2.size
      replace ha := ha.pure k2
      replace hw := hw.pure k2
      replace hp := hp.pure k2
      replace hd_2 := hd_2.pure k2
      replace hg7 := hg7.pure k2
      refine WL.nil ?_
      refine WX.one ⟨hd_2, ?_⟩
      refine ⟨?_, trivial, trivial, trivial, trivial, trivial, trivial, trivial, trivial⟩
      refine DT.step [(37, _)] rfl ⟨rfl, trivial⟩ rfl (fun wq_11 kq_11 => ?_)
      have zs_kq_11 := kq_11.size
      replace ha := ha.pure kq_11
      replace hw := hw.pure kq_11
      replace hp := hp.pure kq_11
      replace hd_2 := hd_2.pure kq_11
      replace hg7 := hg7.pure kq_11
      replace hb2 := hb2.pure kq_11
      refine WL.build (e := erow) [⟨some ⟨g7, 0, none⟩, m0, List.replicate m0 0⟩] Try.underlying22 Try.sizeOf28 Try.zeroValue28 rfl rfl rfl (by first | (simp [Value.cells]; done) | (simp [Value.cells] <;> rfl) | (simp [Value.cells, eb, ei, es, ebool, e32, e64]; done)) (by decide) rfl ?_
      intro a_b8 w_b8 b8 l_b8 z_b8 k_b8
      have zs_k_b8 := k_b8.size
      replace ha := ha.pure k_b8
      replace hw := hw.pure k_b8
      replace hp := hp.pure k_b8
      replace hd_2 := hd_2.pure k_b8
      replace hg7 := hg7.pure k_b8
      replace hb2 := hb2.pure k_b8
      refine WL.nil ?_
      refine WX.one ⟨hd_2, ?_⟩
      refine ⟨?_, trivial, trivial, trivial, trivial, trivial, trivial, trivial⟩
      refine DT.step [(32, _), (38, _)] rfl ⟨rfl, rfl, trivial⟩ rfl (fun wq_12 kq_12 => ?_)
      have zs_kq_12 := kq_12.size
      replace ha := ha.pure kq_12
      replace hw := hw.pure kq_12
      replace hp := hp.pure kq_12
      replace hd_2 := hd_2.pure kq_12
      replace hg7 := hg7.pure kq_12
      replace hb2 := hb2.pure kq_12
      replace b8 := b8.pure kq_12
      have hne72 : g7 ≠ g2 := by omega
      refine WL.append (e := erow) info_28 rfl Try.underlying22 rfl rfl (hb2.mono (S' := fun x => g2 ≤ x) (fun b h => by have h3 : b = g2 := h; omega)) (b8.rsl.src Try.underlying22) (by constructor <;> (simp only [List.length_cons, List.length_nil]; omega)) (fun b hb => by omega) rfl ?_
      intro ao9 c9 w9 hb9 gg9 n9
      have gc : Chg (fun x => x = g2) _ w9 := gg9.chg.mono (by rintro x _ ⟨⟨a, ea, rfl⟩, _⟩; injection ea with ea; rw [← ea])
      have zs_gc := gc.size
      replace ha := ha.chg gc (by first | (intro x h1 h2; exact h2) | (intro x h1 h2; have h3 : _ = _ := h2; exfalso; omega) | (intro b h1 h2 h3; have h4 : _ = _ := h3; (try dsimp only at h2); exfalso; omega) | (intro h1; have h2 : _ = _ := h1; exfalso; omega) | (intros; exfalso; (try dsimp only at *); omega) | (intro b h1 h2 h3; exfalso; have h4 := h3.2; (try dsimp only at *); omega) | (intro h1; exfalso; have h4 := h1.2; (try dsimp only at *); omega) | (intro x h1 h2; exfalso; have h4 := h2.2; (try dsimp only at *); omega) | (intro x h1 h2; exact h2.1))
      replace hw := hw.chg gc (by first | (intro x h1 h2; exact h2) | (intro x h1 h2; have h3 : _ = _ := h2; exfalso; omega) | (intro b h1 h2 h3; have h4 : _ = _ := h3; (try dsimp only at h2); exfalso; omega) | (intro h1; have h2 : _ = _ := h1; exfalso; omega) | (intros; exfalso; (try dsimp only at *); omega) | (intro b h1 h2 h3; exfalso; have h4 := h3.2; (try dsimp only at *); omega) | (intro h1; exfalso; have h4 := h1.2; (try dsimp only at *); omega) | (intro x h1 h2; exfalso; have h4 := h2.2; (try dsimp only at *); omega) | (intro x h1 h2; exact h2.1))
      replace hp := hp.chg gc (by first | (intro x h1 h2; exact h2) | (intro x h1 h2; have h3 : _ = _ := h2; exfalso; omega) | (intro b h1 h2 h3; have h4 : _ = _ := h3; (try dsimp only at h2); exfalso; omega) | (intro h1; have h2 : _ = _ := h1; exfalso; omega) | (intros; exfalso; (try dsimp only at *); omega) | (intro b h1 h2 h3; exfalso; have h4 := h3.2; (try dsimp only at *); omega) | (intro h1; exfalso; have h4 := h1.2; (try dsimp only at *); omega) | (intro x h1 h2; exfalso; have h4 := h2.2; (try dsimp only at *); omega) | (intro x h1 h2; exact h2.1))
      replace hd_2 := hd_2.chg gc (by first | (intro x h1 h2; exact h2) | (intro x h1 h2; have h3 : _ = _ := h2; exfalso; omega) | (intro b h1 h2 h3; have h4 : _ = _ := h3; (try dsimp only at h2); exfalso; omega) | (intro h1; have h2 : _ = _ := h1; exfalso; omega) | (intros; exfalso; (try dsimp only at *); omega) | (intro b h1 h2 h3; exfalso; have h4 := h3.2; (try dsimp only at *); omega) | (intro h1; exfalso; have h4 := h1.2; (try dsimp only at *); omega) | (intro x h1 h2; exfalso; have h4 := h2.2; (try dsimp only at *); omega) | (intro x h1 h2; exact h2.1))
      replace hg7 := hg7.chg gc (by first | (intro x h1 h2; exact h2) | (intro x h1 h2; have h3 : _ = _ := h2; exfalso; omega) | (intro b h1 h2 h3; have h4 : _ = _ := h3; (try dsimp only at h2); exfalso; omega) | (intro h1; have h2 : _ = _ := h1; exfalso; omega) | (intros; exfalso; (try dsimp only at *); omega) | (intro b h1 h2 h3; exfalso; have h4 := h3.2; (try dsimp only at *); omega) | (intro h1; exfalso; have h4 := h1.2; (try dsimp only at *); omega) | (intro x h1 h2; exfalso; have h4 := h2.2; (try dsimp only at *); omega) | (intro x h1 h2; exact h2.1))
      refine WL.nil ?_
      refine WX.one ⟨hd_2, ?_⟩
      refine ⟨?_, trivial, trivial, trivial, trivial, trivial, trivial⟩
      refine DT.step [(39, _)] rfl ⟨rfl, trivial⟩ rfl (fun wq_13 kq_13 => ?_)
      have zs_kq_13 := kq_13.size
      replace ha := ha.pure kq_13
      replace hw := hw.pure kq_13
      replace hp := hp.pure kq_13
      replace hd_2 := hd_2.pure kq_13
      replace hg7 := hg7.pure kq_13
      replace hb9 := hb9.pure kq_13
      have hR9 := RS.grown hb9 ha hg7
      have hx9 : xss (ra ++ [⟨some ⟨g7, 0, none⟩, m0, List.replicate m0 0⟩]) = xss ra ++ [List.replicate m0 0] := by rw [xss_app]; rfl
      have hal9 : ∀ d ∈ xss (ra ++ [⟨some ⟨g7, 0, none⟩, m0, List.replicate m0 0⟩]), d.length = m0 := by
        rw [hx9]
        intro d hd
        rcases List.mem_append.1 hd with h1 | h1
        ·
          exact hall d h1
        ·
          simp at h1
          rw [h1, List.length_replicate]
      have hn9 : lenC (xss (ra ++ [⟨some ⟨g7, 0, none⟩, m0, List.replicate m0 0⟩])) = (m0 : Int) := by
        rw [lenC_of (fun e => by rw [hx9] at e; simp at e) hal9, if_pos ⟨hn1, hn2⟩]
      refine WL.call eg_9 rfl rfl (make_rs hR9 (by rw [List.length_append]; show ra.length + 1 ≤ 13; omega) hn9) ?_
      rintro v w4 ⟨⟨aq, cq, qs, rfl, hq, hqs⟩, k4⟩
      have hqs2 : xss qs = xss ps := by rw [hqs, hps, hx9, List.length_append, ← hxl]; exact three_grow hall
      have zs_k4 := k4.size
      replace ha := ha.pure k4
      replace hw := hw.pure k4
      replace hp := hp.pure k4
      replace hd_2 := hd_2.pure k4
      replace hq := hq.old
      refine WL.nil ?_
      refine WX.one ⟨hd_2, ?_⟩
      refine ⟨?_, trivial, trivial, trivial, trivial, trivial⟩
      refine DT.step [(40, _)] rfl ⟨rfl, trivial⟩ rfl (fun wq_14 kq_14 => ?_)
      have zs_kq_14 := kq_14.size
      replace ha := ha.pure kq_14
      replace hw := hw.pure kq_14
      replace hp := hp.pure kq_14
      replace hd_2 := hd_2.pure kq_14
      replace hq := hq.pure kq_14
      refine WL.move rfl rfl (?_)
      refine WL.nil ?_
      refine WX.one ⟨hd_2, ?_⟩
      refine ⟨?_, ?_, trivial, trivial, trivial⟩
      refine DT.step [(29, _)] rfl ⟨rfl, trivial⟩ rfl (fun wq_15 kq_15 => ?_)
      have zs_kq_15 := kq_15.size
      replace ha := ha.pure kq_15
      replace hw := hw.pure kq_15
      replace hp := hp.pure kq_15
      replace hd_2 := hd_2.pure kq_15
      replace hq := hq.pure kq_15
      refine WL.extract rfl rfl rfl (?_)
      refine WL.nil ?_
      refine WX.one ⟨hd_2, ?_⟩
      refine ⟨?_, ?_, trivial, trivial⟩
      refine DT.step [(29, _)] rfl ⟨rfl, trivial⟩ rfl (fun wq_16 kq_16 => ?_)
      have zs_kq_16 := kq_16.size
      replace ha := ha.pure kq_16
      replace hw := hw.pure kq_16
      replace hp := hp.pure kq_16
      replace hd_2 := hd_2.pure kq_16
      replace hq := hq.pure kq_16
      refine WL.extract rfl rfl rfl (?_)
      refine WL.nil ?_
      refine WX.one ⟨hd_2, ?_⟩
      refine ⟨?_, trivial, trivial⟩
      refine DT.step [(41, _)] rfl ⟨rfl, trivial⟩ rfl (fun wq_17 kq_17 => ?_)
      have zs_kq_17 := kq_17.size
      replace ha := ha.pure kq_17
      replace hw := hw.pure kq_17
      replace hp := hp.pure kq_17
      replace hd_2 := hd_2.pure kq_17
      replace hq := hq.pure kq_17
      refine WL.assign rfl rfl (?_)
      refine WL.nil ?_
      refine WX.one ⟨hd_2, ?_⟩
      refine ⟨?_, trivial⟩
      refine DT.step [(42, _)] rfl ⟨rfl, trivial⟩ rfl (fun wq_18 kq_18 => ?_)
      have zs_kq_18 := kq_18.size
      replace ha := ha.pure kq_18
      replace hw := hw.pure kq_18
      replace hp := hp.pure kq_18
      replace hd_2 := hd_2.pure kq_18
      replace hq := hq.pure kq_18
      refine WL.assign rfl rfl (?_)
      refine WL.nil ?_
      refine WX.one ⟨hd_2, ?_⟩
      refine DT.done (fun we_19 ke_19 => ?_) _
      have zs_ke_19 := ke_19.size
      replace ha := ha.pure ke_19
      replace hw := hw.pure ke_19
      replace hp := hp.pure ke_19
      replace hd_2 := hd_2.pure ke_19
      replace hq := hq.pure ke_19
      rotate_left
      refine DT.step [(41, _)] rfl ⟨rfl, trivial⟩ rfl (fun wq_16 kq_16 => ?_)
      have zs_kq_16 := kq_16.size
      replace ha := ha.pure kq_16
      replace hw := hw.pure kq_16
      replace hp := hp.pure kq_16
      replace hd_2 := hd_2.pure kq_16
      replace hq := hq.pure kq_16
      refine WL.assign rfl rfl (?_)
      refine WL.nil ?_
      refine WX.one ⟨hd_2, ?_⟩
      refine ⟨?_, trivial, trivial⟩
      refine DT.step [(29, _)] rfl ⟨rfl, trivial⟩ rfl (fun wq_17 kq_17 => ?_)
      have zs_kq_17 := kq_17.size
      replace ha := ha.pure kq_17
      replace hw := hw.pure kq_17
      replace hp := hp.pure kq_17
      replace hd_2 := hd_2.pure kq_17
      replace hq := hq.pure kq_17
      refine WL.extract rfl rfl rfl (?_)
      refine WL.nil ?_
      refine WX.one ⟨hd_2, ?_⟩
      refine ⟨?_, trivial⟩
      refine DT.step [(42, _)] rfl ⟨rfl, trivial⟩ rfl (fun wq_18 kq_18 => ?_)
      have zs_kq_18 := kq_18.size
      replace ha := ha.pure kq_18
      replace hw := hw.pure kq_18
      replace hp := hp.pure kq_18
      replace hd_2 := hd_2.pure kq_18
      replace hq := hq.pure kq_18
      refine WL.assign rfl rfl (?_)
      refine WL.nil ?_
      refine WX.one ⟨hd_2, ?_⟩
      refine DT.done (fun we_19 ke_19 => ?_) _
      have zs_ke_19 := ke_19.size
      replace ha := ha.pure ke_19
      replace hw := hw.pure ke_19
      replace hp := hp.pure ke_19
      replace hd_2 := hd_2.pure ke_19
      replace hq := hq.pure ke_19
      rotate_left
      refine DT.step [(29, _)] rfl ⟨rfl, trivial⟩ rfl (fun wq_15 kq_15 => ?_)
      have zs_kq_15 := kq_15.size
      replace ha := ha.pure kq_15
      replace hw := hw.pure kq_15
      replace hp := hp.pure kq_15
      replace hd_2 := hd_2.pure kq_15
      replace hq := hq.pure kq_15
      refine WL.extract rfl rfl rfl (?_)
      refine WL.nil ?_
      refine WX.one ⟨hd_2, ?_⟩
      refine ⟨?_, trivial, trivial, trivial⟩
      refine DT.step [(29, _)] rfl ⟨rfl, trivial⟩ rfl (fun wq_16 kq_16 => ?_)
      have zs_kq_16 := kq_16.size
      replace ha := ha.pure kq_16
      replace hw := hw.pure kq_16
      replace hp := hp.pure kq_16
      replace hd_2 := hd_2.pure kq_16
      replace hq := hq.pure kq_16
      refine WL.extract rfl rfl rfl (?_)
      refine WL.nil ?_
      refine WX.one ⟨hd_2, ?_⟩
      refine ⟨?_, trivial, trivial⟩
      refine DT.step [(41, _)] rfl ⟨rfl, trivial⟩ rfl (fun wq_17 kq_17 => ?_)
      have zs_kq_17 := kq_17.size
      replace ha := ha.pure kq_17
      replace hw := hw.pure kq_17
      replace hp := hp.pure kq_17
      replace hd_2 := hd_2.pure kq_17
      replace hq := hq.pure kq_17
      refine WL.assign rfl rfl (?_)
      refine WL.nil ?_
      refine WX.one ⟨hd_2, ?_⟩
      refine ⟨?_, trivial⟩
      refine DT.step [(42, _)] rfl ⟨rfl, trivial⟩ rfl (fun wq_18 kq_18 => ?_)
      have zs_kq_18 := kq_18.size
      replace ha := ha.pure kq_18
      replace hw := hw.pure kq_18
      replace hp := hp.pure kq_18
      replace hd_2 := hd_2.pure kq_18
      replace hq := hq.pure kq_18
      refine WL.assign rfl rfl (?_)
      refine WL.nil ?_
      refine WX.one ⟨hd_2, ?_⟩
      refine DT.done (fun we_19 ke_19 => ?_) _
      have zs_ke_19 := ke_19.size
      replace ha := ha.pure ke_19
      replace hw := hw.pure ke_19
      replace hp := hp.pure ke_19
      replace hd_2 := hd_2.pure ke_19
      replace hq := hq.pure ke_19
      rotate_left
      refine DT.step [(37, _)] rfl ⟨rfl, trivial⟩ rfl (fun wq_10 kq_10 => ?_)
      have zs_kq_10 := kq_10.size
      replace ha := ha.pure kq_10
      replace hw := hw.pure kq_10
      replace hp := hp.pure kq_10
      replace hd_2 := hd_2.pure kq_10
      replace b0 := b0.pure kq_10
      replace hg7 := hg7.pure kq_10
      refine WL.build (e := erow) [⟨some ⟨g7, 0, none⟩, m0, List.replicate m0 0⟩] Try.underlying22 Try.sizeOf28 Try.zeroValue28 rfl rfl rfl (by first | (simp [Value.cells]; done) | (simp [Value.cells] <;> rfl) | (simp [Value.cells, eb, ei, es, ebool, e32, e64]; done)) (by decide) rfl ?_
      intro a_b8 w_b8 b8 l_b8 z_b8 k_b8
      have zs_k_b8 := k_b8.size
      replace ha := ha.pure k_b8
      replace hw := hw.pure k_b8
      replace hp := hp.pure k_b8
      replace hd_2 := hd_2.pure k_b8
      replace b0 := b0.pure k_b8
      replace hg7 := hg7.pure k_b8
      refine WL.nil ?_
      refine WX.one ⟨hd_2, ?_⟩
      refine ⟨?_, trivial, trivial, trivial, trivial, trivial, trivial, trivial, trivial⟩
      refine DT.step [(30, _), (31, _)] rfl ⟨rfl, rfl, trivial⟩ rfl (fun wq_11 kq_11 => ?_)
      have zs_kq_11 := kq_11.size
      replace ha := ha.pure kq_11
      replace hw := hw.pure kq_11
      replace hp := hp.pure kq_11
      replace hd_2 := hd_2.pure kq_11
      replace b0 := b0.pure kq_11
      replace hg7 := hg7.pure kq_11
      replace b8 := b8.pure kq_11
      refine WL.append0 (e := erow) info_28 rfl Try.underlying22 rfl rfl b0 (ha.outer.src Try.underlying22) hpos (by constructor <;> omega) rfl ?_
      intro g2 c2 w2 hb2 k2 eg2 z2
      have hg2lt : g2 < w2.heap.size := by omega
      have zs_k2 := k2.size
      replace ha := ha.pure k2
      replace hw := hw.pure k2
      replace hp := hp.pure k2
      replace hd_2 := hd_2.pure k2
      replace hg7 := hg7.pure k2
      replace b8 := b8.pure k2
      refine WL.nil ?_
      refine WX.one ⟨hd_2, ?_⟩
      refine ⟨?_, trivial, trivial, trivial, trivial, trivial, trivial, trivial⟩
      refine DT.step [(32, _), (38, _)] rfl ⟨rfl, rfl, trivial⟩ rfl (fun wq_12 kq_12 => ?_)
      have zs_kq_12 := kq_12.size
      replace ha := ha.pure kq_12
      replace hw := hw.pure kq_12
      replace hp := hp.pure kq_12
      replace hd_2 := hd_2.pure kq_12
      replace hg7 := hg7.pure kq_12
      replace b8 := b8.pure kq_12
      replace hb2 := hb2.pure kq_12
      have hne72 : g7 ≠ g2 := by omega
      refine WL.append (e := erow) info_28 rfl Try.underlying22 rfl rfl (hb2.mono (S' := fun x => g2 ≤ x) (fun b h => by have h3 : b = g2 := h; omega)) (b8.rsl.src Try.underlying22) (by constructor <;> (simp only [List.length_cons, List.length_nil]; omega)) (fun b hb => by omega) rfl ?_
      intro ao9 c9 w9 hb9 gg9 n9
      have gc : Chg (fun x => x = g2) _ w9 := gg9.chg.mono (by rintro x _ ⟨⟨a, ea, rfl⟩, _⟩; injection ea with ea; rw [← ea])
      have zs_gc := gc.size
      replace ha := ha.chg gc (by first | (intro x h1 h2; exact h2) | (intro x h1 h2; have h3 : _ = _ := h2; exfalso; omega) | (intro b h1 h2 h3; have h4 : _ = _ := h3; (try dsimp only at h2); exfalso; omega) | (intro h1; have h2 : _ = _ := h1; exfalso; omega) | (intros; exfalso; (try dsimp only at *); omega) | (intro b h1 h2 h3; exfalso; have h4 := h3.2; (try dsimp only at *); omega) | (intro h1; exfalso; have h4 := h1.2; (try dsimp only at *); omega) | (intro x h1 h2; exfalso; have h4 := h2.2; (try dsimp only at *); omega) | (intro x h1 h2; exact h2.1))
      replace hw := hw.chg gc (by first | (intro x h1 h2; exact h2) | (intro x h1 h2; have h3 : _ = _ := h2; exfalso; omega) | (intro b h1 h2 h3; have h4 : _ = _ := h3; (try dsimp only at h2); exfalso; omega) | (intro h1; have h2 : _ = _ := h1; exfalso; omega) | (intros; exfalso; (try dsimp only at *); omega) | (intro b h1 h2 h3; exfalso; have h4 := h3.2; (try dsimp only at *); omega) | (intro h1; exfalso; have h4 := h1.2; (try dsimp only at *); omega) | (intro x h1 h2; exfalso; have h4 := h2.2; (try dsimp only at *); omega) | (intro x h1 h2; exact h2.1))
      replace hp := hp.chg gc (by first | (intro x h1 h2; exact h2) | (intro x h1 h2; have h3 : _ = _ := h2; exfalso; omega) | (intro b h1 h2 h3; have h4 : _ = _ := h3; (try dsimp only at h2); exfalso; omega) | (intro h1; have h2 : _ = _ := h1; exfalso; omega) | (intros; exfalso; (try dsimp only at *); omega) | (intro b h1 h2 h3; exfalso; have h4 := h3.2; (try dsimp only at *); omega) | (intro h1; exfalso; have h4 := h1.2; (try dsimp only at *); omega) | (intro x h1 h2; exfalso; have h4 := h2.2; (try dsimp only at *); omega) | (intro x h1 h2; exact h2.1))
      replace hd_2 := hd_2.chg gc (by first | (intro x h1 h2; exact h2) | (intro x h1 h2; have h3 : _ = _ := h2; exfalso; omega) | (intro b h1 h2 h3; have h4 : _ = _ := h3; (try dsimp only at h2); exfalso; omega) | (intro h1; have h2 : _ = _ := h1; exfalso; omega) | (intros; exfalso; (try dsimp only at *); omega) | (intro b h1 h2 h3; exfalso; have h4 := h3.2; (try dsimp only at *); omega) | (intro h1; exfalso; have h4 := h1.2; (try dsimp only at *); omega) | (intro x h1 h2; exfalso; have h4 := h2.2; (try dsimp only at *); omega) | (intro x h1 h2; exact h2.1))
      replace hg7 := hg7.chg gc (by first | (intro x h1 h2; exact h2) | (intro x h1 h2; have h3 : _ = _ := h2; exfalso; omega) | (intro b h1 h2 h3; have h4 : _ = _ := h3; (try dsimp only at h2); exfalso; omega) | (intro h1; have h2 : _ = _ := h1; exfalso; omega) | (intros; exfalso; (try dsimp only at *); omega) | (intro b h1 h2 h3; exfalso; have h4 := h3.2; (try dsimp only at *); omega) | (intro h1; exfalso; have h4 := h1.2; (try dsimp only at *); omega) | (intro x h1 h2; exfalso; have h4 := h2.2; (try dsimp only at *); omega) | (intro x h1 h2; exact h2.1))
      refine WL.nil ?_
      refine WX.one ⟨hd_2, ?_⟩
      refine ⟨?_, trivial, trivial, trivial, trivial, trivial, trivial⟩
      refine DT.step [(39, _)] rfl ⟨rfl, trivial⟩ rfl (fun wq_13 kq_13 => ?_)
      have zs_kq_13 := kq_13.size
      replace ha := ha.pure kq_13
      replace hw := hw.pure kq_13
      replace hp := hp.pure kq_13
      replace hd_2 := hd_2.pure kq_13
      replace hg7 := hg7.pure kq_13
      replace hb9 := hb9.pure kq_13
      have hR9 := RS.grown hb9 ha hg7
      have hx9 : xss (ra ++ [⟨some ⟨g7, 0, none⟩, m0, List.replicate m0 0⟩]) = xss ra ++ [List.replicate m0 0] := by rw [xss_app]; rfl
      have hal9 : ∀ d ∈ xss (ra ++ [⟨some ⟨g7, 0, none⟩, m0, List.replicate m0 0⟩]), d.length = m0 := by
        rw [hx9]
        intro d hd
        rcases List.mem_append.1 hd with h1 | h1
        ·
          exact hall d h1
        ·
          simp at h1
          rw [h1, List.length_replicate]
      have hn9 : lenC (xss (ra ++ [⟨some ⟨g7, 0, none⟩, m0, List.replicate m0 0⟩])) = (m0 : Int) := by
        rw [lenC_of (fun e => by rw [hx9] at e; simp at e) hal9, if_pos ⟨hn1, hn2⟩]
      refine WL.call eg_9 rfl rfl (make_rs hR9 (by rw [List.length_append]; show ra.length + 1 ≤ 13; omega) hn9) ?_
      rintro v w4 ⟨⟨aq, cq, qs, rfl, hq, hqs⟩, k4⟩
      have hqs2 : xss qs = xss ps := by rw [hqs, hps, hx9, List.length_append, ← hxl]; exact three_grow hall
      have zs_k4 := k4.size
      replace ha := ha.pure k4
      replace hw := hw.pure k4
      replace hp := hp.pure k4
      replace hd_2 := hd_2.pure k4
      replace hq := hq.old
      refine WL.nil ?_
      refine WX.one ⟨hd_2, ?_⟩
      refine ⟨?_, trivial, trivial, trivial, trivial, trivial⟩
      refine DT.step [(40, _)] rfl ⟨rfl, trivial⟩ rfl (fun wq_14 kq_14 => ?_)
      have zs_kq_14 := kq_14.size
      replace ha := ha.pure kq_14
      replace hw := hw.pure kq_14
      replace hp := hp.pure kq_14
      replace hd_2 := hd_2.pure kq_14
      replace hq := hq.pure kq_14
      refine WL.move rfl rfl (?_)
      refine WL.nil ?_
      refine WX.one ⟨hd_2, ?_⟩
      refine ⟨?_, ?_, trivial, trivial, trivial⟩
      refine DT.step [(29, _)] rfl ⟨rfl, trivial⟩ rfl (fun wq_15 kq_15 => ?_)
      have zs_kq_15 := kq_15.size
      replace ha := ha.pure kq_15
      replace hw := hw.pure kq_15
      replace hp := hp.pure kq_15
      replace hd_2 := hd_2.pure kq_15
      replace hq := hq.pure kq_15
      refine WL.extract rfl rfl rfl (?_)
      refine WL.nil ?_
      refine WX.one ⟨hd_2, ?_⟩
      refine ⟨?_, ?_, trivial, trivial⟩
      refine DT.step [(29, _)] rfl ⟨rfl, trivial⟩ rfl (fun wq_16 kq_16 => ?_)
      have zs_kq_16 := kq_16.size
      replace ha := ha.pure kq_16
      replace hw := hw.pure kq_16
      replace hp := hp.pure kq_16
      replace hd_2 := hd_2.pure kq_16
      replace hq := hq.pure kq_16
      refine WL.extract rfl rfl rfl (?_)
      refine WL.nil ?_
      refine WX.one ⟨hd_2, ?_⟩
      refine ⟨?_, trivial, trivial⟩
      refine DT.step [(41, _)] rfl ⟨rfl, trivial⟩ rfl (fun wq_17 kq_17 => ?_)
      have zs_kq_17 := kq_17.size
      replace ha := ha.pure kq_17
      replace hw := hw.pure kq_17
      replace hp := hp.pure kq_17
      replace hd_2 := hd_2.pure kq_17
      replace hq := hq.pure kq_17
      refine WL.assign rfl rfl (?_)
      refine WL.nil ?_
      refine WX.one ⟨hd_2, ?_⟩
      refine ⟨?_, trivial⟩
      refine DT.step [(42, _)] rfl ⟨rfl, trivial⟩ rfl (fun wq_18 kq_18 => ?_)
      have zs_kq_18 := kq_18.size
      replace ha := ha.pure kq_18
      replace hw := hw.pure kq_18
      replace hp := hp.pure kq_18
      replace hd_2 := hd_2.pure kq_18
      replace hq := hq.pure kq_18
      refine WL.assign rfl rfl (?_)
      refine WL.nil ?_
      refine WX.one ⟨hd_2, ?_⟩
      refine DT.done (fun we_19 ke_19 => ?_) _
      have zs_ke_19 := ke_19.size
      replace ha := ha.pure ke_19
      replace hw := hw.pure ke_19
      replace hp := hp.pure ke_19
      replace hd_2 := hd_2.pure ke_19
      replace hq := hq.pure ke_19
      rotate_left
      refine DT.step [(41, _)] rfl ⟨rfl, trivial⟩ rfl (fun wq_16 kq_16 => ?_)
      have zs_kq_16 := kq_16.size
      replace ha := ha.pure kq_16
      replace hw := hw.pure kq_16
      replace hp := hp.pure kq_16
      replace hd_2 := hd_2.pure kq_16
      replace hq := hq.pure kq_16
      refine WL.assign rfl rfl (?_)
      refine WL.nil ?_
      refine WX.one ⟨hd_2, ?_⟩
      refine ⟨?_, trivial, trivial⟩
      refine DT.step [(29, _)] rfl ⟨rfl, trivial⟩ rfl (fun wq_17 kq_17 => ?_)
      have zs_kq_17 := kq_17.size
      replace ha := ha.pure kq_17
      replace hw := hw.pure kq_17
      replace hp := hp.pure kq_17
      replace hd_2 := hd_2.pure kq_17
      replace hq := hq.pure kq_17
      refine WL.extract rfl rfl rfl (?_)
      refine WL.nil ?_
      refine WX.one ⟨hd_2, ?_⟩
      refine ⟨?_, trivial⟩
      refine DT.step [(42, _)] rfl ⟨rfl, trivial⟩ rfl (fun wq_18 kq_18 => ?_)
      have zs_kq_18 := kq_18.size
      replace ha := ha.pure kq_18
      replace hw := hw.pure kq_18
      replace hp := hp.pure kq_18
      replace hd_2 := hd_2.pure kq_18
      replace hq := hq.pure kq_18
      refine WL.assign rfl rfl (?_)
      refine WL.nil ?_
      refine WX.one ⟨hd_2, ?_⟩
      refine DT.done (fun we_19 ke_19 => ?_) _
      have zs_ke_19 := ke_19.size
      replace ha := ha.pure ke_19
      replace hw := hw.pure ke_19
      replace hp := hp.pure ke_19
      replace hd_2 := hd_2.pure ke_19
      replace hq := hq.pure ke_19
      rotate_left
      refine DT.step [(29, _)] rfl ⟨rfl, trivial⟩ rfl (fun wq_15 kq_15 => ?_)
      have zs_kq_15 := kq_15.size
      replace ha := ha.pure kq_15
      replace hw := hw.pure kq_15
      replace hp := hp.pure kq_15
      replace hd_2 := hd_2.pure kq_15
      replace hq := hq.pure kq_15
      refine WL.extract rfl rfl rfl (?_)
      refine WL.nil ?_
      refine WX.one ⟨hd_2, ?_⟩
      refine ⟨?_, trivial, trivial, trivial⟩
      refine DT.step [(29, _)] rfl ⟨rfl, trivial⟩ rfl (fun wq_16 kq_16 => ?_)
      have zs_kq_16 := kq_16.size
      replace ha := ha.pure kq_16
      replace hw := hw.pure kq_16
      replace hp := hp.pure kq_16
      replace hd_2 := hd_2.pure kq_16
      replace hq := hq.pure kq_16
      refine WL.extract rfl rfl rfl (?_)
      refine WL.nil ?_
      refine WX.one ⟨hd_2, ?_⟩
      refine ⟨?_, trivial, trivial⟩
      refine DT.step [(41, _)] rfl ⟨rfl, trivial⟩ rfl (fun wq_17 kq_17 => ?_)
      have zs_kq_17 := kq_17.size
      replace ha := ha.pure kq_17
      replace hw := hw.pure kq_17
      replace hp := hp.pure kq_17
      replace hd_2 := hd_2.pure kq_17
      replace hq := hq.pure kq_17
      refine WL.assign rfl rfl (?_)
      refine WL.nil ?_
      refine WX.one ⟨hd_2, ?_⟩
      refine ⟨?_, trivial⟩
      refine DT.step [(42, _)] rfl ⟨rfl, trivial⟩ rfl (fun wq_18 kq_18 => ?_)
      have zs_kq_18 := kq_18.size
      replace ha := ha.pure kq_18
      replace hw := hw.pure kq_18
      replace hp := hp.pure kq_18
      replace hd_2 := hd_2.pure kq_18
      replace hq := hq.pure kq_18
      refine WL.assign rfl rfl (?_)
      refine WL.nil ?_
      refine WX.one ⟨hd_2, ?_⟩
      refine DT.done (fun we_19 ke_19 => ?_) _
      have zs_ke_19 := ke_19.size
      replace ha := ha.pure ke_19
      replace hw := hw.pure ke_19
      replace hp := hp.pure ke_19
      replace hd_2 := hd_2.pure ke_19
      replace hq := hq.pure ke_19
      rotate_left
      refine DT.step [(36, _)] rfl ⟨rfl, trivial⟩ rfl (fun wq_8 kq_8 => ?_)
      have zs_kq_8 := kq_8.size
      replace ha := ha.pure kq_8
      replace hw := hw.pure kq_8
      replace hp := hp.pure kq_8
      replace hd_2 := hd_2.pure kq_8
      refine WL.make (e := eb) (0 : UInt8) m0 m0 Try.underlying28 info_5 rfl rfl rfl ⟨by show (rxs.length : Int) = m0; omega, by show (rxs.length : Int) = m0; omega, Nat.le_refl _⟩ (by constructor <;> omega) rfl ?_
      intro g7 w7 hm7 k7 z7 eg7
      have hg7 : Row (fun b => b = g7) w7 5 eb (some ⟨g7, 0, none⟩) m0 (List.replicate m0 0) := ⟨fun a ea => by injection ea with ea; subst ea; rfl, hm7.own⟩
      have hg7lt : g7 < w7.heap.size := by omega
      have zs_k7 := k7.size
      replace ha := ha.pure k7
      replace hw := hw.pure k7
      replace hp := hp.pure k7
      replace hd_2 := hd_2.pure k7
      refine WL.nil ?_
      refine WX.one ⟨hd_2, ?_⟩
      refine ⟨?_, trivial, ?_, trivial, trivial, trivial, trivial, trivial, trivial, trivial, trivial⟩
      refine DT.step [] rfl trivial rfl (fun wq_9 kq_9 => ?_)
      have zs_kq_9 := kq_9.size
      replace ha := ha.pure kq_9
      replace hw := hw.pure kq_9
      replace hp := hp.pure kq_9
      replace hd_2 := hd_2.pure kq_9
      replace hg7 := hg7.pure kq_9
      refine WL.build (e := erow) [] Try.underlying22 Try.sizeOf28 Try.zeroValue28 rfl rfl rfl (by first | (simp [Value.cells]; done) | (simp [Value.cells] <;> rfl) | (simp [Value.cells, eb, ei, es, ebool, e32, e64]; done)) (by decide) rfl ?_
      intro a_b0 w_b0 b0 l_b0 z_b0 k_b0
      have zs_k_b0 := k_b0.size
      replace ha := ha.pure k_b0
      replace hw := hw.pure k_b0
      replace hp := hp.pure k_b0
      replace hd_2 := hd_2.pure k_b0
      replace hg7 := hg7.pure k_b0
      refine WL.nil ?_
      refine WX.one ⟨hd_2, ?_⟩
      refine ⟨?_, ?_, trivial, trivial, trivial, trivial, trivial, trivial, trivial, trivial⟩
      refine DT.step [(30, _), (31, _)] rfl ⟨rfl, rfl, trivial⟩ rfl (fun wq_10 kq_10 => ?_)
      have zs_kq_10 := kq_10.size
      replace ha := ha.pure kq_10
      replace hw := hw.pure kq_10
      replace hp := hp.pure kq_10
      replace hd_2 := hd_2.pure kq_10
      replace hg7 := hg7.pure kq_10
      replace b0 := b0.pure kq_10
      refine WL.append0 (e := erow) info_28 rfl Try.underlying22 rfl rfl b0 (ha.outer.src Try.underlying22) hpos (by constructor <;> omega) rfl ?_
      intro g2 c2 w2 hb2 k2 eg2 z2
      have hg2lt : g2 < w2.heap.size := by omega
      have zs_k2 := k2.size
      replace ha := ha.pure k2
      replace hw := hw.pure k2
      replace hp := hp.pure k2
      replace hd_2 := hd_2.pure k2
      replace hg7 := hg7.pure k2
      refine WL.nil ?_
      refine WX.one ⟨hd_2, ?_⟩
      refine ⟨?_, trivial, trivial, trivial, trivial, trivial, trivial, trivial, trivial⟩
      refine DT.step [(37, _)] rfl ⟨rfl, trivial⟩ rfl (fun wq_11 kq_11 => ?_)
      have zs_kq_11 := kq_11.size
      replace ha := ha.pure kq_11
      replace hw := hw.pure kq_11
      replace hp := hp.pure kq_11
      replace hd_2 := hd_2.pure kq_11
      replace hg7 := hg7.pure kq_11
      replace hb2 := hb2.pure kq_11
      refine WL.build (e := erow) [⟨some ⟨g7, 0, none⟩, m0, List.replicate m0 0⟩] Try.underlying22 Try.sizeOf28 Try.zeroValue28 rfl rfl rfl (by first | (simp [Value.cells]; done) | (simp [Value.cells] <;> rfl) | (simp [Value.cells, eb, ei, es, ebool, e32, e64]; done)) (by decide) rfl ?_
      intro a_b8 w_b8 b8 l_b8 z_b8 k_b8
      have zs_k_b8 := k_b8.size
      replace ha := ha.pure k_b8
      replace hw := hw.pure k_b8
      replace hp := hp.pure k_b8
      replace hd_2 := hd_2.pure k_b8
      replace hg7 := hg7.pure k_b8
      replace hb2 := hb2.pure k_b8
      refine WL.nil ?_
      refine WX.one ⟨hd_2, ?_⟩
      refine ⟨?_, trivial, trivial, trivial, trivial, trivial, trivial, trivial⟩
      refine DT.step [(32, _), (38, _)] rfl ⟨rfl, rfl, trivial⟩ rfl (fun wq_12 kq_12 => ?_)
      have zs_kq_12 := kq_12.size
      replace ha := ha.pure kq_12
      replace hw := hw.pure kq_12
      replace hp := hp.pure kq_12
      replace hd_2 := hd_2.pure kq_12
      replace hg7 := hg7.pure kq_12
      replace hb2 := hb2.pure kq_12
      replace b8 := b8.pure kq_12
      have hne72 : g7 ≠ g2 := by omega
      refine WL.append (e := erow) info_28 rfl Try.underlying22 rfl rfl (hb2.mono (S' := fun x => g2 ≤ x) (fun b h => by have h3 : b = g2 := h; omega)) (b8.rsl.src Try.underlying22) (by constructor <;> (simp only [List.length_cons, List.length_nil]; omega)) (fun b hb => by omega) rfl ?_
      intro ao9 c9 w9 hb9 gg9 n9
      have gc : Chg (fun x => x = g2) _ w9 := gg9.chg.mono (by rintro x _ ⟨⟨a, ea, rfl⟩, _⟩; injection ea with ea; rw [← ea])
      have zs_gc := gc.size
      replace ha := ha.chg gc (by first | (intro x h1 h2; exact h2) | (intro x h1 h2; have h3 : _ = _ := h2; exfalso; omega) | (intro b h1 h2 h3; have h4 : _ = _ := h3; (try dsimp only at h2); exfalso; omega) | (intro h1; have h2 : _ = _ := h1; exfalso; omega) | (intros; exfalso; (try dsimp only at *); omega) | (intro b h1 h2 h3; exfalso; have h4 := h3.2; (try dsimp only at *); omega) | (intro h1; exfalso; have h4 := h1.2; (try dsimp only at *); omega) | (intro x h1 h2; exfalso; have h4 := h2.2; (try dsimp only at *); omega) | (intro x h1 h2; exact h2.1))
      replace hw := hw.chg gc (by first | (intro x h1 h2; exact h2) | (intro x h1 h2; have h3 : _ = _ := h2; exfalso; omega) | (intro b h1 h2 h3; have h4 : _ = _ := h3; (try dsimp only at h2); exfalso; omega) | (intro h1; have h2 : _ = _ := h1; exfalso; omega) | (intros; exfalso; (try dsimp only at *); omega) | (intro b h1 h2 h3; exfalso; have h4 := h3.2; (try dsimp only at *); omega) | (intro h1; exfalso; have h4 := h1.2; (try dsimp only at *); omega) | (intro x h1 h2; exfalso; have h4 := h2.2; (try dsimp only at *); omega) | (intro x h1 h2; exact h2.1))
      replace hp := hp.chg gc (by first | (intro x h1 h2; exact h2) | (intro x h1 h2; have h3 : _ = _ := h2; exfalso; omega) | (intro b h1 h2 h3; have h4 : _ = _ := h3; (try dsimp only at h2); exfalso; omega) | (intro h1; have h2 : _ = _ := h1; exfalso; omega) | (intros; exfalso; (try dsimp only at *); omega) | (intro b h1 h2 h3; exfalso; have h4 := h3.2; (try dsimp only at *); omega) | (intro h1; exfalso; have h4 := h1.2; (try dsimp only at *); omega) | (intro x h1 h2; exfalso; have h4 := h2.2; (try dsimp only at *); omega) | (intro x h1 h2; exact h2.1))
      replace hd_2 := hd_2.chg gc (by first | (intro x h1 h2; exact h2) | (intro x h1 h2; have h3 : _ = _ := h2; exfalso; omega) | (intro b h1 h2 h3; have h4 : _ = _ := h3; (try dsimp only at h2); exfalso; omega) | (intro h1; have h2 : _ = _ := h1; exfalso; omega) | (intros; exfalso; (try dsimp only at *); omega) | (intro b h1 h2 h3; exfalso; have h4 := h3.2; (try dsimp only at *); omega) | (intro h1; exfalso; have h4 := h1.2; (try dsimp only at *); omega) | (intro x h1 h2; exfalso; have h4 := h2.2; (try dsimp only at *); omega) | (intro x h1 h2; exact h2.1))
      replace hg7 := hg7.chg gc (by first | (intro x h1 h2; exact h2) | (intro x h1 h2; have h3 : _ = _ := h2; exfalso; omega) | (intro b h1 h2 h3; have h4 : _ = _ := h3; (try dsimp only at h2); exfalso; omega) | (intro h1; have h2 : _ = _ := h1; exfalso; omega) | (intros; exfalso; (try dsimp only at *); omega) | (intro b h1 h2 h3; exfalso; have h4 := h3.2; (try dsimp only at *); omega) | (intro h1; exfalso; have h4 := h1.2; (try dsimp only at *); omega) | (intro x h1 h2; exfalso; have h4 := h2.2; (try dsimp only at *); omega) | (intro x h1 h2; exact h2.1))
      refine WL.nil ?_
      refine WX.one ⟨hd_2, ?_⟩
      refine ⟨?_, trivial, trivial, trivial, trivial, trivial, trivial⟩
      refine DT.step [(39, _)] rfl ⟨rfl, trivial⟩ rfl (fun wq_13 kq_13 => ?_)
      have zs_kq_13 := kq_13.size
      replace ha := ha.pure kq_13
      replace hw := hw.pure kq_13
      replace hp := hp.pure kq_13
      replace hd_2 := hd_2.pure kq_13
      replace hg7 := hg7.pure kq_13
      replace hb9 := hb9.pure kq_13
      have hR9 := RS.grown hb9 ha hg7
      have hx9 : xss (ra ++ [⟨some ⟨g7, 0, none⟩, m0, List.replicate m0 0⟩]) = xss ra ++ [List.replicate m0 0] := by rw [xss_app]; rfl
      have hal9 : ∀ d ∈ xss (ra ++ [⟨some ⟨g7, 0, none⟩, m0, List.replicate m0 0⟩]), d.length = m0 := by
        rw [hx9]
        intro d hd
        rcases List.mem_append.1 hd with h1 | h1
        ·
          exact hall d h1
        ·
          simp at h1
          rw [h1, List.length_replicate]
      have hn9 : lenC (xss (ra ++ [⟨some ⟨g7, 0, none⟩, m0, List.replicate m0 0⟩])) = (m0 : Int) := by
        rw [lenC_of (fun e => by rw [hx9] at e; simp at e) hal9, if_pos ⟨hn1, hn2⟩]
      refine WL.call eg_9 rfl rfl (make_rs hR9 (by rw [List.length_append]; show ra.length + 1 ≤ 13; omega) hn9) ?_
      rintro v w4 ⟨⟨aq, cq, qs, rfl, hq, hqs⟩, k4⟩
      have hqs2 : xss qs = xss ps := by rw [hqs, hps, hx9, List.length_append, ← hxl]; exact three_grow hall
      have zs_k4 := k4.size
      replace ha := ha.pure k4
      replace hw := hw.pure k4
      replace hp := hp.pure k4
      replace hd_2 := hd_2.pure k4
      replace hq := hq.old
      refine WL.nil ?_
      refine WX.one ⟨hd_2, ?_⟩
      refine ⟨?_, trivial, trivial, trivial, trivial, trivial⟩
      refine DT.step [(40, _)] rfl ⟨rfl, trivial⟩ rfl (fun wq_14 kq_14 => ?_)
      have zs_kq_14 := kq_14.size
      replace ha := ha.pure kq_14
      replace hw := hw.pure kq_14
      replace hp := hp.pure kq_14
      replace hd_2 := hd_2.pure kq_14
      replace hq := hq.pure kq_14
      refine WL.move rfl rfl (?_)
      refine WL.nil ?_
      refine WX.one ⟨hd_2, ?_⟩
      refine ⟨?_, ?_, trivial, trivial, trivial⟩
      refine DT.step [(29, _)] rfl ⟨rfl, trivial⟩ rfl (fun wq_15 kq_15 => ?_)
      have zs_kq_15 := kq_15.size
      replace ha := ha.pure kq_15
      replace hw := hw.pure kq_15
      replace hp := hp.pure kq_15
      replace hd_2 := hd_2.pure kq_15
      replace hq := hq.pure kq_15
      refine WL.extract rfl rfl rfl (?_)
      refine WL.nil ?_
      refine WX.one ⟨hd_2, ?_⟩
      refine ⟨?_, ?_, trivial, trivial⟩
      refine DT.step [(29, _)] rfl ⟨rfl, trivial⟩ rfl (fun wq_16 kq_16 => ?_)
      have zs_kq_16 := kq_16.size
      replace ha := ha.pure kq_16
      replace hw := hw.pure kq_16
      replace hp := hp.pure kq_16
      replace hd_2 := hd_2.pure kq_16
      replace hq := hq.pure kq_16
      refine WL.extract rfl rfl rfl (?_)
      refine WL.nil ?_
      refine WX.one ⟨hd_2, ?_⟩
      refine ⟨?_, trivial, trivial⟩
      refine DT.step [(41, _)] rfl ⟨rfl, trivial⟩ rfl (fun wq_17 kq_17 => ?_)
      have zs_kq_17 := kq_17.size
      replace ha := ha.pure kq_17
      replace hw := hw.pure kq_17
      replace hp := hp.pure kq_17
      replace hd_2 := hd_2.pure kq_17
      replace hq := hq.pure kq_17
      refine WL.assign rfl rfl (?_)
      refine WL.nil ?_
      refine WX.one ⟨hd_2, ?_⟩
      refine ⟨?_, trivial⟩
      refine DT.step [(42, _)] rfl ⟨rfl, trivial⟩ rfl (fun wq_18 kq_18 => ?_)
      have zs_kq_18 := kq_18.size
      replace ha := ha.pure kq_18
      replace hw := hw.pure kq_18
      replace hp := hp.pure kq_18
      replace hd_2 := hd_2.pure kq_18
      replace hq := hq.pure kq_18
      refine WL.assign rfl rfl (?_)
      refine WL.nil ?_
      refine WX.one ⟨hd_2, ?_⟩
      refine DT.done (fun we_19 ke_19 => ?_) _
      have zs_ke_19 := ke_19.size
      replace ha := ha.pure ke_19
      replace hw := hw.pure ke_19
      replace hp := hp.pure ke_19
      replace hd_2 := hd_2.pure ke_19
      replace hq := hq.pure ke_19
      rotate_left
      refine DT.step [(41, _)] rfl ⟨rfl, trivial⟩ rfl (fun wq_16 kq_16 => ?_)
      have zs_kq_16 := kq_16.size
      replace ha := ha.pure kq_16
      replace hw := hw.pure kq_16
      replace hp := hp.pure kq_16
      replace hd_2 := hd_2.pure kq_16
      replace hq := hq.pure kq_16
      refine WL.assign rfl rfl (?_)
      refine WL.nil ?_
      refine WX.one ⟨hd_2, ?_⟩
      refine ⟨?_, trivial, trivial⟩
      refine DT.step [(29, _)] rfl ⟨rfl, trivial⟩ rfl (fun wq_17 kq_17 => ?_)
      have zs_kq_17 := kq_17.size
      replace ha := ha.pure kq_17
      replace hw := hw.pure kq_17
      replace hp := hp.pure kq_17
      replace hd_2 := hd_2.pure kq_17
      replace hq := hq.pure kq_17
      refine WL.extract rfl rfl rfl (?_)
      refine WL.nil ?_
      refine WX.one ⟨hd_2, ?_⟩
      refine ⟨?_, trivial⟩
      refine DT.step [(42, _)] rfl ⟨rfl, trivial⟩ rfl (fun wq_18 kq_18 => ?_)
      have zs_kq_18 := kq_18.size
      replace ha := ha.pure kq_18
      replace hw := hw.pure kq_18
      replace hp := hp.pure kq_18
      replace hd_2 := hd_2.pure kq_18
      replace hq := hq.pure kq_18
      refine WL.assign rfl rfl (?_)
      refine WL.nil ?_
      refine WX.one ⟨hd_2, ?_⟩
      refine DT.done (fun we_19 ke_19 => ?_) _
      have zs_ke_19 := ke_19.size
      replace ha := ha.pure ke_19
      replace hw := hw.pure ke_19
      replace hp := hp.pure ke_19
      replace hd_2 := hd_2.pure ke_19
      replace hq := hq.pure ke_19
      rotate_left
      refine DT.step [(29, _)] rfl ⟨rfl, trivial⟩ rfl (fun wq_15 kq_15 => ?_)
      have zs_kq_15 := kq_15.size
      replace ha := ha.pure kq_15
      replace hw := hw.pure kq_15
      replace hp := hp.pure kq_15
      replace hd_2 := hd_2.pure kq_15
      replace hq := hq.pure kq_15
      refine WL.extract rfl rfl rfl (?_)
      refine WL.nil ?_
      refine WX.one ⟨hd_2, ?_⟩
      refine ⟨?_, trivial, trivial, trivial⟩
      refine DT.step [(29, _)] rfl ⟨rfl, trivial⟩ rfl (fun wq_16 kq_16 => ?_)
      have zs_kq_16 := kq_16.size
      replace ha := ha.pure kq_16
      replace hw := hw.pure kq_16
      replace hp := hp.pure kq_16
      replace hd_2 := hd_2.pure kq_16
      replace hq := hq.pure kq_16
      refine WL.extract rfl rfl rfl (?_)
      refine WL.nil ?_
      refine WX.one ⟨hd_2, ?_⟩
      refine ⟨?_, trivial, trivial⟩
      refine DT.step [(41, _)] rfl ⟨rfl, trivial⟩ rfl (fun wq_17 kq_17 => ?_)
      have zs_kq_17 := kq_17.size
      replace ha := ha.pure kq_17
      replace hw := hw.pure kq_17
      replace hp := hp.pure kq_17
      replace hd_2 := hd_2.pure kq_17
      replace hq := hq.pure kq_17
      refine WL.assign rfl rfl (?_)
      refine WL.nil ?_
      refine WX.one ⟨hd_2, ?_⟩
      refine ⟨?_, trivial⟩
      refine DT.step [(42, _)] rfl ⟨rfl, trivial⟩ rfl (fun wq_18 kq_18 => ?_)
      have zs_kq_18 := kq_18.size
      replace ha := ha.pure kq_18
      replace hw := hw.pure kq_18
      replace hp := hp.pure kq_18
      replace hd_2 := hd_2.pure kq_18
      replace hq := hq.pure kq_18
      refine WL.assign rfl rfl (?_)
      refine WL.nil ?_
      refine WX.one ⟨hd_2, ?_⟩
      refine DT.done (fun we_19 ke_19 => ?_) _
      have zs_ke_19 := ke_19.size
      replace ha := ha.pure ke_19
      replace hw := hw.pure ke_19
      replace hp := hp.pure ke_19
      replace hd_2 := hd_2.pure ke_19
      replace hq := hq.pure ke_19
      rotate_left
      refine DT.step [(37, _)] rfl ⟨rfl, trivial⟩ rfl (fun wq_10 kq_10 => ?_)
      have zs_kq_10 := kq_10.size
      replace ha := ha.pure kq_10
      replace hw := hw.pure kq_10
      replace hp := hp.pure kq_10
      replace hd_2 := hd_2.pure kq_10
      replace hg7 := hg7.pure kq_10
      replace b0 := b0.pure kq_10
      refine WL.build (e := erow) [⟨some ⟨g7, 0, none⟩, m0, List.replicate m0 0⟩] Try.underlying22 Try.sizeOf28 Try.zeroValue28 rfl rfl rfl (by first | (simp [Value.cells]; done) | (simp [Value.cells] <;> rfl) | (simp [Value.cells, eb, ei, es, ebool, e32, e64]; done)) (by decide) rfl ?_
      intro a_b8 w_b8 b8 l_b8 z_b8 k_b8
      have zs_k_b8 := k_b8.size
      replace ha := ha.pure k_b8
      replace hw := hw.pure k_b8
      replace hp := hp.pure k_b8
      replace hd_2 := hd_2.pure k_b8
      replace hg7 := hg7.pure k_b8
      replace b0 := b0.pure k_b8
      refine WL.nil ?_
      refine WX.one ⟨hd_2, ?_⟩
      refine ⟨?_, trivial, trivial, trivial, trivial, trivial, trivial, trivial, trivial⟩
      refine DT.step [(30, _), (31, _)] rfl ⟨rfl, rfl, trivial⟩ rfl (fun wq_11 kq_11 => ?_)
      have zs_kq_11 := kq_11.size
      replace ha := ha.pure kq_11
      replace hw := hw.pure kq_11
      replace hp := hp.pure kq_11
      replace hd_2 := hd_2.pure kq_11
      replace hg7 := hg7.pure kq_11
      replace b0 := b0.pure kq_11
      replace b8 := b8.pure kq_11
      refine WL.append0 (e := erow) info_28 rfl Try.underlying22 rfl rfl b0 (ha.outer.src Try.underlying22) hpos (by constructor <;> omega) rfl ?_
      intro g2 c2 w2 hb2 k2 eg2 z2
      have hg2lt : g2 < w2.heap.size := by omega
      have zs_k2 := k2.size
      replace ha := ha.pure k2
      replace hw := hw.pure k2
      replace hp := hp.pure k2
      replace hd_2 := hd_2.pure k2
      replace hg7 := hg7.pure k2
      replace b8 := b8.pure k2
      refine WL.nil ?_
      refine WX.one ⟨hd_2, ?_⟩
      refine ⟨?_, trivial, trivial, trivial, trivial, trivial, trivial, trivial⟩
      refine DT.step [(32, _), (38, _)] rfl ⟨rfl, rfl, trivial⟩ rfl (fun wq_12 kq_12 => ?_)
      have zs_kq_12 := kq_12.size
      replace ha := ha.pure kq_12
      replace hw := hw.pure kq_12
      replace hp := hp.pure kq_12
      replace hd_2 := hd_2.pure kq_12
      replace hg7 := hg7.pure kq_12
      replace b8 := b8.pure kq_12
      replace hb2 := hb2.pure kq_12
      have hne72 : g7 ≠ g2 := by omega
      refine WL.append (e := erow) info_28 rfl Try.underlying22 rfl rfl (hb2.mono (S' := fun x => g2 ≤ x) (fun b h => by have h3 : b = g2 := h; omega)) (b8.rsl.src Try.underlying22) (by constructor <;> (simp only [List.length_cons, List.length_nil]; omega)) (fun b hb => by omega) rfl ?_
      intro ao9 c9 w9 hb9 gg9 n9
      have gc : Chg (fun x => x = g2) _ w9 := gg9.chg.mono (by rintro x _ ⟨⟨a, ea, rfl⟩, _⟩; injection ea with ea; rw [← ea])
      have zs_gc := gc.size
      replace ha := ha.chg gc (by first | (intro x h1 h2; exact h2) | (intro x h1 h2; have h3 : _ = _ := h2; exfalso; omega) | (intro b h1 h2 h3; have h4 : _ = _ := h3; (try dsimp only at h2); exfalso; omega) | (intro h1; have h2 : _ = _ := h1; exfalso; omega) | (intros; exfalso; (try dsimp only at *); omega) | (intro b h1 h2 h3; exfalso; have h4 := h3.2; (try dsimp only at *); omega) | (intro h1; exfalso; have h4 := h1.2; (try dsimp only at *); omega) | (intro x h1 h2; exfalso; have h4 := h2.2; (try dsimp only at *); omega) | (intro x h1 h2; exact h2.1))
      replace hw := hw.chg gc (by first | (intro x h1 h2; exact h2) | (intro x h1 h2; have h3 : _ = _ := h2; exfalso; omega) | (intro b h1 h2 h3; have h4 : _ = _ := h3; (try dsimp only at h2); exfalso; omega) | (intro h1; have h2 : _ = _ := h1; exfalso; omega) | (intros; exfalso; (try dsimp only at *); omega) | (intro b h1 h2 h3; exfalso; have h4 := h3.2; (try dsimp only at *); omega) | (intro h1; exfalso; have h4 := h1.2; (try dsimp only at *); omega) | (intro x h1 h2; exfalso; have h4 := h2.2; (try dsimp only at *); omega) | (intro x h1 h2; exact h2.1))
      replace hp := hp.chg gc (by first | (intro x h1 h2; exact h2) | (intro x h1 h2; have h3 : _ = _ := h2; exfalso; omega) | (intro b h1 h2 h3; have h4 : _ = _ := h3; (try dsimp only at h2); exfalso; omega) | (intro h1; have h2 : _ = _ := h1; exfalso; omega) | (intros; exfalso; (try dsimp only at *); omega) | (intro b h1 h2 h3; exfalso; have h4 := h3.2; (try dsimp only at *); omega) | (intro h1; exfalso; have h4 := h1.2; (try dsimp only at *); omega) | (intro x h1 h2; exfalso; have h4 := h2.2; (try dsimp only at *); omega) | (intro x h1 h2; exact h2.1))
      replace hd_2 := hd_2.chg gc (by first | (intro x h1 h2; exact h2) | (intro x h1 h2; have h3 : _ = _ := h2; exfalso; omega) | (intro b h1 h2 h3; have h4 : _ = _ := h3; (try dsimp only at h2); exfalso; omega) | (intro h1; have h2 : _ = _ := h1; exfalso; omega) | (intros; exfalso; (try dsimp only at *); omega) | (intro b h1 h2 h3; exfalso; have h4 := h3.2; (try dsimp only at *); omega) | (intro h1; exfalso; have h4 := h1.2; (try dsimp only at *); omega) | (intro x h1 h2; exfalso; have h4 := h2.2; (try dsimp only at *); omega) | (intro x h1 h2; exact h2.1))
      replace hg7 := hg7.chg gc (by first | (intro x h1 h2; exact h2) | (intro x h1 h2; have h3 : _ = _ := h2; exfalso; omega) | (intro b h1 h2 h3; have h4 : _ = _ := h3; (try dsimp only at h2); exfalso; omega) | (intro h1; have h2 : _ = _ := h1; exfalso; omega) | (intros; exfalso; (try dsimp only at *); omega) | (intro b h1 h2 h3; exfalso; have h4 := h3.2; (try dsimp only at *); omega) | (intro h1; exfalso; have h4 := h1.2; (try dsimp only at *); omega) | (intro x h1 h2; exfalso; have h4 := h2.2; (try dsimp only at *); omega) | (intro x h1 h2; exact h2.1))
      refine WL.nil ?_
      refine WX.one ⟨hd_2, ?_⟩
      refine ⟨?_, trivial, trivial, trivial, trivial, trivial, trivial⟩
      refine DT.step [(39, _)] rfl ⟨rfl, trivial⟩ rfl (fun wq_13 kq_13 => ?_)
      have zs_kq_13 := kq_13.size
      replace ha := ha.pure kq_13
      replace hw := hw.pure kq_13
      replace hp := hp.pure kq_13
      replace hd_2 := hd_2.pure kq_13
      replace hg7 := hg7.pure kq_13
      replace hb9 := hb9.pure kq_13
      have hR9 := RS.grown hb9 ha hg7
      have hx9 : xss (ra ++ [⟨some ⟨g7, 0, none⟩, m0, List.replicate m0 0⟩]) = xss ra ++ [List.replicate m0 0] := by rw [xss_app]; rfl
      have hal9 : ∀ d ∈ xss (ra ++ [⟨some ⟨g7, 0, none⟩, m0, List.replicate m0 0⟩]), d.length = m0 := by
        rw [hx9]
        intro d hd
        rcases List.mem_append.1 hd with h1 | h1
        ·
          exact hall d h1
        ·
          simp at h1
          rw [h1, List.length_replicate]
      have hn9 : lenC (xss (ra ++ [⟨some ⟨g7, 0, none⟩, m0, List.replicate m0 0⟩])) = (m0 : Int) := by
        rw [lenC_of (fun e => by rw [hx9] at e; simp at e) hal9, if_pos ⟨hn1, hn2⟩]
      refine WL.call eg_9 rfl rfl (make_rs hR9 (by rw [List.length_append]; show ra.length + 1 ≤ 13; omega) hn9) ?_
      rintro v w4 ⟨⟨aq, cq, qs, rfl, hq, hqs⟩, k4⟩
      have hqs2 : xss qs = xss ps := by rw [hqs, hps, hx9, List.length_append, ← hxl]; exact three_grow hall
      have zs_k4 := k4.size
      replace ha := ha.pure k4
      replace hw := hw.pure k4
      replace hp := hp.pure k4
      replace hd_2 := hd_2.pure k4
      replace hq := hq.old
      refine WL.nil ?_
      refine WX.one ⟨hd_2, ?_⟩
      refine ⟨?_, trivial, trivial, trivial, trivial, trivial⟩
      refine DT.step [(40, _)] rfl ⟨rfl, trivial⟩ rfl (fun wq_14 kq_14 => ?_)
      have zs_kq_14 := kq_14.size
      replace ha := ha.pure kq_14
      replace hw := hw.pure kq_14
      replace hp := hp.pure kq_14
      replace hd_2 := hd_2.pure kq_14
      replace hq := hq.pure kq_14
      refine WL.move rfl rfl (?_)
      refine WL.nil ?_
      refine WX.one ⟨hd_2, ?_⟩
      refine ⟨?_, ?_, trivial, trivial, trivial⟩
      refine DT.step [(29, _)] rfl ⟨rfl, trivial⟩ rfl (fun wq_15 kq_15 => ?_)
      have zs_kq_15 := kq_15.size
      replace ha := ha.pure kq_15
      replace hw := hw.pure kq_15
      replace hp := hp.pure kq_15
      replace hd_2 := hd_2.pure kq_15
      replace hq := hq.pure kq_15
      refine WL.extract rfl rfl rfl (?_)
      refine WL.nil ?_
      refine WX.one ⟨hd_2, ?_⟩
      refine ⟨?_, ?_, trivial, trivial⟩
      refine DT.step [(29, _)] rfl ⟨rfl, trivial⟩ rfl (fun wq_16 kq_16 => ?_)
      have zs_kq_16 := kq_16.size
      replace ha := ha.pure kq_16
      replace hw := hw.pure kq_16
      replace hp := hp.pure kq_16
      replace hd_2 := hd_2.pure kq_16
      replace hq := hq.pure kq_16
      refine WL.extract rfl rfl rfl (?_)
      refine WL.nil ?_
      refine WX.one ⟨hd_2, ?_⟩
      refine ⟨?_, trivial, trivial⟩
      refine DT.step [(41, _)] rfl ⟨rfl, trivial⟩ rfl (fun wq_17 kq_17 => ?_)
      have zs_kq_17 := kq_17.size
      replace ha := ha.pure kq_17
      replace hw := hw.pure kq_17
      replace hp := hp.pure kq_17
      replace hd_2 := hd_2.pure kq_17
      replace hq := hq.pure kq_17
      refine WL.assign rfl rfl (?_)
      refine WL.nil ?_
      refine WX.one ⟨hd_2, ?_⟩
      refine ⟨?_, trivial⟩
      refine DT.step [(42, _)] rfl ⟨rfl, trivial⟩ rfl (fun wq_18 kq_18 => ?_)
      have zs_kq_18 := kq_18.size
      replace ha := ha.pure kq_18
      replace hw := hw.pure kq_18
      replace hp := hp.pure kq_18
      replace hd_2 := hd_2.pure kq_18
      replace hq := hq.pure kq_18
      refine WL.assign rfl rfl (?_)
      refine WL.nil ?_
      refine WX.one ⟨hd_2, ?_⟩
      refine DT.done (fun we_19 ke_19 => ?_) _
      have zs_ke_19 := ke_19.size
      replace ha := ha.pure ke_19
      replace hw := hw.pure ke_19
      replace hp := hp.pure ke_19
      replace hd_2 := hd_2.pure ke_19
      replace hq := hq.pure ke_19
      rotate_left
      refine DT.step [(41, _)] rfl ⟨rfl, trivial⟩ rfl (fun wq_16 kq_16 => ?_)
      have zs_kq_16 := kq_16.size
      replace ha := ha.pure kq_16
      replace hw := hw.pure kq_16
      replace hp := hp.pure kq_16
      replace hd_2 := hd_2.pure kq_16
      replace hq := hq.pure kq_16
      refine WL.assign rfl rfl (?_)
      refine WL.nil ?_
      refine WX.one ⟨hd_2, ?_⟩
      refine ⟨?_, trivial, trivial⟩
      refine DT.step [(29, _)] rfl ⟨rfl, trivial⟩ rfl (fun wq_17 kq_17 => ?_)
      have zs_kq_17 := kq_17.size
      replace ha := ha.pure kq_17
      replace hw := hw.pure kq_17
      replace hp := hp.pure kq_17
      replace hd_2 := hd_2.pure kq_17
      replace hq := hq.pure kq_17
      refine WL.extract rfl rfl rfl (?_)
      refine WL.nil ?_
      refine WX.one ⟨hd_2, ?_⟩
      refine ⟨?_, trivial⟩
      refine DT.step [(42, _)] rfl ⟨rfl, trivial⟩ rfl (fun wq_18 kq_18 => ?_)
      have zs_kq_18 := kq_18.size
      replace ha := ha.pure kq_18
      replace hw := hw.pure kq_18
      replace hp := hp.pure kq_18
      replace hd_2 := hd_2.pure kq_18
      replace hq := hq.pure kq_18
      refine WL.assign rfl rfl (?_)
      refine WL.nil ?_
      refine WX.one ⟨hd_2, ?_⟩
      refine DT.done (fun we_19 ke_19 => ?_) _
      have zs_ke_19 := ke_19.size
      replace ha := ha.pure ke_19
      replace hw := hw.pure ke_19
      replace hp := hp.pure ke_19
      replace hd_2 := hd_2.pure ke_19
      replace hq := hq.pure ke_19
      rotate_left
      refine DT.step [(29, _)] rfl ⟨rfl, trivial⟩ rfl (fun wq_15 kq_15 => ?_)
      have zs_kq_15 := kq_15.size
      replace ha := ha.pure kq_15
      replace hw := hw.pure kq_15
      replace hp := hp.pure kq_15
      replace hd_2 := hd_2.pure kq_15
      replace hq := hq.pure kq_15
      refine WL.extract rfl rfl rfl (?_)
      refine WL.nil ?_
      refine WX.one ⟨hd_2, ?_⟩
      refine ⟨?_, trivial, trivial, trivial⟩
      refine DT.step [(29, _)] rfl ⟨rfl, trivial⟩ rfl (fun wq_16 kq_16 => ?_)
      have zs_kq_16 := kq_16.size
      replace ha := ha.pure kq_16
      replace hw := hw.pure kq_16
      replace hp := hp.pure kq_16
      replace hd_2 := hd_2.pure kq_16
      replace hq := hq.pure kq_16
      refine WL.extract rfl rfl rfl (?_)
      refine WL.nil ?_
      refine WX.one ⟨hd_2, ?_⟩
      refine ⟨?_, trivial, trivial⟩
      refine DT.step [(41, _)] rfl ⟨rfl, trivial⟩ rfl (fun wq_17 kq_17 => ?_)
      have zs_kq_17 := kq_17.size
      replace ha := ha.pure kq_17
      replace hw := hw.pure kq_17
      replace hp := hp.pure kq_17
      replace hd_2 := hd_2.pure kq_17
      replace hq := hq.pure kq_17
      refine WL.assign rfl rfl (?_)
      refine WL.nil ?_
      refine WX.one ⟨hd_2, ?_⟩
      refine ⟨?_, trivial⟩
      refine DT.step [(42, _)] rfl ⟨rfl, trivial⟩ rfl (fun wq_18 kq_18 => ?_)
      have zs_kq_18 := kq_18.size
      replace ha := ha.pure kq_18
      replace hw := hw.pure kq_18
      replace hp := hp.pure kq_18
      replace hd_2 := hd_2.pure kq_18
      replace hq := hq.pure kq_18
      refine WL.assign rfl rfl (?_)
      refine WL.nil ?_
      refine WX.one ⟨hd_2, ?_⟩
      refine DT.done (fun we_19 ke_19 => ?_) _
      have zs_ke_19 := ke_19.size
      replace ha := ha.pure ke_19
      replace hw := hw.pure ke_19
      replace hp := hp.pure ke_19
      replace hd_2 := hd_2.pure ke_19
      replace hq := hq.pure ke_19
      rotate_left
      refine DT.step [(37, _)] rfl ⟨rfl, trivial⟩ rfl (fun wq_9 kq_9 => ?_)
      have zs_kq_9 := kq_9.size
      replace ha := ha.pure kq_9
      replace hw := hw.pure kq_9
      replace hp := hp.pure kq_9
      replace hd_2 := hd_2.pure kq_9
      replace hg7 := hg7.pure kq_9
      refine WL.build (e := erow) [⟨some ⟨g7, 0, none⟩, m0, List.replicate m0 0⟩] Try.underlying22 Try.sizeOf28 Try.zeroValue28 rfl rfl rfl (by first | (simp [Value.cells]; done) | (simp [Value.cells] <;> rfl) | (simp [Value.cells, eb, ei, es, ebool, e32, e64]; done)) (by decide) rfl ?_
      intro a_b8 w_b8 b8 l_b8 z_b8 k_b8
      have zs_k_b8 := k_b8.size
      replace ha := ha.pure k_b8
      replace hw := hw.pure k_b8
      replace hp := hp.pure k_b8
      replace hd_2 := hd_2.pure k_b8
      replace hg7 := hg7.pure k_b8
      refine WL.nil ?_
      refine WX.one ⟨hd_2, ?_⟩
      refine ⟨?_, trivial, trivial, trivial, trivial, trivial, trivial, trivial, trivial, trivial⟩
      refine DT.step [] rfl trivial rfl (fun wq_10 kq_10 => ?_)
      have zs_kq_10 := kq_10.size
      replace ha := ha.pure kq_10
      replace hw := hw.pure kq_10
      replace hp := hp.pure kq_10
      replace hd_2 := hd_2.pure kq_10
      replace hg7 := hg7.pure kq_10
      replace b8 := b8.pure kq_10
      refine WL.build (e := erow) [] Try.underlying22 Try.sizeOf28 Try.zeroValue28 rfl rfl rfl (by first | (simp [Value.cells]; done) | (simp [Value.cells] <;> rfl) | (simp [Value.cells, eb, ei, es, ebool, e32, e64]; done)) (by decide) rfl ?_
      intro a_b0 w_b0 b0 l_b0 z_b0 k_b0
      have zs_k_b0 := k_b0.size
      replace ha := ha.pure k_b0
      replace hw := hw.pure k_b0
      replace hp := hp.pure k_b0
      replace hd_2 := hd_2.pure k_b0
      replace hg7 := hg7.pure k_b0
      replace b8 := b8.pure k_b0
      refine WL.nil ?_
      refine WX.one ⟨hd_2, ?_⟩
      refine ⟨?_, trivial, trivial, trivial, trivial, trivial, trivial, trivial, trivial⟩
      refine DT.step [(30, _), (31, _)] rfl ⟨rfl, rfl, trivial⟩ rfl (fun wq_11 kq_11 => ?_)
      have zs_kq_11 := kq_11.size
      replace ha := ha.pure kq_11
      replace hw := hw.pure kq_11
      replace hp := hp.pure kq_11
      replace hd_2 := hd_2.pure kq_11
      replace hg7 := hg7.pure kq_11
      replace b8 := b8.pure kq_11
      replace b0 := b0.pure kq_11
      refine WL.append0 (e := erow) info_28 rfl Try.underlying22 rfl rfl b0 (ha.outer.src Try.underlying22) hpos (by constructor <;> omega) rfl ?_
      intro g2 c2 w2 hb2 k2 eg2 z2
      have hg2lt : g2 < w2.heap.size := by omega
      have zs_k2 := k2.size
      replace ha := ha.pure k2
      replace hw := hw.pure k2
      replace hp := hp.pure k2
      replace hd_2 := hd_2.pure k2
      replace hg7 := hg7.pure k2
      replace b8 := b8.pure k2
      refine WL.nil ?_
      refine WX.one ⟨hd_2, ?_⟩
      refine ⟨?_, trivial, trivial, trivial, trivial, trivial, trivial, trivial⟩
      refine DT.step [(32, _), (38, _)] rfl ⟨rfl, rfl, trivial⟩ rfl (fun wq_12 kq_12 => ?_)
      have zs_kq_12 := kq_12.size
      replace ha := ha.pure kq_12
      replace hw := hw.pure kq_12
      replace hp := hp.pure kq_12
      replace hd_2 := hd_2.pure kq_12
      replace hg7 := hg7.pure kq_12
      replace b8 := b8.pure kq_12
      replace hb2 := hb2.pure kq_12
      have hne72 : g7 ≠ g2 := by omega
      refine WL.append (e := erow) info_28 rfl Try.underlying22 rfl rfl (hb2.mono (S' := fun x => g2 ≤ x) (fun b h => by have h3 : b = g2 := h; omega)) (b8.rsl.src Try.underlying22) (by constructor <;> (simp only [List.length_cons, List.length_nil]; omega)) (fun b hb => by omega) rfl ?_
      intro ao9 c9 w9 hb9 gg9 n9
      have gc : Chg (fun x => x = g2) _ w9 := gg9.chg.mono (by rintro x _ ⟨⟨a, ea, rfl⟩, _⟩; injection ea with ea; rw [← ea])
      have zs_gc := gc.size
      replace ha := ha.chg gc (by first | (intro x h1 h2; exact h2) | (intro x h1 h2; have h3 : _ = _ := h2; exfalso; omega) | (intro b h1 h2 h3; have h4 : _ = _ := h3; (try dsimp only at h2); exfalso; omega) | (intro h1; have h2 : _ = _ := h1; exfalso; omega) | (intros; exfalso; (try dsimp only at *); omega) | (intro b h1 h2 h3; exfalso; have h4 := h3.2; (try dsimp only at *); omega) | (intro h1; exfalso; have h4 := h1.2; (try dsimp only at *); omega) | (intro x h1 h2; exfalso; have h4 := h2.2; (try dsimp only at *); omega) | (intro x h1 h2; exact h2.1))
      replace hw := hw.chg gc (by first | (intro x h1 h2; exact h2) | (intro x h1 h2; have h3 : _ = _ := h2; exfalso; omega) | (intro b h1 h2 h3; have h4 : _ = _ := h3; (try dsimp only at h2); exfalso; omega) | (intro h1; have h2 : _ = _ := h1; exfalso; omega) | (intros; exfalso; (try dsimp only at *); omega) | (intro b h1 h2 h3; exfalso; have h4 := h3.2; (try dsimp only at *); omega) | (intro h1; exfalso; have h4 := h1.2; (try dsimp only at *); omega) | (intro x h1 h2; exfalso; have h4 := h2.2; (try dsimp only at *); omega) | (intro x h1 h2; exact h2.1))
      replace hp := hp.chg gc (by first | (intro x h1 h2; exact h2) | (intro x h1 h2; have h3 : _ = _ := h2; exfalso; omega) | (intro b h1 h2 h3; have h4 : _ = _ := h3; (try dsimp only at h2); exfalso; omega) | (intro h1; have h2 : _ = _ := h1; exfalso; omega) | (intros; exfalso; (try dsimp only at *); omega) | (intro b h1 h2 h3; exfalso; have h4 := h3.2; (try dsimp only at *); omega) | (intro h1; exfalso; have h4 := h1.2; (try dsimp only at *); omega) | (intro x h1 h2; exfalso; have h4 := h2.2; (try dsimp only at *); omega) | (intro x h1 h2; exact h2.1))
      replace hd_2 := hd_2.chg gc (by first | (intro x h1 h2; exact h2) | (intro x h1 h2; have h3 : _ = _ := h2; exfalso; omega) | (intro b h1 h2 h3; have h4 : _ = _ := h3; (try dsimp only at h2); exfalso; omega) | (intro h1; have h2 : _ = _ := h1; exfalso; omega) | (intros; exfalso; (try dsimp only at *); omega) | (intro b h1 h2 h3; exfalso; have h4 := h3.2; (try dsimp only at *); omega) | (intro h1; exfalso; have h4 := h1.2; (try dsimp only at *); omega) | (intro x h1 h2; exfalso; have h4 := h2.2; (try dsimp only at *); omega) | (intro x h1 h2; exact h2.1))
      replace hg7 := hg7.chg gc (by first | (intro x h1 h2; exact h2) | (intro x h1 h2; have h3 : _ = _ := h2; exfalso; omega) | (intro b h1 h2 h3; have h4 : _ = _ := h3; (try dsimp only at h2); exfalso; omega) | (intro h1; have h2 : _ = _ := h1; exfalso; omega) | (intros; exfalso; (try dsimp only at *); omega) | (intro b h1 h2 h3; exfalso; have h4 := h3.2; (try dsimp only at *); omega) | (intro h1; exfalso; have h4 := h1.2; (try dsimp only at *); omega) | (intro x h1 h2; exfalso; have h4 := h2.2; (try dsimp only at *); omega) | (intro x h1 h2; exact h2.1))
      refine WL.nil ?_
      refine WX.one ⟨hd_2, ?_⟩
      refine ⟨?_, trivial, trivial, trivial, trivial, trivial, trivial⟩
      refine DT.step [(39, _)] rfl ⟨rfl, trivial⟩ rfl (fun wq_13 kq_13 => ?_)
      have zs_kq_13 := kq_13.size
      replace ha := ha.pure kq_13
      replace hw := hw.pure kq_13
      replace hp := hp.pure kq_13
      replace hd_2 := hd_2.pure kq_13
      replace hg7 := hg7.pure kq_13
      replace hb9 := hb9.pure kq_13
      have hR9 := RS.grown hb9 ha hg7
      have hx9 : xss (ra ++ [⟨some ⟨g7, 0, none⟩, m0, List.replicate m0 0⟩]) = xss ra ++ [List.replicate m0 0] := by rw [xss_app]; rfl
      have hal9 : ∀ d ∈ xss (ra ++ [⟨some ⟨g7, 0, none⟩, m0, List.replicate m0 0⟩]), d.length = m0 := by
        rw [hx9]
        intro d hd
        rcases List.mem_append.1 hd with h1 | h1
        ·
          exact hall d h1
        ·
          simp at h1
          rw [h1, List.length_replicate]
      have hn9 : lenC (xss (ra ++ [⟨some ⟨g7, 0, none⟩, m0, List.replicate m0 0⟩])) = (m0 : Int) := by
        rw [lenC_of (fun e => by rw [hx9] at e; simp at e) hal9, if_pos ⟨hn1, hn2⟩]
      refine WL.call eg_9 rfl rfl (make_rs hR9 (by rw [List.length_append]; show ra.length + 1 ≤ 13; omega) hn9) ?_
      rintro v w4 ⟨⟨aq, cq, qs, rfl, hq, hqs⟩, k4⟩
      have hqs2 : xss qs = xss ps := by rw [hqs, hps, hx9, List.length_append, ← hxl]; exact three_grow hall
      have zs_k4 := k4.size
      replace ha := ha.pure k4
      replace hw := hw.pure k4
      replace hp := hp.pure k4
      replace hd_2 := hd_2.pure k4
      replace hq := hq.old
      refine WL.nil ?_
      refine WX.one ⟨hd_2, ?_⟩
      refine ⟨?_, trivial, trivial, trivial, trivial, trivial⟩
      refine DT.step [(40, _)] rfl ⟨rfl, trivial⟩ rfl (fun wq_14 kq_14 => ?_)
      have zs_kq_14 := kq_14.size
      replace ha := ha.pure kq_14
      replace hw := hw.pure kq_14
      replace hp := hp.pure kq_14
      replace hd_2 := hd_2.pure kq_14
      replace hq := hq.pure kq_14
      refine WL.move rfl rfl (?_)
      refine WL.nil ?_
      refine WX.one ⟨hd_2, ?_⟩
      refine ⟨?_, ?_, trivial, trivial, trivial⟩
      refine DT.step [(29, _)] rfl ⟨rfl, trivial⟩ rfl (fun wq_15 kq_15 => ?_)
      have zs_kq_15 := kq_15.size
      replace ha := ha.pure kq_15
      replace hw := hw.pure kq_15
      replace hp := hp.pure kq_15
      replace hd_2 := hd_2.pure kq_15
      replace hq := hq.pure kq_15
      refine WL.extract rfl rfl rfl (?_)
      refine WL.nil ?_
      refine WX.one ⟨hd_2, ?_⟩
      refine ⟨?_, ?_, trivial, trivial⟩
      refine DT.step [(29, _)] rfl ⟨rfl, trivial⟩ rfl (fun wq_16 kq_16 => ?_)
      have zs_kq_16 := kq_16.size
      replace ha := ha.pure kq_16
      replace hw := hw.pure kq_16
      replace hp := hp.pure kq_16
      replace hd_2 := hd_2.pure kq_16
      replace hq := hq.pure kq_16
      refine WL.extract rfl rfl rfl (?_)
      refine WL.nil ?_
      refine WX.one ⟨hd_2, ?_⟩
      refine ⟨?_, trivial, trivial⟩
      refine DT.step [(41, _)] rfl ⟨rfl, trivial⟩ rfl (fun wq_17 kq_17 => ?_)
      have zs_kq_17 := kq_17.size
      replace ha := ha.pure kq_17
      replace hw := hw.pure kq_17
      replace hp := hp.pure kq_17
      replace hd_2 := hd_2.pure kq_17
      replace hq := hq.pure kq_17
      refine WL.assign rfl rfl (?_)
      refine WL.nil ?_
      refine WX.one ⟨hd_2, ?_⟩
      refine ⟨?_, trivial⟩
      refine DT.step [(42, _)] rfl ⟨rfl, trivial⟩ rfl (fun wq_18 kq_18 => ?_)
      have zs_kq_18 := kq_18.size
      replace ha := ha.pure kq_18
      replace hw := hw.pure kq_18
      replace hp := hp.pure kq_18
      replace hd_2 := hd_2.pure kq_18
      replace hq := hq.pure kq_18
      refine WL.assign rfl rfl (?_)
      refine WL.nil ?_
      refine WX.one ⟨hd_2, ?_⟩
      refine DT.done (fun we_19 ke_19 => ?_) _
      have zs_ke_19 := ke_19.size
      replace ha := ha.pure ke_19
      replace hw := hw.pure ke_19
      replace hp := hp.pure ke_19
      replace hd_2 := hd_2.pure ke_19
      replace hq := hq.pure ke_19
      rotate_left
      refine DT.step [(41, _)] rfl ⟨rfl, trivial⟩ rfl (fun wq_16 kq_16 => ?_)
      have zs_kq_16 := kq_16.size
      replace ha := ha.pure kq_16
      replace hw := hw.pure kq_16
      replace hp := hp.pure kq_16
      replace hd_2 := hd_2.pure kq_16
      replace hq := hq.pure kq_16
      refine WL.assign rfl rfl (?_)
      refine WL.nil ?_
      refine WX.one ⟨hd_2, ?_⟩
      refine ⟨?_, trivial, trivial⟩
      refine DT.step [(29, _)] rfl ⟨rfl, trivial⟩ rfl (fun wq_17 kq_17 => ?_)
      have zs_kq_17 := kq_17.size
      replace ha := ha.pure kq_17
      replace hw := hw.pure kq_17
      replace hp := hp.pure kq_17
      replace hd_2 := hd_2.pure kq_17
      replace hq := hq.pure kq_17
      refine WL.extract rfl rfl rfl (?_)
      refine WL.nil ?_
      refine WX.one ⟨hd_2, ?_⟩
      refine ⟨?_, trivial⟩
      refine DT.step [(42, _)] rfl ⟨rfl, trivial⟩ rfl (fun wq_18 kq_18 => ?_)
      have zs_kq_18 := kq_18.size
      replace ha := ha.pure kq_18
      replace hw := hw.pure kq_18
      replace hp := hp.pure kq_18
      replace hd_2 := hd_2.pure kq_18
      replace hq := hq.pure kq_18
      refine WL.assign rfl rfl (?_)
      refine WL.nil ?_
      refine WX.one ⟨hd_2, ?_⟩
      refine DT.done (fun we_19 ke_19 => ?_) _
      have zs_ke_19 := ke_19.size
      replace ha := ha.pure ke_19
      replace hw := hw.pure ke_19
      replace hp := hp.pure ke_19
      replace hd_2 := hd_2.pure ke_19
      replace hq := hq.pure ke_19
      rotate_left
      refine DT.step [(29, _)] rfl ⟨rfl, trivial⟩ rfl (fun wq_15 kq_15 => ?_)
      have zs_kq_15 := kq_15.size
      replace ha := ha.pure kq_15
      replace hw := hw.pure kq_15
      replace hp := hp.pure kq_15
      replace hd_2 := hd_2.pure kq_15
      replace hq := hq.pure kq_15
      refine WL.extract rfl rfl rfl (?_)
      refine WL.nil ?_
      refine WX.one ⟨hd_2, ?_⟩
      refine ⟨?_, trivial, trivial, trivial⟩
      refine DT.step [(29, _)] rfl ⟨rfl, trivial⟩ rfl (fun wq_16 kq_16 => ?_)
      have zs_kq_16 := kq_16.size
      replace ha := ha.pure kq_16
      replace hw := hw.pure kq_16
      replace hp := hp.pure kq_16
      replace hd_2 := hd_2.pure kq_16
      replace hq := hq.pure kq_16
      refine WL.extract rfl rfl rfl (?_)
      refine WL.nil ?_
      refine WX.one ⟨hd_2, ?_⟩
      refine ⟨?_, trivial, trivial⟩
      refine DT.step [(41, _)] rfl ⟨rfl, trivial⟩ rfl (fun wq_17 kq_17 => ?_)
      have zs_kq_17 := kq_17.size
      replace ha := ha.pure kq_17
      replace hw := hw.pure kq_17
      replace hp := hp.pure kq_17
      replace hd_2 := hd_2.pure kq_17
      replace hq := hq.pure kq_17
      refine WL.assign rfl rfl (?_)
      refine WL.nil ?_
      refine WX.one ⟨hd_2, ?_⟩
      refine ⟨?_, trivial⟩
      refine DT.step [(42, _)] rfl ⟨rfl, trivial⟩ rfl (fun wq_18 kq_18 => ?_)
      have zs_kq_18 := kq_18.size
      replace ha := ha.pure kq_18
      replace hw := hw.pure kq_18
      replace hp := hp.pure kq_18
      replace hd_2 := hd_2.pure kq_18
      replace hq := hq.pure kq_18
      refine WL.assign rfl rfl (?_)
      refine WL.nil ?_
      refine WX.one ⟨hd_2, ?_⟩
      refine DT.done (fun we_19 ke_19 => ?_) _
      have zs_ke_19 := ke_19.size
      replace ha := ha.pure ke_19
      replace hw := hw.pure ke_19
      replace hp := hp.pure ke_19
      replace hd_2 := hd_2.pure ke_19
      replace hq := hq.pure ke_19
      rotate_left
      all_goals
        refine WX.then_normal (WC.seq (WC.region (WL.move rfl rfl (?_))))
        refine WL.slice (l := 0) (h := 1) (k := .i64) Try.underlying22 Try.sizeOf28 ha.outer rfl (.inr ⟨rfl, rfl⟩) (.inl rfl) (by constructor <;> omega) rfl ?_
        intro a_hc1 c_hc1 hc1 n_hc1
        rw [take_one hr0] at hc1 ⊢
        have hR1 := RS.one hc1 (ha.at hr0)
        have hn1' : lenC (xss [⟨rao, rcap, rxs⟩]) = (m0 : Int) := by
          rw [lenC_of (n := m0) (by show [rxs] ≠ []; simp) (by intro d hd; have h1 : d ∈ [rxs] := hd; simp at h1; rw [h1, hrl]), if_pos ⟨hn1, hn2⟩]
        refine WL.call eg_9 rfl rfl (make_rs hR1 (by show 1 ≤ 13; decide) hn1') ?_
        rintro v w5 ⟨⟨ar, cr, ts, rfl, ht, hts⟩, k5⟩
        have hts2 : xss ts = [rxs, rxs, rxs] := hts.trans (three_one hrl)
        have zs_k5 := k5.size
        replace ha := ha.pure k5
        replace hw := hw.pure k5
        replace hp := hp.pure k5
        replace hq := hq.pure k5
        replace ht := ht.old
        refine WL.move rfl rfl (WL.extract rfl rfl rfl (WL.extract rfl rfl rfl (WL.assign rfl rfl (WL.assign rfl rfl (WL.nil (WX.then_normal (WC.seq (?_))))))))
        have hps3 : ps.length = 3 := by rw [← xss_len, hps]; rfl
        have hts3 : ts.length = 3 := by rw [← xss_len, hts2]; rfl
        refine WC.draw (Nob) [0, 1, 2, 3, 4, 5, 6, 7, 8, 9, 10, 11, 12, 13, 14, 15, 16, 17, 18, 19, 20, 21] [22, 23, 24, 25] mixed rfl rfl (fun wd_20 kd_20 zd_20 => ?_)
        have zs_kd_20 := kd_20.size
        replace ha := ha.pure kd_20
        replace hw := hw.pure kd_20
        replace hp := hp.pure kd_20
        replace hq := hq.pure kd_20
        replace ht := ht.pure kd_20
        apply DQ.step (E' := [(6, _)])
        case ho => rfl
        case hs => exact ⟨rfl, trivial⟩
        case hk => rfl
        case h1 =>
          intro wq_22 kq_22
          refine WL.move rfl rfl (?_)
          refine WL.nil ?_
          exact WX.one ⟨rfl, by first | exact Chg.refl _ _ | assumption⟩
        apply DQ.step (E' := [(49, _)])
        case ho => rfl
        case hs => exact ⟨rfl, trivial⟩
        case hk => rfl
        case h1 =>
          intro wq_23 kq_23
          refine WL.eql rfl rfl rfl ?_
          rw [eql_self3]
          refine WL.nil ?_
          exact WX.one ⟨rfl, by first | exact Chg.refl _ _ | assumption⟩
        apply DQ.step (E' := [(50, _)])
        case ho => rfl
        case hs => exact ⟨rfl, trivial⟩
        case hk => rfl
        case h1 =>
          intro wq_24 kq_24
          refine WL.move rfl rfl (?_)
          refine WL.nil ?_
          exact WX.one ⟨rfl, by first | exact Chg.refl _ _ | assumption⟩
        apply DQ.step (E' := [(8, _), (51, _)])
        case ho => rfl
        case hs => exact ⟨rfl, rfl, trivial⟩
        case hk => rfl
        case h1 =>
          intro wq_25 kq_25
          refine WL.want rfl rfl rfl (WL.move rfl rfl (?_))
          refine WL.nil ?_
          exact WX.one ⟨rfl, by first | exact Chg.refl _ _ | assumption⟩
        apply DQ.step (E' := [(52, _), (51, _)])
        case ho => rfl
        case hs => exact ⟨rfl, rfl, trivial⟩
        case hk => rfl
        case h1 =>
          intro wq_26 kq_26
          refine WL.want rfl rfl rfl (?_)
          refine WL.eql rfl rfl rfl ?_
          rw [eql_self3]
          refine WL.nil ?_
          exact WX.one ⟨rfl, by first | exact Chg.refl _ _ | assumption⟩
        apply DQ.step (E' := [(51, _), (53, _)])
        case ho => rfl
        case hs => exact ⟨rfl, rfl, trivial⟩
        case hk => rfl
        case h1 =>
          intro wq_27 kq_27
          refine WL.pickT rfl rfl rfl (?_)
          refine WL.nil ?_
          exact WX.one ⟨rfl, by first | exact Chg.refl _ _ | assumption⟩
        apply DQ.step (E' := [(54, _)])
        case ho => rfl
        case hs => exact ⟨rfl, trivial⟩
        case hk => rfl
        case h1 =>
          intro wq_28 kq_28
          refine WL.move rfl rfl (?_)
          refine WL.nil ?_
          exact WX.one ⟨rfl, by first | exact Chg.refl _ _ | assumption⟩
        apply DQ.step (E' := [(3, _), (55, _)])
        case ho => rfl
        case hs => exact ⟨rfl, rfl, trivial⟩
        case hk => rfl
        case h1 =>
          intro wq_29 kq_29
          refine WL.want rfl rfl rfl (WL.move rfl rfl (?_))
          refine WL.nil ?_
          exact WX.one ⟨rfl, by first | exact Chg.refl _ _ | assumption⟩
        apply DQ.step (E' := [(5, _), (55, _)])
        case ho => rfl
        case hs => exact ⟨rfl, rfl, trivial⟩
        case hk => rfl
        case h1 =>
          intro wq_30 kq_30
          refine WL.want rfl rfl rfl (WL.move rfl rfl (?_))
          refine WL.nil ?_
          exact WX.one ⟨rfl, by first | exact Chg.refl _ _ | assumption⟩
        apply DQ.step (E' := [(56, _), (57, _), (55, _)])
        case ho => rfl
        case hs => exact ⟨rfl, rfl, rfl, trivial⟩
        case hk => rfl
        case h1 =>
          intro wq_31 kq_31
          have zs_kq_31 := kq_31.size
          replace ha := ha.pure kq_31
          replace hw := hw.pure kq_31
          replace hp := hp.pure kq_31
          replace hq := hq.pure kq_31
          replace ht := ht.pure kq_31
          refine WL.want rfl rfl rfl (?_)
          refine WL.call eg_10 rfl rfl (same_calls hp hq (by omega)) ?_
          rintro v w6 ⟨rfl, k6⟩
          rw [hqs2, show decide (xss ps = xss ps) = true from decide_eq_true rfl]
          have zs_k6 := k6.size
          replace ha := ha.pure k6
          replace hw := hw.pure k6
          replace hp := hp.pure k6
          replace hq := hq.pure k6
          replace ht := ht.pure k6
          refine WL.nil ?_
          exact WX.one ⟨rfl, by first | exact Chg.refl _ _ | assumption⟩
        apply DQ.step (E' := [(55, _), (58, _)])
        case ho => rfl
        case hs => exact ⟨rfl, rfl, trivial⟩
        case hk => rfl
        case h1 =>
          intro wq_32 kq_32
          refine WL.pickT rfl rfl rfl (?_)
          refine WL.nil ?_
          exact WX.one ⟨rfl, by first | exact Chg.refl _ _ | assumption⟩
        apply DQ.step (E' := [(59, _)])
        case ho => rfl
        case hs => exact ⟨rfl, trivial⟩
        case hk => rfl
        case h1 =>
          intro wq_33 kq_33
          refine WL.move rfl rfl (?_)
          refine WL.nil ?_
          exact WX.one ⟨rfl, by first | exact Chg.refl _ _ | assumption⟩
        apply DQ.step (E' := [(7, _), (60, _)])
        case ho => rfl
        case hs => exact ⟨rfl, rfl, trivial⟩
        case hk => rfl
        case h1 =>
          intro wq_34 kq_34
          refine WL.want rfl rfl rfl (WL.move rfl rfl (?_))
          refine WL.nil ?_
          exact WX.one ⟨rfl, by first | exact Chg.refl _ _ | assumption⟩
        apply DQ.step (E' := [(0, _), (60, _)])
        case ho => rfl
        case hs => exact ⟨rfl, rfl, trivial⟩
        case hk => rfl
        case h1 =>
          intro wq_35 kq_35
          refine WL.want rfl rfl rfl (WL.move rfl rfl (?_))
          refine WL.nil ?_
          exact WX.one ⟨rfl, by first | exact Chg.refl _ _ | assumption⟩
        apply DQ.step (E' := [(62, _), (60, _)])
        case ho => rfl
        case hs => exact ⟨rfl, rfl, trivial⟩
        case hk => rfl
        case h1 =>
          intro wq_36 kq_36
          have zs_kq_36 := kq_36.size
          replace ha := ha.pure kq_36
          replace hw := hw.pure kq_36
          replace hp := hp.pure kq_36
          replace hq := hq.pure kq_36
          replace ht := ht.pure kq_36
          refine WL.want rfl rfl rfl (?_)
          refine WL.indexC ha.outer Try.underlying22 Try.sizeOf28 rfl rfl ⟨hr0, rfl⟩ rfl ?_
          refine WL.nil ?_
          exact WX.one ⟨rfl, by first | exact Chg.refl _ _ | assumption⟩
        apply DQ.step (E' := [(63, _), (60, _)])
        case ho => rfl
        case hs => exact ⟨rfl, rfl, trivial⟩
        case hk => rfl
        case h1 =>
          intro wq_37 kq_37
          have zs_kq_37 := kq_37.size
          replace ha := ha.pure kq_37
          replace hw := hw.pure kq_37
          replace hp := hp.pure kq_37
          replace hq := hq.pure kq_37
          replace ht := ht.pure kq_37
          refine WL.want rfl rfl rfl (WL.load Try.isAgg28 rfl ((ha.outer.cellsAt hr0) 0 _ rfl) rfl (?_))
          refine WL.nil ?_
          exact WX.one ⟨rfl, by first | exact Chg.refl _ _ | assumption⟩
        apply DQ.step (E' := [(0, _), (60, _)])
        case ho => rfl
        case hs => exact ⟨rfl, rfl, trivial⟩
        case hk => rfl
        case h1 =>
          intro wq_38 kq_38
          refine WL.want rfl rfl rfl (WL.move rfl rfl (?_))
          refine WL.nil ?_
          exact WX.one ⟨rfl, by first | exact Chg.refl _ _ | assumption⟩
        apply DQ.step (E' := [(65, _), (60, _)])
        case ho => rfl
        case hs => exact ⟨rfl, rfl, trivial⟩
        case hk => rfl
        case h1 =>
          intro wq_39 kq_39
          have zs_kq_39 := kq_39.size
          replace ha := ha.pure kq_39
          replace hw := hw.pure kq_39
          replace hp := hp.pure kq_39
          replace hq := hq.pure kq_39
          replace ht := ht.pure kq_39
          refine WL.want rfl rfl rfl (?_)
          refine WL.indexC ha.outer Try.underlying22 Try.sizeOf28 rfl rfl ⟨hr0, rfl⟩ rfl ?_
          refine WL.nil ?_
          exact WX.one ⟨rfl, by first | exact Chg.refl _ _ | assumption⟩
        apply DQ.step (E' := [(66, _), (60, _)])
        case ho => rfl
        case hs => exact ⟨rfl, rfl, trivial⟩
        case hk => rfl
        case h1 =>
          intro wq_40 kq_40
          have zs_kq_40 := kq_40.size
          replace ha := ha.pure kq_40
          replace hw := hw.pure kq_40
          replace hp := hp.pure kq_40
          replace hq := hq.pure kq_40
          replace ht := ht.pure kq_40
          refine WL.want rfl rfl rfl (WL.load Try.isAgg28 rfl ((ha.outer.cellsAt hr0) 0 _ rfl) rfl (?_))
          refine WL.nil ?_
          exact WX.one ⟨rfl, by first | exact Chg.refl _ _ | assumption⟩
        apply DQ.step (E' := [(0, _), (60, _)])
        case ho => rfl
        case hs => exact ⟨rfl, rfl, trivial⟩
        case hk => rfl
        case h1 =>
          intro wq_41 kq_41
          refine WL.want rfl rfl rfl (WL.move rfl rfl (?_))
          refine WL.nil ?_
          exact WX.one ⟨rfl, by first | exact Chg.refl _ _ | assumption⟩
        apply DQ.step (E' := [(68, _), (60, _)])
        case ho => rfl
        case hs => exact ⟨rfl, rfl, trivial⟩
        case hk => rfl
        case h1 =>
          intro wq_42 kq_42
          have zs_kq_42 := kq_42.size
          replace ha := ha.pure kq_42
          replace hw := hw.pure kq_42
          replace hp := hp.pure kq_42
          replace hq := hq.pure kq_42
          replace ht := ht.pure kq_42
          refine WL.want rfl rfl rfl (?_)
          refine WL.indexC ha.outer Try.underlying22 Try.sizeOf28 rfl rfl ⟨hr0, rfl⟩ rfl ?_
          refine WL.nil ?_
          exact WX.one ⟨rfl, by first | exact Chg.refl _ _ | assumption⟩
        apply DQ.step (E' := [(69, _), (60, _)])
        case ho => rfl
        case hs => exact ⟨rfl, rfl, trivial⟩
        case hk => rfl
        case h1 =>
          intro wq_43 kq_43
          have zs_kq_43 := kq_43.size
          replace ha := ha.pure kq_43
          replace hw := hw.pure kq_43
          replace hp := hp.pure kq_43
          replace hq := hq.pure kq_43
          replace ht := ht.pure kq_43
          refine WL.want rfl rfl rfl (WL.load Try.isAgg28 rfl ((ha.outer.cellsAt hr0) 0 _ rfl) rfl (?_))
          refine WL.nil ?_
          exact WX.one ⟨rfl, by first | exact Chg.refl _ _ | assumption⟩
        refine DQ.done (fun hd_21 => ?_)
        refine DL.step [(64, _), (67, _), (70, _), (60, _)] rfl ⟨rfl, rfl, rfl, rfl, trivial⟩ rfl (fun wq_44 kq_44 => ?_)
        have zs_kq_44 := kq_44.size
        replace ha := ha.pure kq_44
        replace hw := hw.pure kq_44
        replace hp := hp.pure kq_44
        replace hq := hq.pure kq_44
        replace ht := ht.pure kq_44
        replace hd_21 := hd_21.pure kq_44
        refine WL.want rfl rfl rfl (?_)
        refine WL.build (e := erow) [⟨rao, rcap, rxs⟩, ⟨rao, rcap, rxs⟩, ⟨rao, rcap, rxs⟩] Try.underlying22 Try.sizeOf28 Try.zeroValue28 rfl rfl rfl (by first | (simp [Value.cells]; done) | (simp [Value.cells] <;> rfl) | (simp [Value.cells, eb, ei, es, ebool, e32, e64]; done)) (by decide) rfl ?_
        intro a_b71 w_b71 b71 l_b71 z_b71 k_b71
        have zs_k_b71 := k_b71.size
        replace ha := ha.pure k_b71
        replace hw := hw.pure k_b71
        replace hp := hp.pure k_b71
        replace hq := hq.pure k_b71
        replace ht := ht.pure k_b71
        replace hd_21 := hd_21.pure k_b71
        refine WL.nil ?_
        refine WX.one ⟨hd_21, ?_⟩
        refine DL.step [(61, _), (71, _), (60, _)] rfl ⟨rfl, rfl, rfl, trivial⟩ rfl (fun wq_45 kq_45 => ?_)
        have zs_kq_45 := kq_45.size
        replace ha := ha.pure kq_45
        replace hw := hw.pure kq_45
        replace hp := hp.pure kq_45
        replace hq := hq.pure kq_45
        replace ht := ht.pure kq_45
        replace hd_21 := hd_21.pure kq_45
        replace b71 := b71.pure kq_45
        refine WL.want rfl rfl rfl (?_)
        have hR3 := RS.three' b71 (ha.at hr0)
        refine WL.call eg_10 rfl rfl (same_calls ht hR3 (by omega)) ?_
        rintro v w6 ⟨rfl, k6⟩
        rw [hts2, show decide (([rxs, rxs, rxs] : List (List UInt8)) = xss [⟨rao, rcap, rxs⟩, ⟨rao, rcap, rxs⟩, ⟨rao, rcap, rxs⟩]) = true from decide_eq_true rfl]
        have zs_k6 := k6.size
        replace ha := ha.pure k6
        replace hw := hw.pure k6
        replace hp := hp.pure k6
        replace hq := hq.pure k6
        replace ht := ht.pure k6
        replace hd_21 := hd_21.pure k6
        refine WL.nil ?_
        refine WX.one ⟨hd_21, ?_⟩
        refine DL.step [(60, _), (72, _)] rfl ⟨rfl, rfl, trivial⟩ rfl (fun wq_46 kq_46 => ?_)
        have zs_kq_46 := kq_46.size
        replace ha := ha.pure kq_46
        replace hw := hw.pure kq_46
        replace hp := hp.pure kq_46
        replace hq := hq.pure kq_46
        replace ht := ht.pure kq_46
        replace hd_21 := hd_21.pure kq_46
        refine WL.pickT rfl rfl rfl (?_)
        refine WL.nil ?_
        refine WX.one ⟨hd_21, ?_⟩
        refine DL.step [(73, _)] rfl ⟨rfl, trivial⟩ rfl (fun wq_47 kq_47 => ?_)
        have zs_kq_47 := kq_47.size
        replace ha := ha.pure kq_47
        replace hw := hw.pure kq_47
        replace hp := hp.pure kq_47
        replace hq := hq.pure kq_47
        replace ht := ht.pure kq_47
        replace hd_21 := hd_21.pure kq_47
        refine WL.assign rfl rfl (?_)
        refine WL.nil ?_
        refine WX.one ⟨hd_21, ?_⟩
        refine DL.done (fun we_48 ke_48 => ?_)
        have zs_ke_48 := ke_48.size
        replace ha := ha.pure ke_48
        replace hw := hw.pure ke_48
        replace hp := hp.pure ke_48
        replace hq := hq.pure ke_48
        replace ht := ht.pure ke_48
        replace hd_21 := hd_21.pure ke_48
        refine WX.then_normal (WC.ret (?_))
        refine WX.ret1 (.inl rfl) Try.results4 rfl ?_
        exact ⟨_, rfl, rfl, hw⟩
theorem parityGrows_calls {w : World} {aa : Option Addr} {ca : Nat} {ra : List Rw} (ha : RS (· < w.heap.size) w aa ca ra) (la : bounded ra) :
    Calls Try.prog 4 [.slice aa ra.length ca].toArray w (Ret fun v w' => v = .bool true ∧ Chg Nob w w') := by
  by_cases h : okM ra
  · obtain ⟨n, hn, _⟩ := lenC_some h.2
    exact parityGrows_good ha la n h.1 hn
  · exact parityGrows_bad ha la h
end Go.Proofs.Ytbbpgbdiifmkhaa
