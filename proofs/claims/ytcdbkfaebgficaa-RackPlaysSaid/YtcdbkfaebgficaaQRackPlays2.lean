import Derived.MapKept
import Derived.Laws.ResultCell
import Derived.Test.YtcdbkfaebgficaaProg
import Derived.Test.YtcdbkfaebgficaaQRackPlays1
namespace Go.HL
open Go.RowKit
/-! regions that draw their order, the loud operations in any order that the edges allow -/
def preds (ops : Array Oper) (rs : List Nat) (i : Nat) : Bool := rs.any fun j => before? ops j i
def AllB : List Nat → (Nat → Bool) → (Nat → Prop) → Prop
  | [], _, _ => True
  | a :: l, p, f => (bif p a then True else f a) ∧ AllB l p f
theorem AllB_mem : ∀ {l : List Nat} {p : Nat → Bool} {f : Nat → Prop}, AllB l p f → ∀ i ∈ l, p i = false → f i
  | [], _, _, _, i, hi, _ => by cases hi
  | a :: l, p, f, h, i, hi, hp => by
    rcases List.mem_cons.1 hi with rfl | h1
    · have := h.1
      rw [hp] at this
      exact this
    · exact AllB_mem h.2 i h1 hp
def drawOkT (ops : Array Oper) (C R : List Nat) : Bool :=
  ((List.range ops.size).all fun i => C.contains i || R.contains i) && ((C ++ R).all fun i => decide (i < ops.size)) &&
  ((List.range ops.size).all fun i => (List.range ops.size).all fun j => i == j || dstOf ops i == none || dstOf ops i != dstOf ops j) &&
  ((List.range ops.size).all fun i => ((ops[i]?).map (·.after.toList.all fun e => !Region.binds .any e || decide (e.on < i))).getD true) &&
  srcOk ops [] (C ++ R) && (R.all fun i => (List.range ops.size).all fun j => (looks ops i).all fun t => dstOf ops j != some t || (if C.contains j then before? ops j i else before? ops j i || before? ops i j)) && nodupB (C ++ R)
section
variable (P : Program) (ops : Array Oper) (Q : Exit → Act → World → Prop) (N : Nat) (K : World → Prop) (w0 : World)
def DT : Nat → List Nat → Env → World → Prop
  | 0, _, E, w => ∀ w', Chg Nob w w' → WX Q .normal N E w'
  | n + 1, rs, E, w => AllB rs (preds ops rs) fun i => ∀ w', Chg Nob w w' → ∀ o, ops[i]? = some o → WL P ops (One o.dst fun v w'' => K w'' ∧ DT n (rs.erase i) (putE E o.dst v) w'') N [o] (restr ops i E) w'
def DQT (R : List Nat) : List Nat → Env → Prop
  | [], E => DT P ops Q N K R.length R E w0
  | i :: is, E => ∃ v, (∀ o, ops[i]? = some o → ∀ w', K w' → WL P ops (One o.dst fun u w'' => u = v ∧ Chg Nob w' w'') N [o] (restr ops i E) w') ∧ DQT R is (putE E (dstOf ops i) v)
end
section
variable {P : Program} {ops : Array Oper} {Q : Exit → Act → World → Prop} {N : Nat} {K : World → Prop} {w0 : World} {E0 : Env}
theorem DQT_spec {R : List Nat} : ∀ {is : List Nat} {E : Env}, is.Nodup → DQT P ops Q N K w0 R is E → ∃ c : Nat → Value, DT P ops Q N K R.length R (envAfter ops c is E) w0 ∧
    ∀ pre i post, is = pre ++ i :: post → ∀ o, ops[i]? = some o → ∀ w', K w' → WL P ops (One o.dst fun u w'' => u = c i ∧ Chg Nob w' w'') N [o] (restr ops i (envAfter ops c pre E)) w'
  | [], E, _, h => ⟨fun _ => undef, h, fun pre i post hx => by cases pre <;> cases hx⟩
  | i :: is, E, hn, h => by
    obtain ⟨v, h1, h2⟩ := h
    obtain ⟨c, h3, h4⟩ := DQT_spec (List.nodup_cons.1 hn).2 h2
    have hi := (List.nodup_cons.1 hn).1
    let c' : Nat → Value := fun j => if j = i then v else c j
    have hc : ∀ j, j ∈ is → c j = c' j := fun j hj => by
      have : j ≠ i := fun e => hi (e ▸ hj)
      simp [c', this]
    have hci : c' i = v := by simp [c']
    refine ⟨c', ?_, ?_⟩
    · show DT P ops Q N K R.length R (envAfter ops c' is (putE E (dstOf ops i) (c' i))) w0
      rw [hci, ← envAfter_congr ops c c' is _ hc]
      exact h3
    · intro pre j post hx o ho w' hw
      cases pre with
      | nil =>
        injection hx with hx1 hx2
        subst hx1
        rw [hci]
        exact h1 o ho w' hw
      | cons p pre =>
        injection hx with hx1 hx2
        subst hx1
        have := h4 pre j post hx2 o ho w' hw
        have hj : j ∈ is := by rw [hx2]; simp
        rw [hc j hj, envAfter_congr ops c c' pre _ (fun k hk => hc k (by rw [hx2]; simp [hk]))] at this
        show WL P ops _ N [o] (restr ops j (envAfter ops c' pre (putE E (dstOf ops i) (c' i)))) w'
        rw [hci]
        exact this

theorem WC.drawT {id : Nat} (K : World → World → Prop) (C R : List Nat) (hm : P.follows .mixedOrders = true) (hok : drawOkT ops C R = true) (hN : ((List.range ops.size).all fun i => (dstOf ops i).all fun t => Nat.blt t N) = true) {w : World} (hK0 : K w.drew w.drew) (hKp : ∀ wd a b, K wd a → Chg Nob a b → K wd b)
    (h0 : ∀ wd, Chg Nob w wd → wd.heap.size = w.heap.size → DQT P ops Q N (K wd) wd R C E0) : WC P (.region id ops true) Q N E0 w := fun a0 ha0 => by
  have h := h0 w.drew (Chg.drew w) rfl
  simp only [drawOkT, Bool.and_eq_true, decide_eq_true_eq] at hok
  obtain ⟨⟨⟨⟨⟨⟨hpart, hlt0⟩, hdst0⟩, hback0⟩, hsrc⟩, hsrcT⟩, hnd⟩ := hok
  replace hnd := nodupB_spec hnd
  have hlt : ∀ k ∈ C ++ R, k < ops.size := fun k hk => by simpa using List.all_eq_true.1 hlt0 k hk
  have hdst : ∀ i j, i < ops.size → j < ops.size → i ≠ j → ∀ t, dstOf ops i = some t → dstOf ops j ≠ some t := by
    intro i j hi hj hne t h1 h2
    have := List.all_eq_true.1 (List.all_eq_true.1 hdst0 i (by simpa using hi)) j (by simpa using hj)
    simp [h1, h2, hne] at this
  have hback : ∀ i, i < ops.size → ∀ o, ops[i]? = some o → ∀ e ∈ o.after, Region.binds .any e = true → e.on < i := by
    intro i hi o ho e he hb
    have := List.all_eq_true.1 hback0 i (by simpa using hi)
    simp only [ho, Option.map_some, Option.getD_some] at this
    rw [List.all_eq_true] at this
    have := this e (by simpa using he)
    simpa [hb] using this
  have hNt : ∀ i, i < ops.size → ∀ t, dstOf ops i = some t → t < N := by
    intro i hi t ht
    have := List.all_eq_true.1 hN i (by simpa using hi)
    simpa [ht] using this
  have hin : ∀ i, i < ops.size → i ∈ C ∨ i ∈ R := fun i hi => by simpa using List.all_eq_true.1 hpart i (by simpa using hi)
  have hCn : C.Nodup := (List.nodup_append.1 hnd).1
  obtain ⟨c, hDL, hq⟩ := DQT_spec hCn h
  have hgs : ∀ (listed : Array Bool) (i j : Nat), i < listed.size → (listed.setIfInBounds i true).getD j false = if j = i then true else listed.getD j false := by
    intro listed i j hil
    simp only [Array.getD_eq_getD_getElem?, Array.getElem?_setIfInBounds]
    by_cases e : j = i
    · subst e; simp [hil]
    · have : ¬ i = j := fun x => e x.symm
      simp [this, e]
  have henv : ∀ (vals : Nat → Value) (rd : List Nat), (∀ i ∈ C, vals i = c i) → envAfter ops vals rd (envAfter ops c C E0) = envAfter ops vals (C ++ rd) E0 := by
    intro vals rd hC
    rw [envAfter_append, envAfter_congr ops vals c C E0 hC]
  have fin : ∀ (listed : Array Bool) (a : Act) (w1 wp : World) (vals : Nat → Value) (rd rs : List Nat), (∀ i, i < ops.size → i ∈ C ∨ i ∈ rd ∨ i ∈ rs) → (∀ i ∈ rd ++ rs, i < ops.size) → Mid ops N E0 listed a vals → (∀ i ∈ C, vals i = c i) → (∀ i ∈ rs, listed.getD i false = false) →
      Chg Nob wp w1 → DT P ops Q N (K w.drew) rs.length rs (envAfter ops vals rd (envAfter ops c C E0)) wp → (∀ i, i < ops.size → listed.getD i false = true) → Q .normal a w1 := by
    intro listed a w1 wp vals rd rs hpt hrl m hC hrs hpw hdl hall
    cases rs with
    | cons r rs =>
      have h1 := hall r (hrl r (by simp))
      have h2 := hrs r (by simp)
      rw [h1] at h2; cases h2
    | nil =>
      refine hdl w1 hpw a ⟨m.tsz, m.dfs, fun t v ht => ?_⟩
      rw [henv vals rd hC] at ht
      rcases (Rep.start ops E0 vals).after (C ++ rd) t v ht with ⟨j, hj, hd, rfl⟩ | ⟨h1, h2⟩
      · have hjl : j < ops.size := by
          rcases List.mem_append.1 (by simpa using hj : j ∈ C ++ rd) with h | h
          · exact hlt j (by simp [h])
          · exact hrl j (by simp [h])
        exact m.done j hjl (hall j hjl) t hd
      · refine m.old t v h2 fun j hj _ => h1 j ?_
        rcases hpt j hj with h | h | h
        · simp [h]
        · simp [h]
        · cases h
  have key : ∀ (fuel : Nat) (listed : Array Bool) (a : Act) (w1 wp : World) (vals : Nat → Value) (rd rs : List Nat), (∀ i, i < ops.size → i ∈ C ∨ i ∈ rd ∨ i ∈ rs) → (∀ i ∈ rd ++ rs, i < ops.size ∧ i ∉ C) → rs.Nodup → (∀ i ∈ rd, i ∉ rs) → Mid ops N E0 listed a vals → (∀ i ∈ C, vals i = c i) → (∀ i ∈ rd, listed.getD i false = true) → (∀ i ∈ rs, listed.getD i false = false) →
      K w.drew w1 → Chg Nob wp w1 → DT P ops Q N (K w.drew) rs.length rs (envAfter ops vals rd (envAfter ops c C E0)) wp → ((List.range ops.size).filter fun i => !listed.getD i false).length ≤ fuel → wpAny P .any ops Q fuel listed a w1 := by
    intro fuel
    induction fuel with
    | zero =>
      intro listed a w1 wp vals rd rs hpt hrl hrn hdj m hC hrd hrs hM hpw hdl hf
      have hall : ∀ i, i < ops.size → listed.getD i false = true := by
        intro i hi
        have h0 := List.length_eq_zero_iff.1 (Nat.le_zero.1 hf)
        have : i ∉ (List.range ops.size).filter fun i => !listed.getD i false := by rw [h0]; simp
        simpa [hi] using this
      refine ⟨?_, fin listed a w1 wp vals rd rs hpt (fun i hi => (hrl i hi).1) m hC hrs hpw hdl hall⟩
      refine List.eq_nil_iff_forall_not_mem.2 fun i hi => ?_
      obtain ⟨h1, h2, _⟩ := mem_ready hi
      have h3 := hall i h1
      have : i < listed.size := by rw [m.sz]; exact h1
      simp [Array.getD_eq_getD_getElem?, this] at h2 h3
      rw [h2] at h3; cases h3
    | succ fuel ih =>
      intro listed a w1 wp vals rd rs hpt hrl hrn hdj m hC hrd hrs hM hpw hdl hf
      refine ⟨fun hnil => fin listed a w1 wp vals rd rs hpt (fun i hi => (hrl i hi).1) m hC hrs hpw hdl (ready_nil m.sz hback hnil), fun i hi => ?_⟩
      obtain ⟨hilt, hno, hpre⟩ := mem_ready hi
      have hil : i < listed.size := by rw [m.sz]; exact hilt
      have hno' : listed.getD i false = false := by
        simp [Array.getD_eq_getD_getElem?, hil] at hno ⊢; exact hno
      have ho : ops[i]? = some ops[i] := Array.getElem?_eq_getElem hilt
      have hdo := dstOf_eq ho
      have hf' : ((List.range ops.size).filter fun j => !(listed.setIfInBounds i true).getD j false).length ≤ fuel := by
        have e1 : ((List.range ops.size).filter fun j => !(listed.setIfInBounds i true).getD j false) = ((List.range ops.size).filter fun j => !listed.getD j false).filter fun j => j != i := by
          rw [List.filter_filter]
          congr 1
          funext j
          rw [hgs listed i j hil]
          by_cases e : j = i <;> simp [e]
        rw [e1]
        have : (((List.range ops.size).filter fun j => !listed.getD j false).filter fun j => j != i).length < ((List.range ops.size).filter fun j => !listed.getD j false).length := by
          rw [List.length_filter_lt_length_iff_exists]
          exact ⟨i, List.mem_filter.2 ⟨by simpa using hilt, by rw [hno']; rfl⟩, by simp⟩
        omega
      by_cases hiC : i ∈ C
      · obtain ⟨pre, post, hsp⟩ := List.append_of_mem hiC
        have h1 := hq pre i post hsp _ ho w1 hM
        have hpc : ∀ k ∈ pre, vals k = c k := fun k hk => hC k (by rw [hsp]; simp [hk])
        have hrep : Rep ops E0 vals pre (envAfter ops c pre E0) := by
          have := (Rep.start ops E0 vals).after pre
          rw [envAfter_congr ops vals c pre E0 hpc] at this
          simpa using this
        have hh := m.holds hsrc (pre := pre) (post := post ++ R) (i := i) (by rw [hsp]; simp) hlt hrep hpre hno
        refine wpOp_mono ?_ (wpOp_of_WL ho hh (fun t ht => hNt i hilt t (by rw [hdo]; exact ht)) h1)
        rintro a' w' ⟨v, rfl, rfl, k⟩
        rw [← hdo]
        have hv : ∀ j, (if j = i then c i else vals j) = vals j := fun j => by
          by_cases e : j = i
          · subst e; simp [hC j hiC]
          · simp [e]
        have hm' := m.put hilt hdst (hNt i hilt) hpre hno (c i)
        simp only [hv] at hm'
        refine ih _ _ w' wp vals rd rs hpt hrl hrn hdj hm' hC (fun j hj => ?_) (fun j hj => ?_) (hKp _ _ _ hM k) (hpw.pure k) hdl hf'
        · rw [hgs listed i j hil]; split
          · rfl
          · exact hrd j hj
        · have : j ≠ i := by rintro rfl; exact (hrl j (by simp [hj])).2 hiC
          rw [hgs listed i j hil, if_neg this]; exact hrs j hj
      · have hird : i ∉ rd := fun hx => by have := hrd i hx; rw [hno'] at this; cases this
        have hirs : i ∈ rs := (hpt i hilt).elim (fun h => absurd h hiC) (fun h => h.elim (fun h => absurd h hird) (fun h => h))
        have hpr : preds ops rs i = false := by
          rw [preds, List.any_eq_false]
          intro p hp hb
          have h1 := hpre p hb
          have h2 := hrs p hp
          rw [h1] at h2; cases h2
        obtain ⟨n, hn⟩ : ∃ n, rs.length = n + 1 := ⟨rs.length - 1, by have := List.length_pos_of_mem hirs; omega⟩
        rw [hn] at hdl
        have h1 := AllB_mem hdl i hirs hpr w1 hpw _ ho
        rw [henv vals rd hC] at h1
        have hrep : Rep ops E0 vals (C ++ rd) (envAfter ops vals (C ++ rd) E0) := by simpa using (Rep.start ops E0 vals).after (C ++ rd)
        have hh : Holds N (restr ops i (envAfter ops vals (C ++ rd) E0)) a := by
          have hsT : ∀ t ∈ looks ops i, ∀ j, j < ops.size → dstOf ops j = some t → (j ∈ C → before? ops j i = true) ∧ (before? ops j i = true ∨ before? ops i j = true) := by
            intro t ht j hj hd
            have q1 := List.all_eq_true.1 hsrcT i (by rcases hin i hilt with h | h; exact absurd h hiC; exact h)
            have q2 := List.all_eq_true.1 (List.all_eq_true.1 q1 j (by simpa using hj)) t ht
            simp only [hd, bne_self_eq_false, Bool.false_or] at q2
            by_cases hjC : C.contains j = true
            · rw [hjC] at q2
              simp at q2
              exact ⟨fun _ => q2, .inl q2⟩
            · simp only [Bool.not_eq_true] at hjC
              rw [hjC] at q2
              simp at q2
              exact ⟨fun h => by simp [h] at hjC, q2⟩
          refine ⟨m.tsz, m.dfs, fun t v ht => ?_⟩
          obtain ⟨g1, g2⟩ := restr_lookup ht
          rcases hrep t v g2 with ⟨j, hj, hd, rfl⟩ | ⟨g3, g4⟩
          · have hjl : j < ops.size := by
              rcases List.mem_append.1 (by simpa using hj : j ∈ C ++ rd) with h | h
              · exact hlt j (by simp [h])
              · exact (hrl j (by simp [h])).1
            have hb : before? ops j i = true := by
              rcases List.mem_append.1 (by simpa using hj : j ∈ C ++ rd) with h | h
              · exact (hsT t g1 j hjl hd).1 h
              · rcases (hsT t g1 j hjl hd).2 with h5 | h5
                · exact h5
                · have h6 := m.clo j hjl (hrd j h) i h5
                  rw [hno'] at h6; cases h6
            exact m.done j hjl (hpre j hb) t hd
          · refine m.old t v g4 fun j hj hl hd => ?_
            rcases hpt j hj with h | h | h
            · exact g3 j (by simp [h]) hd
            · exact g3 j (by simp [h]) hd
            · rw [hrs j h] at hl; cases hl
        refine wpOp_mono ?_ (wpOp_of_WL ho hh (fun t ht => hNt i hilt t (by rw [hdo]; exact ht)) h1)
        rintro a' w' ⟨v, rfl, hM', hdl'⟩
        have hm' := m.put hilt hdst (hNt i hilt) hpre hno v
        rw [← hdo]
        have hC' : ∀ j ∈ C, (if j = i then v else vals j) = c j := fun j hj => by
          have : j ≠ i := by rintro rfl; exact hiC hj
          rw [if_neg this]; exact hC j hj
        have hcr : ∀ j ∈ C ++ rd, vals j = (if j = i then v else vals j) := fun j hj => by
          have : j ≠ i := by rintro rfl; exact (List.mem_append.1 hj).elim hiC hird
          rw [if_neg this]
        have her : ∀ j, j ∈ rs.erase i ↔ j ≠ i ∧ j ∈ rs := fun j => List.Nodup.mem_erase_iff hrn
        refine ih _ _ w' w' (fun j => if j = i then v else vals j) (rd ++ [i]) (rs.erase i) (fun j hj => ?_) (fun j hj => ?_) (hrn.erase i) (fun j hj => ?_) hm' hC' (fun j hj => ?_) (fun j hj => ?_) hM' (Chg.refl _ _) ?_ hf'
        · rcases hpt j hj with h | h | h
          · exact .inl h
          · exact .inr (.inl (by simp [h]))
          · by_cases e : j = i
            · exact .inr (.inl (by simp [e]))
            · exact .inr (.inr ((her j).2 ⟨e, h⟩))
        · rcases List.mem_append.1 hj with h | h
          · rcases List.mem_append.1 h with h | h
            · exact hrl j (by simp [h])
            · have : j = i := by simpa using h
              subst this
              exact hrl j (by simp [hirs])
          · exact hrl j (by simp [((her j).1 h).2])
        · intro h
          have h5 := (her j).1 h
          rcases List.mem_append.1 hj with h6 | h6
          · exact hdj j h6 h5.2
          · exact h5.1 (by simpa using h6)
        · rw [hgs listed i j hil]; split
          · rfl
          · rename_i hne
            rcases List.mem_append.1 hj with hj | hj
            · exact hrd j hj
            · exact absurd (by simpa using hj) hne
        · have h5 := (her j).1 hj
          rw [hgs listed i j hil, if_neg h5.1]; exact hrs j h5.2
        · rw [henv _ (rd ++ [i]) hC', ← List.append_assoc, envAfter_append, ← envAfter_congr ops vals _ (C ++ rd) E0 hcr]
          simp only [envAfter, if_true]
          rw [hdo, List.length_erase_of_mem hirs, hn]
          exact hdl'
  refine wp_region_any hm ?_
  refine key ops.size _ a0 w.drew w.drew c [] R (fun i hi => (hin i hi).elim .inl (fun h => .inr (.inr h))) (fun i hi => ⟨hlt i (by simpa using Or.inr (by simpa using hi)), fun h => (List.nodup_append.1 hnd).2.2 i h i (by simpa using hi) rfl⟩) (List.nodup_append.1 hnd).2.1 (fun i h => by cases h) ?_ (fun _ _ => rfl) (fun _ h => by cases h) (fun i hi => ?_) hK0 (Chg.refl _ _) hDL ?_
  · refine ⟨by simp, ha0.size, ha0.defs, fun i hi hl => ?_, fun t v ht _ => ha0.env t v ht, fun i hi hl => ?_⟩
    · simp [Array.getD_eq_getD_getElem?, hi] at hl
    · simp [Array.getD_eq_getD_getElem?, hi] at hl
  · have hi' := hlt i (by simp [hi])
    simp [Array.getD_eq_getD_getElem?, hi']
  · refine Nat.le_trans (List.length_filter_le _ _) (by simp)
theorem WC.drawM {id : Nat} (M : Nat → Prop) (C R : List Nat) (hm : P.follows .mixedOrders = true) (hok : drawOkT ops C R = true) (hN : ((List.range ops.size).all fun i => (dstOf ops i).all fun t => Nat.blt t N) = true) {w : World}
    (h0 : ∀ wd, Chg Nob w wd → wd.heap.size = w.heap.size → DQT P ops Q N (Chg M wd) wd R C E0) : WC P (.region id ops true) Q N E0 w :=
  WC.drawT (fun wd => Chg M wd) C R hm hok hN (Chg.refl _ _) (fun _ _ _ h k => h.pure k) h0
end
section
variable {P : Program} {ops : Array Oper} {Q : Exit → Act → World → Prop} {N : Nat} {M : Nat → Prop} {K : World → Prop} {w0 w : World} {E E' : Env} {R is : List Nat} {i : Nat} {o : Oper}
theorem DQT.step {v : Value} (E' : Env) (ho : ops[i]? = some o) (hs : Sub E' E) (hk : (E'.all fun p => (looks ops i).contains p.1) = true)
    (h1 : ∀ w', K w' → WL P ops (One o.dst fun u w'' => u = v ∧ Chg Nob w' w'') N [o] E' w') (h2 : DQT P ops Q N K w0 R is (putE E o.dst v)) : DQT P ops Q N K w0 R (i :: is) E :=
  ⟨v, fun o' ho' w' hw => by rw [ho] at ho'; injection ho' with ho'; subst ho'; exact (h1 w' hw).sub (sub_restr hs hk), by rw [dstOf_eq ho]; exact h2⟩
theorem DQT.split {b : Bool} (E' : Env) (ho : ops[i]? = some o) (hs : Sub E' E) (hk : (E'.all fun p => (looks ops i).contains p.1) = true)
    (h1 : ∀ w', K w' → WL P ops (One o.dst fun u w'' => u = .bool b ∧ Chg Nob w' w'') N [o] E' w') (ht : b = true → DQT P ops Q N K w0 R is (putE E o.dst (.bool true))) (hf : b = false → DQT P ops Q N K w0 R is (putE E o.dst (.bool false))) : DQT P ops Q N K w0 R (i :: is) E :=
  DQT.step E' ho hs hk h1 (by
    cases b
    · exact hf rfl
    · exact ht rfl)
theorem DQT.done (h : Chg M w0 w0 → DT P ops Q N (Chg M w0) R.length R E w0) : DQT P ops Q N (Chg M w0) w0 R [] E := h (Chg.refl _ _)
theorem DT.step {T : Env → World → Prop} (E' : Env) (ho : ops[i]? = some o) (hs : Sub E' E) (hk : (E'.all fun p => (looks ops i).contains p.1) = true)
    (h1 : ∀ w', Chg Nob w w' → WL P ops (One o.dst fun v w'' => K w'' ∧ T (putE E o.dst v) w'') N [o] E' w') :
    ∀ w', Chg Nob w w' → ∀ o', ops[i]? = some o' → WL P ops (One o'.dst fun v w'' => K w'' ∧ T (putE E o'.dst v) w'') N [o'] (restr ops i E) w' :=
  fun w' hw o' ho' => by rw [ho] at ho'; injection ho' with ho'; subst ho'; exact (h1 w' hw).sub (sub_restr hs hk)
theorem DT.done (h : ∀ w', Chg Nob w w' → WX Q .normal N E w') (rs : List Nat) : DT P ops Q N K 0 rs E w := h
end
end Go.HL
namespace Go.HL
open Go.RowKit
section
variable {P : Program} {ops : Array Oper} {Q : Exit → Act → World → Prop} {N : Nat} {E : Env} {w : World} {rest : List Oper} {ty : TypeId} {pos : String} {af : Array Edge} {d : Nat} {α : Type} {e : Enc α} {S : Nat → Prop}
/-- append to a row that has no room: always a new block -/
theorem WL.append0 {t tx T : TypeId} {s x : Operand} {ao : Option Addr} {bytes : Nat} {ys : List α} {z v : Value} (hinfo : (P.info? T).map (fun i => (i.zero, i.size, i.bytes)) = some (some z, e.sz, bytes)) (hzs : z.cells.size = e.sz)
    (ht : P.underlying t = some (.slice T)) (hs : ev E s = some (.slice ao 0 0)) (hx : ev E x = some v) (ho : Row S w T e ao 0 ([] : List α)) (hsrc : Src P e.sz tx v ys.length (e.all ys) w) (hne : 0 < ys.length)
    (hb : ys.length * bytes ≤ 140737488355328 ∧ ys.length ≤ 9223372036854775807) (hd : Nat.blt d N = true)
    (h : ∀ g c2 w', Row (fun b => b = g) w' T e (some ⟨g, 0, none⟩) c2 ys → Chg Nob w w' → g = w.heap.size → w'.heap.size = w.heap.size + 1 → WL P ops Q N rest ((d, .slice (some ⟨g, 0, none⟩) ys.length c2) :: E) w') :
    WL P ops Q N (⟨some d, .call ⟨.builtin .append, #[s, x], #[t, tx]⟩, ty, pos, af, none⟩ :: rest) E w := by
  obtain ⟨i, hi, h1, h2, h3⟩ := info_parts hinfo
  have hn63 : 0 + ys.length ≤ maxLen := by simpa [maxLen] using hb.2
  have hold : (Builtin.firstCells i.size 0 (.slice ao 0 0)).run P w.drew = .ok ([] : List Value).toArray w.drew := by
    cases ao with
    | none => simp [Builtin.firstCells]
    | some b => exact run_firstCells_some w.drew i.size 0 b 0 0 [] (by simp) (fun j v h => by simp at h)
  have hr := run_append_grow_src (P := P) w t tx ty T i z ht hi h1 ao 0 0 [] hold v ys.length (e.all ys) (by rw [h2]; exact hsrc) (by omega) (by omega) (growslice_fits (by omega) (by rw [h3]; simpa using hb.1))
  have hge := grownCap_ge w (0 + ys.length) 0 T
  have hcm : grownCap w (0 + ys.length) 0 T ≤ maxLen := grownCap_le_maxLen w (0 + ys.length) 0 T hn63
  have hlen : (e.all ys).length = ys.length * e.sz := Enc.all_len _ _
  obtain ⟨cap, hcap⟩ : ∃ cap, cap = grownCap w (0 + ys.length) 0 T := ⟨_, rfl⟩
  rw [← hcap] at hr hge hcm
  obtain ⟨W', hW'⟩ : ∃ W', W' = w.drew.alloc (.cells (([] ++ e.all ys).toArray ++ Builtin.zeroCells z.cells (cap - (0 + ys.length))) T) := ⟨_, rfl⟩
  rw [← hW', Nat.zero_add] at hr
  refine WL.run (.slice (some ⟨w.heap.size, 0, none⟩) ys.length cap) W' (fun a ha => by simp [execOp, resolve, invoke, builtin, ev_eval ha hs, ev_eval ha hx, hr]) hd ?_
  subst hW'
  have hnew := h w.heap.size cap (w.drew.alloc (.cells (([] ++ e.all ys).toArray ++ Builtin.zeroCells z.cells (cap - (0 + ys.length))) T)) ?_ ⟨rfl, rfl, rfl, by simp, fun k hk _ => Below.heap_alloc w.drew _ k hk⟩ rfl (by simp)
  · exact hnew
  · refine ⟨fun a ea => by injection ea with ea; subst ea; rfl, hlen, by omega, .inr ⟨w.heap.size, _, (0, 0), rfl, heap_alloc_new w.drew _, fun j _ h => by omega, hcm, ?_, ?_⟩⟩
    · simp only [Array.size_append, List.size_toArray, size_zeroCells, hzs, List.nil_append, hlen, ← Nat.add_mul]
      congr 1
      omega
    · simp only [Array.toList_append, List.nil_append]
      rw [← hlen]
      exact List.take_left
end
end Go.HL
namespace Go.HL
open Go.RowKit
/-! maps whose keys and values are known by codes -/
section plain
variable {K V : Type} [DecidableEq K]
def mget : List (K × V) → K → Option V
  | [], _ => none
  | (k', v) :: r, k => if k = k' then some v else mget r k
def mput : List (K × V) → K → V → List (K × V)
  | [], k, v => [(k, v)]
  | (k', v') :: r, k, v => if k = k' then (k, v) :: r else (k', v') :: mput r k v
def mdel : List (K × V) → K → List (K × V)
  | [], _ => []
  | (k', v') :: r, k => if k = k' then r else (k', v') :: mdel r k
theorem mget_put (l : List (K × V)) (k : K) (v : V) (j : K) : mget (mput l k v) j = if j = k then some v else mget l j := by
  induction l with
  | nil => simp [mput, mget]
  | cons p r ih =>
    obtain ⟨k', v'⟩ := p
    simp only [mput]
    by_cases h : k = k'
    · subst h
      simp only [if_true, mget]
      by_cases h2 : j = k <;> simp [h2]
    · simp only [h, if_false, mget, ih]
      by_cases h2 : j = k'
      · subst h2
        have : ¬ j = k := fun e => h e.symm
        simp [this]
      · simp [h2]
def fnd (l : List (K × V)) (k : K) : Nat → Option (Nat × V) := match l with
  | [] => fun _ => none
  | (k', v) :: r => fun i => if k = k' then some (i, v) else fnd r k (i + 1)
theorem fnd_none {k : K} : ∀ {l : List (K × V)} {i : Nat}, fnd l k i = none → mget l k = none ∧ (∀ v, mput l k v = l ++ [(k, v)]) ∧ mdel l k = l
  | [], _, _ => ⟨rfl, fun _ => rfl, rfl⟩
  | (k', v') :: r, i, h => by
    simp only [fnd] at h
    split at h
    · cases h
    · rename_i hne
      obtain ⟨h1, h2, h3⟩ := fnd_none h
      refine ⟨by simp [mget, hne, h1], fun v => by simp [mput, hne, h2 v], by simp [mdel, hne, h3]⟩
theorem fnd_some {k : K} {v : V} {j : Nat} : ∀ {l : List (K × V)} {i : Nat}, fnd l k i = some (j, v) → ∃ q, j = i + q ∧ l[q]? = some (k, v) ∧ mget l k = some v ∧ (∀ v', mput l k v' = l.set q (k, v')) ∧ mdel l k = l.eraseIdx q
  | [], _, h => by simp [fnd] at h
  | (k', v') :: r, i, h => by
    simp only [fnd] at h
    split at h
    · rename_i he
      subst he
      injection h with h
      injection h with h1 h2
      subst h1; subst h2
      exact ⟨0, rfl, rfl, by simp [mget], fun v' => by simp [mput], by simp [mdel]⟩
    · rename_i hne
      obtain ⟨q, h1, h2, h3, h4, h5⟩ := fnd_some h
      exact ⟨q + 1, by omega, by simpa using h2, by simp [mget, hne, h3], fun v' => by simp [mput, hne, h4 v'], by simp [mdel, hne, h5]⟩
end plain
section
variable {K V : Type} [DecidableEq K] {kv : K → Value} {vv : V → Value}
/-- a map in memory -/
def Mp (kv : K → Value) (vv : V → Value) (w : World) (m : Nat) (l : List (K × V)) : Prop := ∃ es clk, w.heap[m]? = some (.map es clk) ∧ es.toList.map (fun e => (e.key, e.val)) = l.map (fun p => (kv p.1, vv p.2))
omit [DecidableEq K] in
theorem Mp.lt {w : World} {m : Nat} {l : List (K × V)} (h : Mp kv vv w m l) : m < w.heap.size := by
  obtain ⟨es, clk, h1, _⟩ := h
  exact (Array.getElem?_eq_some_iff.1 h1).1
omit [DecidableEq K] in
theorem Mp.chg {M : Nat → Prop} {w w' : World} {m : Nat} {l : List (K × V)} (h : Mp kv vv w m l) (k : Chg M w w') (hm : ¬ M m) : Mp kv vv w' m l := by
  obtain ⟨es, clk, h1, h2⟩ := h
  exact ⟨es, clk, k.obj h1 hm, h2⟩
omit [DecidableEq K] in
theorem Mp.pure {w w' : World} {m : Nat} {l : List (K × V)} (h : Mp kv vv w m l) (k : Chg Nob w w') : Mp kv vv w' m l := h.chg k (fun x => x)
/-- what a type of keys must do -/
structure KeyOk (P : Program) (T : TypeId) (kv : K → Value) : Prop where
  chk : ∀ em w k, (Instr.checkKey em 10000 T (kv k)).run P w = .ok () w
  eq : ∀ w k k', (Op.equal T (kv k) (kv k')).run P w = .ok (decide (k = k')) w
  st : ∃ fs, P.underlying T = some (.struct fs)
  same : ∀ k, Instr.sameBits 10000 (kv k) (kv k) = true
variable {P : Program} {T : TypeId}
theorem run_findAsking (hk : KeyOk P T kv) (w : World) (k : K) : ∀ (es : List MapEntry) (l : List (K × V)) (i : Nat), es.map (fun e => (e.key, e.val)) = l.map (fun p => (kv p.1, vv p.2)) →
    (Instr.findAsking T (kv k) es i).run P w = .ok ((fnd l k i).map fun r => (r.1, vv r.2)) w
  | [], l, i, h => by
    cases l with
    | nil => simp [Instr.findAsking, fnd]
    | cons p r => simp at h
  | e :: es, l, i, h => by
    cases l with
    | nil => simp at h
    | cons p r =>
      obtain ⟨k', v'⟩ := p
      simp only [List.map_cons, List.cons.injEq, Prod.mk.injEq] at h
      obtain ⟨⟨h1, h2⟩, h3⟩ := h
      have ih := run_findAsking hk w k es r (i + 1) h3
      by_cases he : k = k'
      · simp [Instr.findAsking, h1, hk.eq, he, fnd, h2]
      · simp [Instr.findAsking, h1, hk.eq, he, fnd, ih]
theorem run_findKey (hk : KeyOk P T kv) (w : World) (k : K) (es : List MapEntry) (l : List (K × V)) (h : es.map (fun e => (e.key, e.val)) = l.map (fun p => (kv p.1, vv p.2))) :
    (Instr.findKey T (kv k) es).run P w = .ok ((fnd l k 0).map fun r => (r.1, vv r.2)) w := by
  obtain ⟨fs, hu⟩ := hk.st
  have ha := run_findAsking hk w k es l 0 h
  cases es with
  | nil =>
    cases l with
    | nil => simp [Instr.findKey, run_underlying hu, Instr.findNow, fnd]
    | cons p r => simp at h
  | cons e es => simp [Instr.findKey, run_underlying hu, Instr.findNow, Instr.sameNow, ha]
end
section
variable {K V : Type} [DecidableEq K] {kv : K → Value} {vv : V → Value} {P : Program} {ops : Array Oper} {Q : Exit → Act → World → Prop} {N : Nat} {E : Env} {w : World} {rest : List Oper} {d : Nat} {ty t T U : TypeId} {pos : String} {af : Array Edge} {x y z : Operand} {m : Nat} {l : List (K × V)} {k : K}
theorem WL.mlookup {zv : Value} (hk : KeyOk P T kv) (ht : P.underlying t = some (.map T U)) (hz : ∀ w, (zeroValue U).run P w = .ok zv w) (hm : Mp kv vv w m l) (hx : ev E x = some (.map (some m))) (hy : ev E y = some (kv k)) (hd : Nat.blt d N = true)
    (h : WL P ops Q N rest ((d, .tuple #[((mget l k).map vv).getD zv, .bool (mget l k).isSome]) :: E) w) : WL P ops Q N (⟨some d, .lookup t x y true, ty, pos, af, none⟩ :: rest) E w := by
  refine WL.run _ w (fun a ha => ?_) hd h
  obtain ⟨es, clk, h1, h2⟩ := hm
  have hf := run_findKey hk w k es.toList l h2
  simp only [execOp, ev_eval ha hx, ev_eval ha hy]
  cases hq : fnd l k 0 with
  | none =>
    obtain ⟨h3, _⟩ := fnd_none hq
    rw [hq] at hf
    simp [Instr.lookup, run_underlying ht, MapKept.run_getObj_map h1, hk.chk, hf, hz, h3]
  | some r =>
    obtain ⟨j, v⟩ := r
    obtain ⟨q, _, _, h3, _⟩ := fnd_some hq
    rw [hq] at hf
    simp [Instr.lookup, run_underlying ht, MapKept.run_getObj_map h1, hk.chk, hf, h3]
theorem Chg.setBlk (w : World) (m : Nat) (o : Obj) : Chg (· = m) w { w with heap := w.heap.setIfInBounds m o } :=
  ⟨rfl, rfl, rfl, by simp, fun k hk hm => by
    have : m ≠ k := fun e => hm e.symm
    simp [Array.getElem?_setIfInBounds_ne this]⟩
theorem setBlk_get {w : World} {m : Nat} (o : Obj) (h : m < w.heap.size) : ({ w with heap := w.heap.setIfInBounds m o } : World).heap[m]? = some o := by simp [h]
theorem run_thatStays (hk : KeyOk P T kv) (w : World) (k : K) : (Instr.keyThatStays (kv k) (kv k)).run P w = .ok (kv k) w := by
  simp [Instr.keyThatStays, hk.same]
theorem run_mapPut {v : V} (hk : KeyOk P T kv) (ht : P.underlying t = some (.map T U)) (hm : Mp kv vv w m l) (k : K) :
    ∃ w', (Instr.mapUpdate t (.map (some m)) (kv k) (vv v)).run P w = .ok () w' ∧ Mp kv vv w' m (mput l k v) ∧ Chg (· = m) w w' ∧ w'.heap.size = w.heap.size := by
  obtain ⟨es, clk, h1, h2⟩ := hm
  have hlt := (Array.getElem?_eq_some_iff.1 h1).1
  have hf := run_findKey hk w k es.toList l h2
  cases hq : fnd l k 0 with
  | none =>
    obtain ⟨_, h3, _⟩ := fnd_none hq
    rw [hq] at hf
    refine ⟨{ w with heap := w.heap.setIfInBounds m (.map (es.push ⟨kv k, vv v, clk⟩) (clk + 1)) }, ?_, ⟨_, _, setBlk_get _ hlt, ?_⟩, Chg.setBlk _ _ _, by simp⟩
    · simp [Instr.mapUpdate, run_underlying ht, MapKept.run_getObj_map h1, hk.chk, hf, MapKept.run_setObj_map _ h1]
    · rw [h3]
      simp [h2]
  | some r =>
    obtain ⟨j, u⟩ := r
    obtain ⟨q, h3, h4, _, h5, _⟩ := fnd_some hq
    rw [Nat.zero_add] at h3
    subst h3
    rw [hq] at hf
    have hlen : es.toList.length = l.length := by simpa using congrArg List.length h2
    have hjl : j < l.length := (List.getElem?_eq_some_iff.1 h4).1
    have hjs : j < es.size := by rw [← Array.length_toList, hlen]; exact hjl
    have hje : es[j]? = some es[j] := Array.getElem?_eq_getElem hjs
    have hkey : es[j].key = kv k := by
      have := congrArg (fun l : List (Value × Value) => l[j]?) h2
      simp only [List.getElem?_map, h4, Option.map_some, Array.getElem?_toList, hje] at this
      injection this with this
      injection this
    refine ⟨{ w with heap := w.heap.setIfInBounds m (.map (es.modify j fun e => { e with key := kv k, val := vv v }) clk) }, ?_, ⟨_, _, setBlk_get _ hlt, ?_⟩, Chg.setBlk _ _ _, by simp⟩
    · simp [Instr.mapUpdate, run_underlying ht, MapKept.run_getObj_map h1, hk.chk, hf, hje, hkey, run_thatStays hk, MapKept.run_setObj_map _ h1]
    · rw [h5 v]
      apply List.ext_getElem?
      intro i
      have hi := congrArg (fun l : List (Value × Value) => l[i]?) h2
      simp only [List.getElem?_map, Array.getElem?_toList] at hi
      simp only [List.getElem?_map, Array.getElem?_toList, Array.getElem?_modify, List.getElem?_set]
      by_cases e : j = i
      · subst e
        simp [hje, hjl]
      · simp [e, hi]
theorem WL.mput {v : V} (hk : KeyOk P T kv) (ht : P.underlying t = some (.map T U)) (hm : Mp kv vv w m l) (hx : ev E x = some (.map (some m))) (hy : ev E y = some (kv k)) (hv : ev E z = some (vv v))
    (h : ∀ w', w'.heap.size = w.heap.size → Mp kv vv w' m (mput l k v) → Chg (· = m) w w' → WL P ops Q N rest E w') : WL P ops Q N (⟨none, .mapUpdate t x y z, ty, pos, af, none⟩ :: rest) E w := by
  obtain ⟨w', h1, h2, h3, h4⟩ := run_mapPut (v := v) hk ht hm k
  exact WL.run0 w' (fun a ha => by simp [execOp, ev_eval ha hx, ev_eval ha hy, ev_eval ha hv, h1]) (h w' h4 h2 h3)
theorem WL.mdel {ats : Array TypeId} (hk : KeyOk P T kv) (ht : P.underlying t = some (.map T U)) (hm : Mp kv vv w m l) (hx : ev E x = some (.map (some m))) (hy : ev E y = some (kv k)) (hat : ats[0]? = some t) (hd : Nat.blt d N = true)
    (h : ∀ w', w'.heap.size = w.heap.size → Mp kv vv w' m (mdel l k) → Chg (· = m) w w' → WL P ops Q N rest ((d, .tuple #[]) :: E) w') : WL P ops Q N (⟨some d, .call ⟨.builtin .delete, #[x, y], ats⟩, ty, pos, af, none⟩ :: rest) E w := by
  obtain ⟨es, clk, h1, h2⟩ := hm
  have hlt := (Array.getElem?_eq_some_iff.1 h1).1
  have hf := run_findKey hk w k es.toList l h2
  cases hq : fnd l k 0 with
  | none =>
    obtain ⟨_, _, h3⟩ := fnd_none hq
    rw [hq] at hf
    refine WL.run _ { w with heap := w.heap.setIfInBounds m (.map es clk) } (fun a ha => ?_) hd (h _ (by simp) ⟨_, _, setBlk_get _ hlt, by rw [h3]; exact h2⟩ (Chg.setBlk _ _ _))
    simp [execOp, resolve, invoke, builtin, ev_eval ha hx, ev_eval ha hy, Builtin.delete_, hat, run_underlying ht, MapKept.run_getObj_map h1, hk.chk, hf, MapKept.run_setObj_map _ h1]
  | some r =>
    obtain ⟨j, u⟩ := r
    obtain ⟨q, h3, h4, _, _, h5⟩ := fnd_some hq
    rw [Nat.zero_add] at h3
    subst h3
    rw [hq] at hf
    refine WL.run _ { w with heap := w.heap.setIfInBounds m (.map (es.eraseIdxIfInBounds j) clk) } (fun a ha => ?_) hd (h _ (by simp) ⟨_, _, setBlk_get _ hlt, ?_⟩ (Chg.setBlk _ _ _))
    · simp [execOp, resolve, invoke, builtin, ev_eval ha hx, ev_eval ha hy, Builtin.delete_, hat, run_underlying ht, MapKept.run_getObj_map h1, hk.chk, hf, MapKept.run_setObj_map _ h1]
    · rw [h5]
      have hlen : es.toList.length = l.length := by simpa using congrArg List.length h2
      have hjl : j < l.length := (List.getElem?_eq_some_iff.1 h4).1
      have hje : j < es.size := by rw [← Array.length_toList, hlen]; exact hjl
      rw [Array.eraseIdxIfInBounds, dif_pos hje, Array.toList_eraseIdx, List.eraseIdx_eq_take_drop_succ, List.eraseIdx_eq_take_drop_succ, List.map_append, List.map_append, List.map_take, List.map_take, List.map_drop, List.map_drop, h2]
omit [DecidableEq K] in
theorem WL.makeMap (hd : Nat.blt d N = true) (h : ∀ g w', w.heap.size = g → g < w'.heap.size → Mp kv vv w' g [] → Chg Nob w w' → WL P ops Q N rest ((d, .map (some g)) :: E) w') :
    WL P ops Q N (⟨some d, .makeMap t none, ty, pos, af, none⟩ :: rest) E w :=
  WL.run _ (w.alloc (.map #[] 0)) (fun a ha => by simp [execOp, Instr.makeMap, newObj, Sem.run]) hd
    (h _ _ rfl (by simp) ⟨#[], 0, heap_alloc_new w _, rfl⟩ (Chg.alloc _ _))
end
end Go.HL
namespace Go.HL
open Go.RowKit
/-! kinds of blocks -/
def kb (w : World) (b : Nat) : Option (Option TypeId) := (w.heap[b]?).map fun o => match o with
  | .cells _ e _ => some e
  | _ => none
theorem Blk.kb {w : World} {b : Nat} {e : TypeId} {cs : List Value} (h : Blk w b e cs) : kb w b = some (some e) := by
  unfold Blk at h
  simp [Go.HL.kb, h]
theorem Mp.kb {K V : Type} {kv : K → Value} {vv : V → Value} {w : World} {m : Nat} {l : List (K × V)} (h : Mp kv vv w m l) : kb w m = some none := by
  obtain ⟨es, clk, h1, _⟩ := h
  simp [Go.HL.kb, h1]
theorem Own.kb {w : World} {e : TypeId} {sz : Nat} {ao : Option Addr} {n c : Nat} {cs : List Value} (h : Own w e sz ao n c cs) : At (fun b => kb w b = some (some e)) ao := fun a ea => by
  rcases h.2.2 with ⟨rfl, _⟩ | ⟨g, cur, fr, rfl, hg, _⟩
  · cases ea
  · injection ea with ea
    subst ea
    simp [Go.HL.kb, hg]
theorem Row.chgK {α : Type} {S M : Nat → Prop} {w w' : World} {T : TypeId} {e : Enc α} {ao : Option Addr} {c : Nat} {xs : List α} (h : Row S w T e ao c xs) (k : Chg M w w') (hd : ∀ b, b < w.heap.size → M b → kb w b ≠ some (some T)) : Row S w' T e ao c xs :=
  ⟨h.at_, h.own.chg k (fun a ea hm => hd _ (h.own.lt a ea) hm (h.own.kb a ea))⟩
theorem Row.kb {α : Type} {S : Nat → Prop} {w : World} {T : TypeId} {e : Enc α} {ao : Option Addr} {c : Nat} {xs : List α} (h : Row S w T e ao c xs) : Row (fun b => S b ∧ kb w b = some (some T)) w T e ao c xs := ⟨fun a ea => ⟨h.at_ a ea, h.own.kb a ea⟩, h.own⟩
/-! parts of a row of the call's own are written -/
theorem splice_take {α : Type} {L vs : List α} {o n : Nat} (h1 : o + vs.length ≤ n) (h2 : n ≤ L.length) : (L.take o ++ vs ++ L.drop (o + vs.length)).take n = (L.take n).take o ++ vs ++ (L.take n).drop (o + vs.length) := by
  apply List.ext_getElem?
  intro j
  simp only [List.append_assoc, List.getElem?_take, List.getElem?_append, List.length_take, List.getElem?_drop]
  rw [show min o L.length = o from by omega, show min o (min n L.length) = o from by omega]
  by_cases hj : j < n
  · simp only [hj, if_true]
    by_cases h3 : j < o
    · simp [h3, hj]
    · by_cases h4 : j - o < vs.length
      · simp [h3, h4]
      · simp [h3, h4, show o + vs.length + (j - o - vs.length) < n from by omega]
  · simp [hj, show ¬ j < o from by omega, show ¬ j - o < vs.length from by omega]
    intro h5
    exfalso
    omega
section
variable {α : Type} {e : Enc α} {S : Nat → Prop} {w : World} {T : TypeId} {g c : Nat} {xs ys : List α}
theorem Enc.all_set (e : Enc α) {xs : List α} {j : Nat} (hj : j < xs.length) (z : α) : e.all (xs.set j z) = (e.all xs).take (j * e.sz) ++ e.f z ++ (e.all xs).drop (j * e.sz + (e.f z).length) := by
  rw [List.set_eq_take_append_cons_drop, if_pos hj, Enc.all_append, e.len, Enc.all_take, show j * e.sz + e.sz = (j + 1) * e.sz from by rw [Nat.add_mul, Nat.one_mul], Enc.all_drop, List.append_assoc]
  rfl
theorem Row.splice (hr : Row S w T e (some ⟨g, 0, none⟩) c xs) {o : Nat} {vs : List Value} (ho : o + vs.length ≤ xs.length * e.sz) (hl : ys.length = xs.length) (he : (e.all xs).take o ++ vs ++ (e.all xs).drop (o + vs.length) = e.all ys) :
    Row S (w.setCells g o vs) T e (some ⟨g, 0, none⟩) c ys ∧ (∀ j, j < vs.length → (w.cell? ⟨g, o + j, none⟩).isSome = true) ∧ (∀ j, j < vs.length → w.frozen? ⟨g, o + j, none⟩ = false) := by
  obtain ⟨hat, hlen, hcap, hc | ⟨g', cur, fr, hg', hg, hfr, hmax, hsz, htk⟩⟩ := hr
  · cases hc.1
  · injection hg' with hg'
    injection hg' with hg' _ _
    subst hg'
    have hcs : xs.length * e.sz ≤ c * e.sz := Nat.mul_le_mul_right _ hcap
    have hs2 := setCells_same g T fr vs o w cur hg (by omega)
    refine ⟨⟨hat, Enc.all_len _ _, by omega, .inr ⟨g, _, fr, rfl, hs2, ?_, hmax, ?_, ?_⟩⟩, fun j hj => ?_, fun j hj => ?_⟩
    · intro j hj
      refine hfr j ?_
      simp only [List.size_toArray, List.length_append, List.length_take, List.length_drop, Array.length_toList] at hj
      omega
    · simp only [List.size_toArray, List.length_append, List.length_take, List.length_drop, Array.length_toList]
      omega
    · have hcl : cur.toList.length = cur.size := Array.length_toList
      rw [List.toList_toArray, hl, splice_take ho (by omega), htk]
      exact he
    · rw [cell_of_row w g _ cur T fr hg, Array.getElem?_eq_getElem (by omega)]
      rfl
    · have := hfr (o + j) (by omega)
      simp only [World.frozen?, hg]
      simpa using this
theorem Row.take (hr : Row S w T e (some ⟨g, 0, none⟩) c xs) (i : Nat) (hi : i ≤ xs.length) : Row S w T e (some ⟨g, 0, none⟩) c (xs.take i) := by
  obtain ⟨hat, hlen, hcap, hc | ⟨g', cur, fr, hg', hg, hfr, hmax, hsz, htk⟩⟩ := hr
  · cases hc.1
  · refine ⟨hat, Enc.all_len _ _, by simp; omega, .inr ⟨g', cur, fr, hg', hg, hfr, hmax, hsz, ?_⟩⟩
    rw [← Enc.all_take, ← htk, List.take_take, List.length_take, Nat.min_eq_left hi, Nat.min_eq_left (Nat.mul_le_mul_right _ hi)]
end
section
variable {P : Program} {ops : Array Oper} {Q : Exit → Act → World → Prop} {N : Nat} {E : Env} {w : World} {rest : List Oper}
  {d : Nat} {ty : TypeId} {pos : String} {af : Array Edge} {α : Type} {e : Enc α} {S : Nat → Prop} {t tb T : TypeId} {x y : Operand} {g o c : Nat} {xs ys : List α}
theorem Holds.dup {a : Act} (h : Holds N E a) {t : Nat} {v : Value} (hx : ev E (.tmp t) = some v) : Holds N ((t, v) :: E) a := ⟨h.size, h.defs, fun s u hu => by
  by_cases e : s = t
  · subst e
    simp at hu
    subst hu
    exact h.env _ _ hx
  · have hne : (s == t) = false := by simpa using e
    simp only [List.lookup, hne] at hu
    exact h.env s u hu⟩
/-- a bool that isn't known: both ways -/
theorem WL.caseB {l : List Oper} {t : Nat} {b : Bool} (hx : ev E (.tmp t) = some (.bool b)) (hT : b = true → WL P ops Q N l ((t, .bool true) :: E) w) (hF : b = false → WL P ops Q N l ((t, .bool false) :: E) w) : WL P ops Q N l E w := by
  cases b
  · exact fun a ha => hF rfl a (ha.dup hx)
  · exact fun a ha => hT rfl a (ha.dup hx)
theorem WL.runN {op : Op} (v : Value) (w' : World) (hrun : ∀ a, Holds N E a → (execOp a.eval ⟨none, op, ty, pos, af, none⟩).run P w = .ok (.value v) w') (h : WL P ops Q N rest E w') : WL P ops Q N (⟨none, op, ty, pos, af, none⟩ :: rest) E w := fun a ha => by
  refine wpList_plain rfl fun K hK => ?_
  unfold Oper.wp
  rw [hrun a ha]
  exact hK _ _ (h _ ha)
theorem setCells_sz (vs : List Value) : ∀ (o : Nat) (w : World), (w.setCells g o vs).heap.size = w.heap.size := by
  induction vs with
  | nil => intro o w; rfl
  | cons v r ih => intro o w; rw [World.setCells, ih]; simp
/-- several cells of a row of the call's own are written -/
theorem WL.storeE {vs : List Value} {k : Nat} (hs : ∀ w, (sizeOf t).run P w = .ok k w) (hr : Row S w T e (some ⟨g, 0, none⟩) c xs) (hx : ev E x = some (.pointer (some ⟨g, o, none⟩))) (hy : ev E y = some (.agg vs.toArray)) (hk : vs.length = k) (h1 : ∀ u ∈ vs, u.oneCell' = true)
    (ho : o + vs.length ≤ xs.length * e.sz) (hl : ys.length = xs.length) (he : (e.all xs).take o ++ vs ++ (e.all xs).drop (o + vs.length) = e.all ys)
    (h : ∀ w', w'.heap.size = w.heap.size → Row S w' T e (some ⟨g, 0, none⟩) c ys → Chg (· = g) w w' → WL P ops Q N rest E w') :
    WL P ops Q N (⟨none, .store t x y, ty, pos, af, none⟩ :: rest) E w := by
  obtain ⟨h2, h3, h4⟩ := hr.splice ho hl he
  refine WL.run0 (w.setCells g o vs) (fun a hh => ?_) (h _ (setCells_sz _ _ _) h2 (setCells_chg g vs o w))
  have hst := run_storeCells_cells (P := P) g o vs 0 w (by simpa using h3) (by simpa using h4) h1
  simp only [Nat.add_zero] at hst
  simp [execOp, ev_eval hh hx, ev_eval hh hy, Instr.storeAt, Instr.sureAddr, storeVar, hs, Value.cells, hk, hst]
/-- one cell of an element -/
theorem WL.storeF {v : Value} (hs : ∀ w, (sizeOf t).run P w = .ok 1 w) (hr : Row S w T e (some ⟨g, 0, none⟩) c xs) (hx : ev E x = some (.pointer (some ⟨g, o, none⟩))) (hy : ev E y = some v) (h1 : v.oneCell' = true)
    (ho : o + 1 ≤ xs.length * e.sz) (hl : ys.length = xs.length) (he : (e.all xs).take o ++ [v] ++ (e.all xs).drop (o + 1) = e.all ys)
    (h : ∀ w', w'.heap.size = w.heap.size → Row S w' T e (some ⟨g, 0, none⟩) c ys → Chg (· = g) w w' → WL P ops Q N rest E w') :
    WL P ops Q N (⟨none, .store t x y, ty, pos, af, none⟩ :: rest) E w := by
  obtain ⟨h2, h3, h4⟩ := hr.splice (vs := [v]) ho hl he
  refine WL.run0 (w.setCells g o [v]) (fun a hh => ?_) (h _ (setCells_sz _ _ _) h2 (setCells_chg g [v] o w))
  have hst := run_storeCells_cells (P := P) g o [v] 0 w (by simpa using h3) (by simpa using h4) (by simpa using h1)
  simp only [Nat.add_zero] at hst
  have hc1 : v.cells = #[v] := by cases v <;> simp_all [Value.oneCell', Value.cells]
  simp [execOp, ev_eval hh hx, ev_eval hh hy, Instr.storeAt, Instr.sureAddr, storeVar, hs, hc1, hst]
theorem zeroCells_list (z : Array Value) (n : Nat) : (Builtin.zeroCells z n).toList.length = n * z.size ∧ ∀ u ∈ (Builtin.zeroCells z n).toList, u ∈ z.toList := by
  refine ⟨by rw [Array.length_toList, size_zeroCells], fun u hu => ?_⟩
  simp only [Builtin.zeroCells, Array.mem_toList_iff, Array.mem_map, Array.mem_range] at hu
  obtain ⟨i, hi, rfl⟩ := hu
  have hz : 0 < z.size := by
    rcases Nat.eq_zero_or_pos z.size with h | h
    · rw [h, Nat.mul_zero] at hi; omega
    · exact h
  rw [getElem!_pos z (i % z.size) (Nat.mod_lt _ hz), Array.mem_toList_iff]
  exact Array.getElem_mem _
/-- what lies behind is cleared -/
theorem WL.clearTail {z : Value} {i m : Nat} (ht : P.underlying t = some (.slice T)) (hz : ∀ w, (zeroValue T).run P w = .ok z w) (hzs : z.cells.size = e.sz) (hz1 : ∀ u ∈ z.cells.toList, u.oneCell' = true) (hr : Row S w T e (some ⟨g, 0, none⟩) c xs) (hi : i + m = xs.length)
    (hx : ev E x = some (.slice (cutAt (some ⟨g, 0, none⟩) c i e.sz) m (c - i)))
    (h : ∀ w', w'.heap.size = w.heap.size → Row S w' T e (some ⟨g, 0, none⟩) c (xs.take i) → Chg (· = g) w w' → WL P ops Q N rest E w') :
    WL P ops Q N (⟨none, .call ⟨.builtin .clear, #[x], #[t]⟩, ty, pos, af, none⟩ :: rest) E w := by
  rcases Nat.eq_zero_or_pos m with hm | hm
  · subst hm
    have hxs : xs.take i = xs := List.take_of_length_le (by omega)
    refine WL.runN (.tuple #[]) w (fun a ha => ?_) (h w rfl (by rw [hxs]; exact hr) ((Chg.refl Nob w).mono (fun _ _ f => f.elim)))
    have hcl : (Builtin.clear_ #[t] ty #[.slice (cutAt (some ⟨g, 0, none⟩) c i e.sz) 0 (c - i)]).run P w = .ok (.tuple #[]) w := by
      cases cutAt (some ⟨g, 0, none⟩) c i e.sz <;> simp [Builtin.clear_, run_underlying ht]
    simp [execOp, resolve, invoke, builtin, ev_eval ha hx, hcl]
  · have hcap := hr.own.cap
    have hne : ¬ c = i := by omega
    have hcut : cutAt (some (⟨g, 0, none⟩ : Addr)) c i e.sz = some ⟨g, i * e.sz, none⟩ := by simp [cutAt, hne, Addr.add_lit]
    rw [hcut] at hx
    obtain ⟨hl, hu⟩ := zeroCells_list z.cells m
    obtain ⟨vs, hvs⟩ : ∃ vs, vs = (Builtin.zeroCells z.cells m).toList := ⟨_, rfl⟩
    rw [← hvs] at hl hu
    rw [hzs] at hl
    obtain ⟨hat, hlen, hcp, hc0 | ⟨g', cur, fr, hg', hg, hfr, hmax, hsz, htk⟩⟩ := hr
    · cases hc0.1
    · injection hg' with hg'
      injection hg' with hg' _ _
      subst hg'
      have e1 : i * e.sz + m * e.sz = xs.length * e.sz := by rw [← Nat.add_mul, hi]
      have hcs : xs.length * e.sz ≤ c * e.sz := Nat.mul_le_mul_right _ hcap
      have hs2 := setCells_same g T fr vs (i * e.sz) w cur hg (by omega)
      have hst := run_storeCells_cells (P := P) g (i * e.sz) vs 0 w (fun j hj => by
        rw [Nat.add_zero, cell_of_row w g _ cur T fr hg, Array.getElem?_eq_getElem (by omega)]
        rfl) (fun j hj => by
        have := hfr (i * e.sz + 0 + j) (by omega)
        simp only [World.frozen?, hg]
        simpa using this) (fun u h5 => hz1 u (hu u h5))
      simp only [Nat.add_zero] at hst
      refine WL.runN (.tuple #[]) (w.setCells g (i * e.sz) vs) (fun a ha => ?_) (h _ (setCells_sz _ _ _) ⟨hat, Enc.all_len _ _, by simp; omega, .inr ⟨g, _, fr, rfl, hs2, ?_, hmax, ?_, ?_⟩⟩ (setCells_chg g vs _ w))
      · obtain ⟨q, rfl⟩ : ∃ q, m = q + 1 := ⟨m - 1, by omega⟩
        have hcl : (Builtin.clear_ #[t] ty #[.slice (some ⟨g, i * e.sz, none⟩) (q + 1) (c - i)]).run P w = .ok (.tuple #[]) (w.setCells g (i * e.sz) vs) := by
          simp [Builtin.clear_, run_underlying ht, hz, ← hvs, hst]
        simp [execOp, resolve, invoke, builtin, ev_eval ha hx, hcl]
      · intro j hj
        refine hfr j ?_
        simp only [List.size_toArray, List.length_append, List.length_take, List.length_drop, Array.length_toList] at hj
        omega
      · simp only [List.size_toArray, List.length_append, List.length_take, List.length_drop, Array.length_toList]
        omega
      · rw [List.toList_toArray, ← Enc.all_take, ← htk, List.take_take, List.length_take, Nat.min_eq_left (show i ≤ xs.length by omega), Nat.min_eq_left (Nat.mul_le_mul_right _ (show i ≤ xs.length by omega)), List.append_assoc, List.take_append_of_le_length (by rw [List.length_take, Array.length_toList]; omega), List.take_take, Nat.min_self]
/-- the head of a row of the call's own -/
theorem WL.sliceRow {hi : Operand} {i n : Nat} {j : IntKind} (ht : P.underlying t = some (.slice T)) (hs : ∀ w, (sizeOf T).run P w = .ok e.sz w) (hx : ev E x = some (.slice (some ⟨g, 0, none⟩) n c)) (hhi : ev E hi = some (.int j (i : Int))) (hi' : i ≤ c) (hd : Nat.blt d N = true)
    (h : WL P ops Q N rest ((d, .slice (some ⟨g, 0, none⟩) i c) :: E) w) : WL P ops Q N (⟨some d, .slice t x none (some hi) none, ty, pos, af, none⟩ :: rest) E w := by
  refine WL.run _ w (fun a ha => ?_) hd h
  simp only [execOp, ev_eval ha hx, Option.map_none, Option.map_some, ev_eval ha hhi]
  have := run_sliceAt w ht hs (some ⟨g, 0, none⟩) n c 0 i .i64 j none (some (.int j (i : Int))) (.inr ⟨rfl, rfl⟩) (.inl ⟨rfl, hi'⟩) (Nat.zero_le _)
  have hc : cutAt (some (⟨g, 0, none⟩ : Addr)) c 0 e.sz = some ⟨g, 0, none⟩ := by
    unfold cutAt
    split <;> simp [Addr.add_lit]
  rw [hc] at this
  simp [this]
theorem WL.makeFun {f : FuncId} {v : Value} (hx : ev E x = some v) (hd : Nat.blt d N = true) (h : WL P ops Q N rest ((d, .func (.func f) #[] #[v]) :: E) w) :
    WL P ops Q N (⟨some d, .makeFunc (.func f) #[] #[x], ty, pos, af, none⟩ :: rest) E w :=
  WL.run _ w (fun a ha => by simp [execOp, ev_eval ha hx, Instr.makeFunc]) hd h
theorem WL.ptrNil {ao : Option Addr} (ht : P.underlying t = some (.pointer (P.pointee t))) (hx : ev E x = some (.pointer ao)) (hy : ev E y = some (.pointer none)) (hd : Nat.blt d N = true) (h : WL P ops Q N rest ((d, .bool ao.isNone) :: E) w) :
    WL P ops Q N (⟨some d, .binOp .eql t x y tb, ty, pos, af, none⟩ :: rest) E w :=
  WL.run _ w (fun a ha => by simp [execOp, ev_eval ha hx, ev_eval ha hy, eqGuard, binOp, run_equal_pointer_nil (P := P) w t ao ht]) hd h
theorem WL.ptrSome {ao : Option Addr} (ht : P.underlying t = some (.pointer (P.pointee t))) (hx : ev E x = some (.pointer ao)) (hy : ev E y = some (.pointer none)) (hd : Nat.blt d N = true) (h : WL P ops Q N rest ((d, .bool ao.isSome) :: E) w) :
    WL P ops Q N (⟨some d, .binOp .neq t x y tb, ty, pos, af, none⟩ :: rest) E w :=
  WL.run _ w (fun a ha => by
    have : (!ao.isNone) = ao.isSome := by cases ao <;> rfl
    simp [execOp, ev_eval ha hx, ev_eval ha hy, eqGuard, binOp, run_equal_pointer_nil (P := P) w t ao ht, this]) hd h
theorem WL.mdel0 {K V : Type} [DecidableEq K] {kv : K → Value} {vv : V → Value} {U : TypeId} {m : Nat} {l : List (K × V)} {k : K} {ats : Array TypeId} (hk : KeyOk P T kv) (ht : P.underlying t = some (.map T U)) (hm : Mp kv vv w m l) (hx : ev E x = some (.map (some m))) (hy : ev E y = some (kv k)) (hat : ats[0]? = some t)
    (h : ∀ w', w'.heap.size = w.heap.size → Mp kv vv w' m (Go.HL.mdel l k) → Chg (· = m) w w' → WL P ops Q N rest E w') : WL P ops Q N (⟨none, .call ⟨.builtin .delete, #[x, y], ats⟩, ty, pos, af, none⟩ :: rest) E w := by
  obtain ⟨es, clk, h1, h2⟩ := hm
  have hlt := (Array.getElem?_eq_some_iff.1 h1).1
  have hf := run_findKey hk w k es.toList l h2
  cases hq : fnd l k 0 with
  | none =>
    obtain ⟨_, _, h3⟩ := fnd_none hq
    rw [hq] at hf
    refine WL.runN (.tuple #[]) { w with heap := w.heap.setIfInBounds m (.map es clk) } (fun a ha => ?_) (h _ (by simp) ⟨_, _, setBlk_get _ hlt, by rw [h3]; exact h2⟩ (Chg.setBlk _ _ _))
    simp [execOp, resolve, invoke, builtin, ev_eval ha hx, ev_eval ha hy, Builtin.delete_, hat, run_underlying ht, MapKept.run_getObj_map h1, hk.chk, hf, MapKept.run_setObj_map _ h1]
  | some r =>
    obtain ⟨j, u⟩ := r
    obtain ⟨q, h3, h4, _, _, h5⟩ := fnd_some hq
    rw [Nat.zero_add] at h3
    subst h3
    rw [hq] at hf
    refine WL.runN (.tuple #[]) { w with heap := w.heap.setIfInBounds m (.map (es.eraseIdxIfInBounds j) clk) } (fun a ha => ?_) (h _ (by simp) ⟨_, _, setBlk_get _ hlt, ?_⟩ (Chg.setBlk _ _ _))
    · simp [execOp, resolve, invoke, builtin, ev_eval ha hx, ev_eval ha hy, Builtin.delete_, hat, run_underlying ht, MapKept.run_getObj_map h1, hk.chk, hf, MapKept.run_setObj_map _ h1]
    · rw [h5]
      have hlen : es.toList.length = l.length := by simpa using congrArg List.length h2
      have hjl : j < l.length := (List.getElem?_eq_some_iff.1 h4).1
      have hje : j < es.size := by rw [← Array.length_toList, hlen]; exact hjl
      rw [Array.eraseIdxIfInBounds, dif_pos hje, Array.toList_eraseIdx, List.eraseIdx_eq_take_drop_succ, List.eraseIdx_eq_take_drop_succ, List.map_append, List.map_append, List.map_take, List.map_take, List.map_drop, List.map_drop, h2]
end
end Go.HL
namespace Go.HL
open Go.RowKit
/-! comparisons whose answer is known -/
section
variable {P : Program} {ops : Array Oper} {Q : Exit → Act → World → Prop} {N : Nat} {E : Env} {w : World} {rest : List Oper} {d : Nat} {ty : TypeId} {pos : String} {af : Array Edge} {t tb : TypeId} {x y : Operand} {k : IntKind} {m n : Int} {s u : ByteArray}
theorem WL.eqlT (hx : ev E x = some (.int k m)) (hy : ev E y = some (.int k n)) (hd : Nat.blt d N = true) (e : m = n) (h : WL P ops Q N rest ((d, .bool true) :: E) w) : WL P ops Q N (⟨some d, .binOp .eql t x y tb, ty, pos, af, none⟩ :: rest) E w :=
  WL.eql? hx hy hd (fun _ => h) (fun c => by exfalso; first | exact c e | exact e c | omega)
theorem WL.neqT (hx : ev E x = some (.int k m)) (hy : ev E y = some (.int k n)) (hd : Nat.blt d N = true) (e : m ≠ n) (h : WL P ops Q N rest ((d, .bool true) :: E) w) : WL P ops Q N (⟨some d, .binOp .neq t x y tb, ty, pos, af, none⟩ :: rest) E w :=
  WL.neq? hx hy hd (fun _ => h) (fun c => by exfalso; first | exact c e | exact e c | omega)
theorem WL.neqF (hx : ev E x = some (.int k m)) (hy : ev E y = some (.int k n)) (hd : Nat.blt d N = true) (e : m = n) (h : WL P ops Q N rest ((d, .bool false) :: E) w) : WL P ops Q N (⟨some d, .binOp .neq t x y tb, ty, pos, af, none⟩ :: rest) E w :=
  WL.neq? hx hy hd (fun c => by exfalso; first | exact c e | exact e c | omega) (fun _ => h)
theorem WL.lssT (hx : ev E x = some (.int k m)) (hy : ev E y = some (.int k n)) (hd : Nat.blt d N = true) (e : m < n) (h : WL P ops Q N rest ((d, .bool true) :: E) w) : WL P ops Q N (⟨some d, .binOp .lss t x y tb, ty, pos, af, none⟩ :: rest) E w :=
  WL.lss? hx hy hd (fun _ => h) (fun c => by exfalso; first | exact c e | exact e c | omega)
theorem WL.lssF (hx : ev E x = some (.int k m)) (hy : ev E y = some (.int k n)) (hd : Nat.blt d N = true) (e : n ≤ m) (h : WL P ops Q N rest ((d, .bool false) :: E) w) : WL P ops Q N (⟨some d, .binOp .lss t x y tb, ty, pos, af, none⟩ :: rest) E w :=
  WL.lss? hx hy hd (fun c => by exfalso; first | exact c e | exact e c | omega) (fun _ => h)
theorem WL.geqT (hx : ev E x = some (.int k m)) (hy : ev E y = some (.int k n)) (hd : Nat.blt d N = true) (e : n ≤ m) (h : WL P ops Q N rest ((d, .bool true) :: E) w) : WL P ops Q N (⟨some d, .binOp .geq t x y tb, ty, pos, af, none⟩ :: rest) E w :=
  WL.geq? hx hy hd (fun _ => h) (fun c => by exfalso; first | exact c e | exact e c | omega)
theorem WL.geqF (hx : ev E x = some (.int k m)) (hy : ev E y = some (.int k n)) (hd : Nat.blt d N = true) (e : m < n) (h : WL P ops Q N rest ((d, .bool false) :: E) w) : WL P ops Q N (⟨some d, .binOp .geq t x y tb, ty, pos, af, none⟩ :: rest) E w :=
  WL.geq? hx hy hd (fun c => by exfalso; first | exact c e | exact e c | omega) (fun _ => h)
theorem WL.seqlT (hx : ev E x = some (.string s)) (hy : ev E y = some (.string u)) (hd : Nat.blt d N = true) (e : s = u) (h : WL P ops Q N rest ((d, .bool true) :: E) w) : WL P ops Q N (⟨some d, .binOp .eql t x y tb, ty, pos, af, none⟩ :: rest) E w :=
  WL.seql? hx hy hd (fun _ => h) (fun c => by exfalso; first | exact c e | exact e c)
theorem WL.beqlT {a b : Bool} (ht : P.underlying t = some .bool) (hx : ev E x = some (.bool a)) (hy : ev E y = some (.bool b)) (e : a = b) (hd : Nat.blt d N = true) (h : WL P ops Q N rest ((d, .bool true) :: E) w) : WL P ops Q N (⟨some d, .binOp .eql t x y tb, ty, pos, af, none⟩ :: rest) E w :=
  WL.beql ht hx hy hd (by subst e; simpa using h)
end
end Go.HL
namespace Go.Proofs.Ytcdbkfaebgficaa
open Go.RowKit Go.HL
theorem eg_4 : ∀ (args : Array Value) (w : World), (callFunc 4 args).run Try.prog w = .ok (.enter 4 args) w := eg_of Try.func4 (by kernel_rfl) rfl
theorem eg_5 : ∀ (args : Array Value) (w : World), (callFunc 5 args).run Try.prog w = .ok (.enter 5 args) w := eg_of Try.func5 (by kernel_rfl) rfl
theorem eg_6 : ∀ (args : Array Value) (w : World), (callFunc 6 args).run Try.prog w = .ok (.enter 6 args) w := eg_of Try.func6 (by kernel_rfl) rfl
theorem eg_7 : ∀ (args : Array Value) (w : World), (callFunc 7 args).run Try.prog w = .ok (.enter 7 args) w := eg_of Try.func7 (by kernel_rfl) rfl
theorem eg_8 : ∀ (args : Array Value) (w : World), (callFunc 8 args).run Try.prog w = .ok (.enter 8 args) w := eg_of Try.func8 (by kernel_rfl) rfl
theorem eg_9 : ∀ (args : Array Value) (w : World), (callFunc 9 args).run Try.prog w = .ok (.enter 9 args) w := eg_of Try.func9 (by kernel_rfl) rfl
theorem eg_10 : ∀ (args : Array Value) (w : World), (callFunc 10 args).run Try.prog w = .ok (.enter 10 args) w := eg_of Try.func10 (by kernel_rfl) rfl
theorem eg_11 : ∀ (args : Array Value) (w : World), (callFunc 11 args).run Try.prog w = .ok (.enter 11 args) w := eg_of Try.func11 (by kernel_rfl) rfl
theorem eg_12 : ∀ (args : Array Value) (w : World), (callFunc 12 args).run Try.prog w = .ok (.enter 12 args) w := eg_of Try.func12 (by kernel_rfl) rfl
theorem eg_13 : ∀ (args : Array Value) (w : World), (callFunc 13 args).run Try.prog w = .ok (.enter 13 args) w := eg_of Try.func13 (by kernel_rfl) rfl
theorem eg_14 : ∀ (args : Array Value) (w : World), (callFunc 14 args).run Try.prog w = .ok (.enter 14 args) w := eg_of Try.func14 (by kernel_rfl) rfl
theorem eg_15 : ∀ (args : Array Value) (w : World), (callFunc 15 args).run Try.prog w = .ok (.enter 15 args) w := eg_of Try.func15 (by kernel_rfl) rfl
theorem eg_16 : ∀ (args : Array Value) (w : World), (callFunc 16 args).run Try.prog w = .ok (.enter 16 args) w := eg_of Try.func16 (by kernel_rfl) rfl
theorem eg_17 : ∀ (args : Array Value) (w : World), (callFunc 17 args).run Try.prog w = .ok (.enter 17 args) w := eg_of Try.func17 (by kernel_rfl) rfl
theorem eg_18 : ∀ (args : Array Value) (w : World), (callFunc 18 args).run Try.prog w = .ok (.enter 18 args) w := eg_of Try.func18 (by kernel_rfl) rfl
theorem eg_19 : ∀ (args : Array Value) (w : World), (callFunc 19 args).run Try.prog w = .ok (.enter 19 args) w := eg_of Try.func19 (by kernel_rfl) rfl
theorem eg_20 : ∀ (args : Array Value) (w : World), (callFunc 20 args).run Try.prog w = .ok (.enter 20 args) w := eg_of Try.func20 (by kernel_rfl) rfl
theorem eg_21 : ∀ (args : Array Value) (w : World), (callFunc 21 args).run Try.prog w = .ok (.enter 21 args) w := eg_of Try.func21 (by kernel_rfl) rfl
theorem eg_22 : ∀ (args : Array Value) (w : World), (callFunc 22 args).run Try.prog w = .ok (.enter 22 args) w := eg_of Try.func22 (by kernel_rfl) rfl
theorem eg_23 : ∀ (args : Array Value) (w : World), (callFunc 23 args).run Try.prog w = .ok (.enter 23 args) w := eg_of Try.func23 (by kernel_rfl) rfl
theorem eg_24 : ∀ (args : Array Value) (w : World), (callFunc 24 args).run Try.prog w = .ok (.enter 24 args) w := eg_of Try.func24 (by kernel_rfl) rfl
theorem eg_25 : ∀ (args : Array Value) (w : World), (callFunc 25 args).run Try.prog w = .ok (.enter 25 args) w := eg_of Try.func25 (by kernel_rfl) rfl
theorem eg_26 : ∀ (args : Array Value) (w : World), (callFunc 26 args).run Try.prog w = .ok (.enter 26 args) w := eg_of Try.func26 (by kernel_rfl) rfl
theorem eg_27 : ∀ (args : Array Value) (w : World), (callFunc 27 args).run Try.prog w = .ok (.enter 27 args) w := eg_of Try.func27 (by kernel_rfl) rfl
theorem eg_28 : ∀ (args : Array Value) (w : World), (callFunc 28 args).run Try.prog w = .ok (.enter 28 args) w := eg_of Try.func28 (by kernel_rfl) rfl
theorem eg_29 : ∀ (args : Array Value) (w : World), (callFunc 29 args).run Try.prog w = .ok (.enter 29 args) w := eg_of Try.func29 (by kernel_rfl) rfl
theorem eg_30 : ∀ (args : Array Value) (w : World), (callFunc 30 args).run Try.prog w = .ok (.enter 30 args) w := eg_of Try.func30 (by kernel_rfl) rfl
theorem eg_31 : ∀ (args : Array Value) (w : World), (callFunc 31 args).run Try.prog w = .ok (.enter 31 args) w := eg_of Try.func31 (by kernel_rfl) rfl
theorem eg_32 : ∀ (args : Array Value) (w : World), (callFunc 32 args).run Try.prog w = .ok (.enter 32 args) w := eg_of Try.func32 (by kernel_rfl) rfl
theorem eg_33 : ∀ (args : Array Value) (w : World), (callFunc 33 args).run Try.prog w = .ok (.enter 33 args) w := eg_of Try.func33 (by kernel_rfl) rfl
theorem eg_34 : ∀ (args : Array Value) (w : World), (callFunc 34 args).run Try.prog w = .ok (.enter 34 args) w := eg_of Try.func34 (by kernel_rfl) rfl
theorem eg_35 : ∀ (args : Array Value) (w : World), (callFunc 35 args).run Try.prog w = .ok (.enter 35 args) w := eg_of Try.func35 (by kernel_rfl) rfl
theorem eg_36 : ∀ (args : Array Value) (w : World), (callFunc 36 args).run Try.prog w = .ok (.enter 36 args) w := eg_of Try.func36 (by kernel_rfl) rfl
theorem eg_37 : ∀ (args : Array Value) (w : World), (callFunc 37 args).run Try.prog w = .ok (.enter 37 args) w := eg_of Try.func37 (by kernel_rfl) rfl
theorem eg_38 : ∀ (args : Array Value) (w : World), (callFunc 38 args).run Try.prog w = .ok (.enter 38 args) w := eg_of Try.func38 (by kernel_rfl) rfl
theorem eg_39 : ∀ (args : Array Value) (w : World), (callFunc 39 args).run Try.prog w = .ok (.enter 39 args) w := eg_of Try.func39 (by kernel_rfl) rfl
theorem eg_40 : ∀ (args : Array Value) (w : World), (callFunc 40 args).run Try.prog w = .ok (.enter 40 args) w := eg_of Try.func40 (by kernel_rfl) rfl
theorem eg_41 : ∀ (args : Array Value) (w : World), (callFunc 41 args).run Try.prog w = .ok (.enter 41 args) w := eg_of Try.func41 (by kernel_rfl) rfl
theorem eg_42 : ∀ (args : Array Value) (w : World), (callFunc 42 args).run Try.prog w = .ok (.enter 42 args) w := eg_of Try.func42 (by kernel_rfl) rfl
theorem eg_43 : ∀ (args : Array Value) (w : World), (callFunc 43 args).run Try.prog w = .ok (.enter 43 args) w := eg_of Try.func43 (by kernel_rfl) rfl
theorem eg_44 : ∀ (args : Array Value) (w : World), (callFunc 44 args).run Try.prog w = .ok (.enter 44 args) w := eg_of Try.func44 (by kernel_rfl) rfl
theorem eg_45 : ∀ (args : Array Value) (w : World), (callFunc 45 args).run Try.prog w = .ok (.enter 45 args) w := eg_of Try.func45 (by kernel_rfl) rfl
theorem eg_46 : ∀ (args : Array Value) (w : World), (callFunc 46 args).run Try.prog w = .ok (.enter 46 args) w := eg_of Try.func46 (by kernel_rfl) rfl
theorem eg_47 : ∀ (args : Array Value) (w : World), (callFunc 47 args).run Try.prog w = .ok (.enter 47 args) w := eg_of Try.func47 (by kernel_rfl) rfl
theorem fld_39_0 (b o : Nat) (w : World) : (Instr.fieldAt 39 (.pointer (some ⟨b, o, none⟩)) 0).run Try.prog w = .ok (.pointer (some ⟨b, o + 0, none⟩)) w := by
  simp [Instr.fieldAt, run_underlying Try.underlying39, Instr.sureAddr, fieldPlace, Try.sizeOf3, Addr.add_lit]
theorem fld_39_1 (b o : Nat) (w : World) : (Instr.fieldAt 39 (.pointer (some ⟨b, o, none⟩)) 1).run Try.prog w = .ok (.pointer (some ⟨b, o + 1, none⟩)) w := by
  simp [Instr.fieldAt, run_underlying Try.underlying39, Instr.sureAddr, fieldPlace, Try.sizeOf3, Addr.add_lit]
theorem fld_39_2 (b o : Nat) (w : World) : (Instr.fieldAt 39 (.pointer (some ⟨b, o, none⟩)) 2).run Try.prog w = .ok (.pointer (some ⟨b, o + 2, none⟩)) w := by
  simp [Instr.fieldAt, run_underlying Try.underlying39, Instr.sureAddr, fieldPlace, Try.sizeOf3, Addr.add_lit]
theorem fld_39_3 (b o : Nat) (w : World) : (Instr.fieldAt 39 (.pointer (some ⟨b, o, none⟩)) 3).run Try.prog w = .ok (.pointer (some ⟨b, o + 3, none⟩)) w := by
  simp [Instr.fieldAt, run_underlying Try.underlying39, Instr.sureAddr, fieldPlace, Try.sizeOf3, Addr.add_lit]
theorem fld_39_4 (b o : Nat) (w : World) : (Instr.fieldAt 39 (.pointer (some ⟨b, o, none⟩)) 4).run Try.prog w = .ok (.pointer (some ⟨b, o + 4, none⟩)) w := by
  simp [Instr.fieldAt, run_underlying Try.underlying39, Instr.sureAddr, fieldPlace, Try.sizeOf3, Addr.add_lit]
theorem fld_39_5 (b o : Nat) (w : World) : (Instr.fieldAt 39 (.pointer (some ⟨b, o, none⟩)) 5).run Try.prog w = .ok (.pointer (some ⟨b, o + 5, none⟩)) w := by
  simp [Instr.fieldAt, run_underlying Try.underlying39, Instr.sureAddr, fieldPlace, Try.sizeOf37, Addr.add_lit]
theorem fld_51_0 (b o : Nat) (w : World) : (Instr.fieldAt 51 (.pointer (some ⟨b, o, none⟩)) 0).run Try.prog w = .ok (.pointer (some ⟨b, o + 0, none⟩)) w := by
  simp [Instr.fieldAt, run_underlying Try.underlying51, Instr.sureAddr, fieldPlace, Try.sizeOf3, Addr.add_lit]
theorem fld_51_1 (b o : Nat) (w : World) : (Instr.fieldAt 51 (.pointer (some ⟨b, o, none⟩)) 1).run Try.prog w = .ok (.pointer (some ⟨b, o + 1, none⟩)) w := by
  simp [Instr.fieldAt, run_underlying Try.underlying51, Instr.sureAddr, fieldPlace, Try.sizeOf3, Addr.add_lit]
theorem fld_51_2 (b o : Nat) (w : World) : (Instr.fieldAt 51 (.pointer (some ⟨b, o, none⟩)) 2).run Try.prog w = .ok (.pointer (some ⟨b, o + 2, none⟩)) w := by
  simp [Instr.fieldAt, run_underlying Try.underlying51, Instr.sureAddr, fieldPlace, Try.sizeOf47, Addr.add_lit]
theorem fld_51_3 (b o : Nat) (w : World) : (Instr.fieldAt 51 (.pointer (some ⟨b, o, none⟩)) 3).run Try.prog w = .ok (.pointer (some ⟨b, o + 3, none⟩)) w := by
  simp [Instr.fieldAt, run_underlying Try.underlying51, Instr.sureAddr, fieldPlace, Try.sizeOf48, Addr.add_lit]
theorem fld_51_4 (b o : Nat) (w : World) : (Instr.fieldAt 51 (.pointer (some ⟨b, o, none⟩)) 4).run Try.prog w = .ok (.pointer (some ⟨b, o + 4, none⟩)) w := by
  simp [Instr.fieldAt, run_underlying Try.underlying51, Instr.sureAddr, fieldPlace, Try.sizeOf49, Addr.add_lit]
theorem fld_51_5 (b o : Nat) (w : World) : (Instr.fieldAt 51 (.pointer (some ⟨b, o, none⟩)) 5).run Try.prog w = .ok (.pointer (some ⟨b, o + 5, none⟩)) w := by
  simp [Instr.fieldAt, run_underlying Try.underlying51, Instr.sureAddr, fieldPlace, Try.sizeOf4, Addr.add_lit]
theorem fld_51_6 (b o : Nat) (w : World) : (Instr.fieldAt 51 (.pointer (some ⟨b, o, none⟩)) 6).run Try.prog w = .ok (.pointer (some ⟨b, o + 6, none⟩)) w := by
  simp [Instr.fieldAt, run_underlying Try.underlying51, Instr.sureAddr, fieldPlace, Try.sizeOf4, Addr.add_lit]
theorem fld_51_7 (b o : Nat) (w : World) : (Instr.fieldAt 51 (.pointer (some ⟨b, o, none⟩)) 7).run Try.prog w = .ok (.pointer (some ⟨b, o + 7, none⟩)) w := by
  simp [Instr.fieldAt, run_underlying Try.underlying51, Instr.sureAddr, fieldPlace, Try.sizeOf3, Addr.add_lit]
theorem fld_53_0 (b o : Nat) (w : World) : (Instr.fieldAt 53 (.pointer (some ⟨b, o, none⟩)) 0).run Try.prog w = .ok (.pointer (some ⟨b, o + 0, none⟩)) w := by
  simp [Instr.fieldAt, run_underlying Try.underlying53, Instr.sureAddr, fieldPlace, Try.sizeOf3, Addr.add_lit]
theorem fld_55_0 (b o : Nat) (w : World) : (Instr.fieldAt 55 (.pointer (some ⟨b, o, none⟩)) 0).run Try.prog w = .ok (.pointer (some ⟨b, o + 0, none⟩)) w := by
  simp [Instr.fieldAt, run_underlying Try.underlying55, Instr.sureAddr, fieldPlace, Try.sizeOf53, Addr.add_lit]
theorem fld_55_1 (b o : Nat) (w : World) : (Instr.fieldAt 55 (.pointer (some ⟨b, o, none⟩)) 1).run Try.prog w = .ok (.pointer (some ⟨b, o + 2, none⟩)) w := by
  simp [Instr.fieldAt, run_underlying Try.underlying55, Instr.sureAddr, fieldPlace, Try.sizeOf43, Addr.add_lit]
theorem fld_60_0 (b o : Nat) (w : World) : (Instr.fieldAt 60 (.pointer (some ⟨b, o, none⟩)) 0).run Try.prog w = .ok (.pointer (some ⟨b, o + 0, none⟩)) w := by
  simp [Instr.fieldAt, run_underlying Try.underlying60, Instr.sureAddr, fieldPlace, Try.sizeOf57, Addr.add_lit]
theorem fld_60_1 (b o : Nat) (w : World) : (Instr.fieldAt 60 (.pointer (some ⟨b, o, none⟩)) 1).run Try.prog w = .ok (.pointer (some ⟨b, o + 1, none⟩)) w := by
  simp [Instr.fieldAt, run_underlying Try.underlying60, Instr.sureAddr, fieldPlace, Try.sizeOf48, Addr.add_lit]
theorem fld_60_2 (b o : Nat) (w : World) : (Instr.fieldAt 60 (.pointer (some ⟨b, o, none⟩)) 2).run Try.prog w = .ok (.pointer (some ⟨b, o + 2, none⟩)) w := by
  simp [Instr.fieldAt, run_underlying Try.underlying60, Instr.sureAddr, fieldPlace, Try.sizeOf58, Addr.add_lit]
theorem fld_60_3 (b o : Nat) (w : World) : (Instr.fieldAt 60 (.pointer (some ⟨b, o, none⟩)) 3).run Try.prog w = .ok (.pointer (some ⟨b, o + 3, none⟩)) w := by
  simp [Instr.fieldAt, run_underlying Try.underlying60, Instr.sureAddr, fieldPlace, Try.sizeOf4, Addr.add_lit]
theorem fld_60_4 (b o : Nat) (w : World) : (Instr.fieldAt 60 (.pointer (some ⟨b, o, none⟩)) 4).run Try.prog w = .ok (.pointer (some ⟨b, o + 4, none⟩)) w := by
  simp [Instr.fieldAt, run_underlying Try.underlying60, Instr.sureAddr, fieldPlace, Try.sizeOf3, Addr.add_lit]
theorem fld_69_0 (b o : Nat) (w : World) : (Instr.fieldAt 69 (.pointer (some ⟨b, o, none⟩)) 0).run Try.prog w = .ok (.pointer (some ⟨b, o + 0, none⟩)) w := by
  simp [Instr.fieldAt, run_underlying Try.underlying69, Instr.sureAddr, fieldPlace, Try.sizeOf3, Addr.add_lit]
theorem fld_69_1 (b o : Nat) (w : World) : (Instr.fieldAt 69 (.pointer (some ⟨b, o, none⟩)) 1).run Try.prog w = .ok (.pointer (some ⟨b, o + 1, none⟩)) w := by
  simp [Instr.fieldAt, run_underlying Try.underlying69, Instr.sureAddr, fieldPlace, Try.sizeOf3, Addr.add_lit]
theorem fld_69_2 (b o : Nat) (w : World) : (Instr.fieldAt 69 (.pointer (some ⟨b, o, none⟩)) 2).run Try.prog w = .ok (.pointer (some ⟨b, o + 2, none⟩)) w := by
  simp [Instr.fieldAt, run_underlying Try.underlying69, Instr.sureAddr, fieldPlace, Try.sizeOf9, Addr.add_lit]
theorem info_3 : (Try.prog.info? 3).map (fun i => (i.zero, i.size, i.bytes)) = some (some (.int .i64 0), 1, 8) := by kernel_rfl
theorem info_4 : (Try.prog.info? 4).map (fun i => (i.zero, i.size, i.bytes)) = some (some (.bool false), 1, 1) := by kernel_rfl
theorem info_5 : (Try.prog.info? 5).map (fun i => (i.zero, i.size, i.bytes)) = some (some (.int .u8 0), 1, 1) := by kernel_rfl
theorem info_9 : (Try.prog.info? 9).map (fun i => (i.zero, i.size, i.bytes)) = some (some (.string ⟨#[]⟩), 1, 16) := by kernel_rfl
theorem info_55 : (Try.prog.info? 55).map (fun i => (i.zero, i.size, i.bytes)) = some (some (.agg #[(.int .i64 0), (.int .i64 0), (.slice none 0 0)]), 3, 40) := by kernel_rfl
theorem info_61 : (Try.prog.info? 61).map (fun i => (i.zero, i.size, i.bytes)) = some (some (.slice none 0 0), 1, 24) := by kernel_rfl
theorem info_69 : (Try.prog.info? 69).map (fun i => (i.zero, i.size, i.bytes)) = some (some (.agg #[(.int .i64 0), (.int .i64 0), (.string ⟨#[]⟩)]), 3, 32) := by kernel_rfl
theorem bld_39_1 (x0 : Int) (w : World) : (Instr.build 39 #[(1, .int .i64 x0)]).run Try.prog w = .ok (.agg #[(.int .i64 0), .int .i64 x0, (.int .i64 0), (.int .i64 0), (.int .i64 0), (.slice none 0 0)]) w := by
  simp [Instr.build, run_underlying Try.underlying39, Try.zeroValue39, Instr.fill, Value.cells, Try.sizeOf3, Try.sizeOf37]
theorem bld_39_0_1_2 (x0 : Int) (x1 : Int) (x2 : Int) (w : World) : (Instr.build 39 #[(0, .int .i64 x0), (1, .int .i64 x1), (2, .int .i64 x2)]).run Try.prog w = .ok (.agg #[.int .i64 x0, .int .i64 x1, .int .i64 x2, (.int .i64 0), (.int .i64 0), (.slice none 0 0)]) w := by
  simp [Instr.build, run_underlying Try.underlying39, Try.zeroValue39, Instr.fill, Value.cells, Try.sizeOf3, Try.sizeOf37]
theorem bld_51_0_1_2_3 (x0 : Int) (x1 : Int) (x2 : Option Nat) (xa3 : Option Addr) (xn3 xc3 : Nat) (w : World) : (Instr.build 51 #[(0, .int .i64 x0), (1, .int .i64 x1), (2, .map x2), (3, .slice xa3 xn3 xc3)]).run Try.prog w = .ok (.agg #[.int .i64 x0, .int .i64 x1, .map x2, .slice xa3 xn3 xc3, (.slice none 0 0), (.bool false), (.bool false), (.int .i64 0)]) w := by
  simp [Instr.build, run_underlying Try.underlying51, Try.zeroValue51, Instr.fill, Value.cells, Try.sizeOf3, Try.sizeOf4, Try.sizeOf47, Try.sizeOf48, Try.sizeOf49]
theorem bld_60_1_4 (xa0 : Option Addr) (xn0 xc0 : Nat) (x1 : Int) (w : World) : (Instr.build 60 #[(1, .slice xa0 xn0 xc0), (4, .int .i64 x1)]).run Try.prog w = .ok (.agg #[(.slice none 0 0), .slice xa0 xn0 xc0, (.slice none 0 0), (.bool false), .int .i64 x1]) w := by
  simp [Instr.build, run_underlying Try.underlying60, Try.zeroValue60, Instr.fill, Value.cells, Try.sizeOf3, Try.sizeOf4, Try.sizeOf48, Try.sizeOf57, Try.sizeOf58]
theorem bld_53_0_1 (x0 : Int) (x1 : Int) (w : World) : (Instr.build 53 #[(0, .int .i64 x0), (1, .int .i64 x1)]).run Try.prog w = .ok (.agg #[.int .i64 x0, .int .i64 x1]) w := by
  simp [Instr.build, run_underlying Try.underlying53, Try.zeroValue53, Instr.fill, Value.cells, Try.sizeOf3]
theorem bld_55_0_1 (x0 : Int) (x1 : Int) (xa2 : Option Addr) (xn2 xc2 : Nat) (w : World) : (Instr.build 55 #[(0, .agg #[.int .i64 x0, .int .i64 x1]), (1, .slice xa2 xn2 xc2)]).run Try.prog w = .ok (.agg #[.int .i64 x0, .int .i64 x1, .slice xa2 xn2 xc2]) w := by
  simp [Instr.build, run_underlying Try.underlying55, Try.zeroValue55, Instr.fill, Value.cells, Try.sizeOf43, Try.sizeOf53]
theorem bld_69_0_1_2 (x0 : Int) (x1 : Int) (x2 : ByteArray) (w : World) : (Instr.build 69 #[(0, .int .i64 x0), (1, .int .i64 x1), (2, .string x2)]).run Try.prog w = .ok (.agg #[.int .i64 x0, .int .i64 x1, .string x2]) w := by
  simp [Instr.build, run_underlying Try.underlying69, Try.zeroValue69, Instr.fill, Value.cells, Try.sizeOf3, Try.sizeOf9]
theorem mixed : Try.prog.follows .mixedOrders = true := by kernel_rfl
end Go.Proofs.Ytcdbkfaebgficaa
namespace Go.Proofs.Ytcdbkfaebgficaa
open Go.RowKit Go.HL

/-! what a rack holds -/
abbrev Pl := Int × Int
def kpl (p : Pl) : Value := .agg #[vi p.1, vi p.2]
def vsl (r : Rw) : Value := .slice r.ao r.xs.length r.cap
def ewr : Enc (Pl × Rw) := ⟨3, fun x => [vi x.1.1, vi x.1.2, .slice x.2.ao x.2.xs.length x.2.cap], fun _ => rfl, by simp [Value.oneCell'], by decide⟩
theorem eqg_pl : Try.prog.eqGuardType Try.prog.depth 53 = false := by kernel_rfl
theorem eq_pl (a b c d : Int) (w : World) : (Op.equalIn 10000 53 (.agg #[vi a, vi b]) (.agg #[vi c, vi d])).run Try.prog w = .ok (decide (a = c ∧ b = d)) w := by
  refine eqA_of (d := 9999) Try.underlying53 (by kernel_rfl) ?_
  have h3 : (decide (a = c) && (decide (b = d) && true)) = decide (a = c ∧ b = d) := by simp [Bool.decide_and]
  rw [← h3]
  refine eqf_cons rfl (part1 (cs := [vi a, vi b]) Try.sizeOf3 Try.isAgg3 rfl) (part1 (cs := [vi c, vi d]) Try.sizeOf3 Try.isAgg3 rfl) (run_equalIn_int w 9998 _ _ _ _ _ Try.underlying3) ?_
  refine eqf_cons rfl (part1 (cs := [vi a, vi b]) Try.sizeOf3 Try.isAgg3 rfl) (part1 (cs := [vi c, vi d]) Try.sizeOf3 Try.isAgg3 rfl) (run_equalIn_int w 9998 _ _ _ _ _ Try.underlying3) eqf_nil
theorem plOk : KeyOk Try.prog 53 kpl where
  chk em w k := by
    have h1 : ∀ a w, (Instr.checkKey em 9999 3 (vi a)).run Try.prog w = .ok () w := fun a w => by
      rw [Instr.checkKey]
      simp [run_underlying Try.underlying3]
    show (Instr.checkKey em (9999 + 1) 53 (.agg #[vi k.1, vi k.2])).run Try.prog w = .ok () w
    rw [Instr.checkKey]
    simp [run_underlying Try.underlying53, part, Try.sizeOf3, Try.isAgg3, h1]
  eq w k k' := by
    show (Op.equalIn 10000 53 (.agg #[vi k.1, vi k.2]) (.agg #[vi k'.1, vi k'.2])).run Try.prog w = .ok (decide (k = k')) w
    rw [eq_pl, decide_eq_decide.2 (Prod.ext_iff (x := k) (y := k')).symm]
  st := ⟨_, Try.underlying53⟩
  same k := by
    show Instr.sameBits (9999 + 1) (.agg #[vi k.1, vi k.2]) (.agg #[vi k.1, vi k.2]) = true
    rw [Instr.sameBits]
    simp [Instr.sameBits]
structure RA where
  dn : Nat
  sn : Nat
  last : List (Pl × List UInt8)
  gone : List Bool
  waits : List (Pl × List UInt8)
  off : Bool
  armed : Bool
  left : Int
def xsm (l : List (Pl × Rw)) : List (Pl × List UInt8) := l.map fun p => (p.1, p.2.xs)
structure RA.ok (s : RA) : Prop where
  dn : 1 ≤ s.dn ∧ s.dn ≤ 16
  sn : 1 ≤ s.sn ∧ s.sn ≤ 2000
  gl : s.gone.length = s.dn
  ll : ∀ p ∈ s.last, p.2.length = 128
  lw : ∀ p ∈ s.waits, p.2.length = 128
  lf : (s.armed = true → 0 ≤ s.left) ∧ -9223372036854775808 ≤ s.left ∧ s.left ≤ 9223372036854775807
  nd : (s.last.map (·.1)).Nodup
abbrev rcells (s : RA) (m : Nat) (ga : Option Addr) (gc : Nat) (wa : Option Addr) (wc n : Nat) : List Value := [vi s.dn, vi s.sn, .map (some m), .slice ga s.gone.length gc, .slice wa n wc, .bool s.off, .bool s.armed, vi s.left]
/-- all but the rack's own block -/
structure RI (S : Nat → Prop) (w : World) (m : Nat) (ga : Option Addr) (gc : Nat) (wa : Option Addr) (wc : Nat) (gl : List Bool) (ws ls : List (Pl × Rw)) : Prop where
  sm : S m
  map : Mp kpl vsl w m ls
  gone : Row S w 4 ebool ga gc gl
  waits : Row S w 55 ewr wa wc ws
  byl : ∀ p ∈ ls, Row S w 5 eb p.2.ao p.2.cap p.2.xs
  byw : ∀ p ∈ ws, Row S w 5 eb p.2.ao p.2.cap p.2.xs
section
variable {S M : Nat → Prop} {w w' : World} {m : Nat} {ga : Option Addr} {gc : Nat} {wa : Option Addr} {wc : Nat} {gl : List Bool} {ws ls : List (Pl × Rw)}
theorem RI.chg (h : RI S w m ga gc wa wc gl ws ls) (k : Chg M w w') (hd : ∀ b, b < w.heap.size → S b → M b → False) : RI S w' m ga gc wa wc gl ws ls :=
  ⟨h.sm, h.map.chg k (fun hm => hd m h.map.lt h.sm hm), h.gone.chg k hd, h.waits.chg k hd, fun p hp => (h.byl p hp).chg k hd, fun p hp => (h.byw p hp).chg k hd⟩
theorem RI.pure (h : RI S w m ga gc wa wc gl ws ls) (k : Chg Nob w w') : RI S w' m ga gc wa wc gl ws ls := h.chg k (fun _ _ _ x => x)
theorem RI.mono {S' : Nat → Prop} (h : RI S w m ga gc wa wc gl ws ls) (k : ∀ b, S b → S' b) : RI S' w m ga gc wa wc gl ws ls :=
  ⟨k _ h.sm, h.map, h.gone.mono k, h.waits.mono k, fun p hp => (h.byl p hp).mono k, fun p hp => (h.byw p hp).mono k⟩
/-- no part of it is the rack's own block -/
theorem RI.open {R : Nat} {cs : List Value} (h : RI S w m ga gc wa wc gl ws ls) (hB : Blk w R 51 cs) : RI (fun b => S b ∧ b ≠ R) w m ga gc wa wc gl ws ls := by
  have hk := hB.kb
  refine ⟨⟨h.sm, fun e => ?_⟩, h.map, h.gone.kb.mono ?_, h.waits.kb.mono ?_, fun p hp => (h.byl p hp).kb.mono ?_, fun p hp => (h.byw p hp).kb.mono ?_⟩
  · have := h.map.kb
    rw [e, hk] at this
    simp at this
  all_goals
    rintro b ⟨h1, h2⟩
    refine ⟨h1, fun e => ?_⟩
    rw [e, hk] at h2
    exact absurd h2 (by decide)
/-- the map alone has turned -/
theorem RI.putMap {ls2 : List (Pl × Rw)} (h : RI S w m ga gc wa wc gl ws ls) (hM : Mp kpl vsl w' m ls2) (k : Chg (· = m) w w') (hn : ∀ p ∈ ls2, (∃ q ∈ ls, q.2 = p.2) ∨ (∃ q ∈ ws, q.2 = p.2)) : RI S w' m ga gc wa wc gl ws ls2 := by
  have hk := h.map.kb
  have hd : ∀ T b, b < w.heap.size → b = m → kb w b ≠ some (some T) := by
    rintro T b _ rfl
    rw [hk]
    simp
  have hb : ∀ p ∈ ls2, Row S w 5 eb p.2.ao p.2.cap p.2.xs := fun p hp => by
    rcases hn p hp with ⟨q, hq, e⟩ | ⟨q, hq, e⟩
    · rw [← e]; exact h.byl q hq
    · rw [← e]; exact h.byw q hq
  exact ⟨h.sm, hM, h.gone.chgK k (hd _), h.waits.chgK k (hd _), fun p hp => (hb p hp).chgK k (hd _), fun p hp => (h.byw p hp).chgK k (hd _)⟩
/-- the row of the writes that wait alone has turned -/
theorem RI.setWaits {wa2 : Option Addr} {wc2 : Nat} {ws2 : List (Pl × Rw)} (h : RI S w m ga gc wa wc gl ws ls) (hW : Row S w' 55 ewr wa2 wc2 ws2) (k : Chg M w w') (hM : ∀ b, M b → Eqb wa b) (hn : ∀ p ∈ ws2, (∃ q ∈ ws, q.2 = p.2) ∨ Row S w 5 eb p.2.ao p.2.cap p.2.xs) : RI S w' m ga gc wa2 wc2 gl ws2 ls := by
  have hd : ∀ b, b < w.heap.size → M b → kb w b = some (some 55) := fun b _ hm => h.waits.kb.at_.eqb (hM b hm) |>.2
  have hb : ∀ p ∈ ws2, Row S w 5 eb p.2.ao p.2.cap p.2.xs := fun p hp => by
    rcases hn p hp with ⟨q, hq, e⟩ | h1
    · rw [← e]; exact h.byw q hq
    · exact h1
  refine ⟨h.sm, h.map.chg k (fun hm => ?_), h.gone.chgK k (fun b h1 h2 => ?_), hW, fun p hp => (h.byl p hp).chgK k (fun b h1 h2 => ?_), fun p hp => (hb p hp).chgK k (fun b h1 h2 => ?_)⟩
  · have h1 := hd m h.map.lt hm
    rw [h.map.kb] at h1
    simp at h1
  all_goals
    rw [hd b h1 h2]
    decide
/-- the row of the drives that are gone alone has turned -/
theorem RI.setGone {gl2 : List Bool} {g : Nat} (h : RI S w m (some ⟨g, 0, none⟩) gc wa wc gl ws ls) (hG : Row S w' 4 ebool (some ⟨g, 0, none⟩) gc gl2) (k : Chg (· = g) w w') : RI S w' m (some ⟨g, 0, none⟩) gc wa wc gl2 ws ls := by
  have hk : kb w g = some (some 4) := (h.gone.kb.at_ _ rfl).2
  have hd : ∀ T, T ≠ 4 → ∀ b, b < w.heap.size → b = g → kb w b ≠ some (some T) := by
    rintro T hT b _ rfl e
    rw [hk] at e
    injection e with e
    injection e with e
    exact hT e.symm
  refine ⟨h.sm, h.map.chg k (fun hm => ?_), hG, h.waits.chgK k (hd _ (by decide)), fun p hp => (h.byl p hp).chgK k (hd _ (by decide)), fun p hp => (h.byw p hp).chgK k (hd _ (by decide))⟩
  have h1 := h.map.kb
  rw [show m = g from hm, hk] at h1
  simp at h1
end
/-- a rack -/
structure RK (A : Nat → Prop) (w : World) (R : Nat) (s : RA) : Prop where
  aR : A R
  ok : s.ok
  ex : ∃ (m : Nat) (ga : Option Addr) (gc : Nat) (wa : Option Addr) (wc : Nat) (ws ls : List (Pl × Rw)), Blk w R 51 (rcells s m ga gc wa wc ws.length) ∧ RI A w m ga gc wa wc s.gone ws ls ∧ s.last = xsm ls ∧ s.waits = xsm ws
theorem RK.chg {A M : Nat → Prop} {w w' : World} {R : Nat} {s : RA} (h : RK A w R s) (k : Chg M w w') (hd : ∀ b, b < w.heap.size → A b → M b → False) : RK A w' R s := by
  obtain ⟨m, ga, gc, wa, wc, ws, ls, hB, hI, hl⟩ := h.ex
  exact ⟨h.aR, h.ok, m, ga, gc, wa, wc, ws, ls, hB.chg k (fun hm => hd R hB.lt h.aR hm), hI.chg k hd, hl⟩
theorem RK.pure {A : Nat → Prop} {w w' : World} {R : Nat} {s : RA} (h : RK A w R s) (k : Chg Nob w w') : RK A w' R s := h.chg k (fun _ _ _ x => x)
theorem RK.mono {A A' : Nat → Prop} {w : World} {R : Nat} {s : RA} (h : RK A w R s) (k : ∀ b, A b → A' b) : RK A' w R s := by
  obtain ⟨m, ga, gc, wa, wc, ws, ls, hB, hI, hl⟩ := h.ex
  exact ⟨k _ h.aR, h.ok, m, ga, gc, wa, wc, ws, ls, hB, hI.mono k, hl⟩
abbrev ptr (g : Nat) : Value := .pointer (some ⟨g, 0, none⟩)
/-! asking for a drive, for a sector -/
theorem is_calls {A : Nat → Prop} {w : World} {R : Nat} {s : RA} (h : RK A w R s) (d : Int) : Calls Try.prog 21 [ptr R, vi d].toArray w (Ret fun v w' => v = .bool (decide (0 ≤ d ∧ d < s.dn)) ∧ Chg Nob w w') := by
  obtain ⟨m, ga, gc, wa, wc, ws, ls, hB, -⟩ := h.ex
  have hw := Chg.refl Nob w
  refine Calls.of_WC Try.func21 rfl Try.ntmps21 (by simp) ?_
  refine WC.seq (WC.region (WL.assign rfl rfl (WL.nil (WX.then_normal (WC.seq (WC.region (WL.move rfl rfl (?_))))))))
  refine WL.ptrSome Try.underlying25 rfl rfl rfl ?_
  refine WL.move rfl rfl (WL.want rfl rfl rfl (WL.move rfl rfl (WL.want rfl rfl rfl (?_))))
  refine WL.geq? rfl rfl rfl (fun h9 => ?_) (fun h9 => ?_)
  ·
    refine WL.pickT rfl rfl rfl (WL.move rfl rfl (WL.want rfl rfl rfl (WL.move rfl rfl (WL.want rfl rfl rfl (WL.move rfl rfl (WL.want rfl rfl rfl (WL.nilCheck rfl rfl (?_))))))))
    refine WL.want rfl rfl rfl (WL.fieldAddr (fld_51_0) rfl rfl (WL.want rfl rfl rfl (WL.loadB Try.isAgg3 hB rfl rfl rfl (WL.want rfl rfl rfl (WL.lss rfl rfl rfl (WL.pickT rfl rfl rfl (WL.assign rfl rfl (?_))))))))
    refine WL.nil (WX.then_normal (WC.ret (?_)))
    refine WX.ret1 (.inl rfl) Try.results21 rfl ?_
    refine ⟨_, rfl, ?_, hw⟩
    congr 1
    simp
    omega
  ·
    refine WL.pickT rfl rfl rfl (WL.move rfl rfl (WL.pass rfl rfl rfl rfl (WL.pass rfl rfl rfl rfl (WL.pass rfl rfl rfl rfl (WL.pass rfl rfl rfl rfl (WL.pass rfl rfl rfl rfl (WL.pass rfl rfl rfl rfl (?_))))))))
    refine WL.pickF rfl rfl rfl (WL.assign rfl rfl (WL.nil (WX.then_normal (WC.ret (?_)))))
    refine WX.ret1 (.inl rfl) Try.results21 rfl ?_
    refine ⟨_, rfl, ?_, hw⟩
    congr 1
    simp
    omega
theorem in_calls {A : Nat → Prop} {w : World} {R : Nat} {s : RA} (h : RK A w R s) (d a : Int) : Calls Try.prog 36 [ptr R, vi d, vi a].toArray w (Ret fun v w' => v = .bool (decide (0 ≤ d ∧ d < s.dn ∧ 0 ≤ a ∧ a < s.sn)) ∧ Chg Nob w w') := by
  have hw := Chg.refl Nob w
  refine Calls.of_WC Try.func36 rfl Try.ntmps36 (by simp) ?_
  refine WC.seq (WC.region (WL.assign rfl rfl (WL.nil (WX.then_normal (WC.seq (WC.region (WL.move rfl rfl (?_))))))))
  refine WL.move rfl rfl (?_)
  refine WL.call eg_21 rfl rfl (is_calls h d) ?_
  rintro v w1 ⟨rfl, k1⟩
  have zs_k1 := k1.size
  replace h := h.pure k1
  replace hw := hw.pure k1
  obtain ⟨m, ga, gc, wa, wc, ws, ls, hB, -⟩ := h.ex
  by_cases h9 : 0 ≤ d ∧ d < s.dn
  ·
    rw [decide_eq_true h9]
    refine WL.move rfl rfl (WL.want rfl rfl rfl (WL.move rfl rfl (WL.want rfl rfl rfl (?_))))
    refine WL.geq? rfl rfl rfl (fun h12 => ?_) (fun h12 => ?_)
    ·
      refine WL.pickT rfl rfl rfl (WL.move rfl rfl (WL.want rfl rfl rfl (WL.move rfl rfl (WL.want rfl rfl rfl (WL.move rfl rfl (WL.want rfl rfl rfl (WL.nilCheck rfl rfl (?_))))))))
      refine WL.want rfl rfl rfl (WL.fieldAddr (fld_51_1) rfl rfl (WL.want rfl rfl rfl (WL.loadB Try.isAgg3 hB rfl rfl rfl (WL.want rfl rfl rfl (WL.lss rfl rfl rfl (WL.pickT rfl rfl rfl (WL.assign rfl rfl (?_))))))))
      refine WL.nil (WX.then_normal (WC.ret (?_)))
      refine WX.ret1 (.inl rfl) Try.results36 rfl ?_
      refine ⟨_, rfl, ?_, hw⟩
      congr 1
      first
        | (simp [h9.1, h9.2, h12]; done)
        | (simp; omega)
    ·
      refine WL.pickT rfl rfl rfl (WL.move rfl rfl (WL.pass rfl rfl rfl rfl (WL.pass rfl rfl rfl rfl (WL.pass rfl rfl rfl rfl (WL.pass rfl rfl rfl rfl (WL.pass rfl rfl rfl rfl (WL.pass rfl rfl rfl rfl (?_))))))))
      refine WL.pickF rfl rfl rfl (WL.assign rfl rfl (WL.nil (WX.then_normal (WC.ret (?_)))))
      refine WX.ret1 (.inl rfl) Try.results36 rfl ?_
      refine ⟨_, rfl, ?_, hw⟩
      congr 1
      first
        | (simp [h9.1, h9.2, h12]; done)
        | (simp; omega)
  ·
    rw [decide_eq_false h9]
    refine WL.move rfl rfl (WL.pass rfl rfl rfl rfl (WL.pass rfl rfl rfl rfl (WL.pickF rfl rfl rfl (WL.move rfl rfl (WL.pass rfl rfl rfl rfl (WL.pass rfl rfl rfl rfl (WL.pass rfl rfl rfl rfl (?_))))))))
    refine WL.pass rfl rfl rfl rfl (WL.pass rfl rfl rfl rfl (WL.pass rfl rfl rfl rfl (WL.pickF rfl rfl rfl (WL.assign rfl rfl (WL.nil (WX.then_normal (WC.ret (?_))))))))
    refine WX.ret1 (.inl rfl) Try.results36 rfl ?_
    refine ⟨_, rfl, ?_, hw⟩
    congr 1
    first
      | (simp [h9.1, h9.2, h12]; done)
      | (simp; omega)
end Go.Proofs.Ytcdbkfaebgficaa
namespace Go.Proofs.Ytcdbkfaebgficaa
open Go.RowKit Go.HL

/-! the last write that waits for a sector -/
theorem newest_calls {S : Nat → Prop} {w : World} {R : Nat} {s : RA} {m : Nat} {ga : Option Addr} {gc : Nat} {wa : Option Addr} {wc : Nat} {ws : List (Pl × Rw)} (hB : Blk w R 51 (rcells s m ga gc wa wc ws.length)) (hW : Row S w 55 ewr wa wc ws) (p : Pl) :
    Calls Try.prog 45 [ptr R, kpl p].toArray w (Ret fun v w' => (∃ ao : Option Addr, v = .pointer ao ∧ ((ao = none ∧ ∀ x ∈ ws, x.1 ≠ p) ∨ (∃ j x g, ws[j]? = some x ∧ x.1 = p ∧ (∀ k y, j < k → ws[k]? = some y → y.1 ≠ p) ∧ wa = some ⟨g, 0, none⟩ ∧ ao = some ⟨g, 0 + j * 3, none⟩))) ∧ Chg Nob w w') := by
  replace hW := hW.lt
  have hw := Chg.refl Nob w
  have hcap := hW.own.cap
  have hws : ws.length ≤ 9223372036854775807 := by
    rcases hW.own.2.2 with ⟨_, h⟩ | ⟨_, _, _, _, _, _, h, _⟩
    · omega
    · simp only [maxLen] at h; omega
  obtain ⟨pd, pa⟩ := p
  refine Calls.of_WC Try.func45 rfl Try.ntmps45 (by simp) ?_
  refine WC.seq (WC.region (?_))
  refine WL.box rfl rfl ?_
  intro g1 w1 hge1 hlt1 hP k1
  replace hP : Blk w1 g1 53 [vi pd, vi pa] := hP
  have zs_k1 := k1.size
  replace hB := hB.pure k1
  replace hW := hW.pure k1
  replace hw := hw.pure k1
  refine WL.assign rfl rfl (WL.nil (WX.then_normal (WC.seq (WC.seq (WC.region (WL.move rfl rfl (WL.nilCheck rfl rfl (?_))))))))
  refine WL.fieldAddr (fld_51_4) rfl rfl (WL.loadB Try.isAgg49 hB rfl rfl rfl (WL.len Try.underlying49 rfl rfl (?_)))
  refine WL.sub64 rfl rfl (by constructor <;> omega) rfl ?_
  refine WL.assign rfl rfl (WL.nil (WX.then_normal (WC.block (?_))))
  refine WC.loop (σ := Nat) (fun i => [(0, ptr R), (3, ptr g1), (4, .pointer none), (5, vi ((i : Int) - 1))]) (fun i w' => i ≤ ws.length ∧ (∀ k x, i ≤ k → ws[k]? = some x → x.1 ≠ (pd, pa)) ∧ Blk w' R 51 (rcells s m ga gc wa wc ws.length) ∧ Row (fun b => S b ∧ b < w.heap.size) w' 55 ewr wa wc ws ∧ Blk w' g1 53 [vi pd, vi pa] ∧ Chg Nob w w') (fun i => i) ws.length ⟨rfl, rfl, rfl, rfl, trivial⟩ ⟨Nat.le_refl _, fun k x hk hx => by have := (List.getElem?_eq_some_iff.1 hx).1; omega, hB, hW, hP, hw⟩ ?_
  clear hB hW hP hw
  rintro i w1 ⟨hi, hno, hB, hW, hP, hw⟩
  refine WC.seq (WC.seq (WC.region (WL.move rfl rfl (?_))))
  refine WL.geq? rfl rfl rfl (fun h13 => ?_) (fun h13 => ?_)
  ·
    refine WL.nil (WX.then_normal (WC.cond_true rfl (WC.skip (WX.then_normal (WC.seq (WC.block (WC.seq (?_))))))))
    obtain ⟨j, rfl⟩ : ∃ j, i = j + 1 := ⟨i - 1, by omega⟩
    have hx : ws[j]? = some ws[j] := List.getElem?_eq_getElem (by omega)
    obtain ⟨x, ex⟩ : ∃ x, x = ws[j] := ⟨_, rfl⟩
    rw [← ex] at hx
    obtain ⟨g, rfl⟩ := hW.place0 (j := j) (by omega)
    refine WC.draw (Nob) [0, 1, 2, 3, 4, 5, 6, 7, 8, 9] [] mixed rfl rfl (fun wd_1 kd_1 zd_1 => ?_)
    have zs_kd_1 := kd_1.size
    replace hB := hB.pure kd_1
    replace hW := hW.pure kd_1
    replace hw := hw.pure kd_1
    replace hP := hP.pure kd_1
    apply DQ.step (E' := [(0, _)])
    case ho => rfl
    case hs => exact ⟨rfl, trivial⟩
    case hk => rfl
    case h1 =>
      intro wq_2 kq_2
      refine WL.move rfl rfl (?_)
      refine WL.nil ?_
      exact WX.one ⟨rfl, by first | exact Chg.refl _ _ | assumption⟩
    apply DQ.step (E' := [(16, _)])
    case ho => rfl
    case hs => exact ⟨rfl, trivial⟩
    case hk => rfl
    case h1 =>
      intro wq_3 kq_3
      refine WL.nilCheck rfl rfl (?_)
      refine WL.nil ?_
      exact WX.one ⟨rfl, by first | exact Chg.refl _ _ | assumption⟩
    apply DQ.step (E' := [(17, _)])
    case ho => rfl
    case hs => exact ⟨rfl, trivial⟩
    case hk => rfl
    case h1 =>
      intro wq_4 kq_4
      refine WL.fieldAddr (fld_51_4) rfl rfl (?_)
      refine WL.nil ?_
      exact WX.one ⟨rfl, by first | exact Chg.refl _ _ | assumption⟩
    apply DQ.step (E' := [(18, _)])
    case ho => rfl
    case hs => exact ⟨rfl, trivial⟩
    case hk => rfl
    case h1 =>
      intro wq_5 kq_5
      have zs_kq_5 := kq_5.size
      replace hB := hB.pure kq_5
      replace hW := hW.pure kq_5
      replace hw := hw.pure kq_5
      replace hP := hP.pure kq_5
      refine WL.loadB Try.isAgg49 hB rfl rfl rfl (?_)
      refine WL.nil ?_
      exact WX.one ⟨rfl, by first | exact Chg.refl _ _ | assumption⟩
    apply DQ.step (E' := [(5, _)])
    case ho => rfl
    case hs => exact ⟨rfl, trivial⟩
    case hk => rfl
    case h1 =>
      intro wq_6 kq_6
      refine WL.move rfl rfl (?_)
      refine WL.nil ?_
      exact WX.one ⟨rfl, by first | exact Chg.refl _ _ | assumption⟩
    apply DQ.step (E' := [(19, _), (20, _)])
    case ho => rfl
    case hs => exact ⟨rfl, rfl, trivial⟩
    case hk => rfl
    case h1 =>
      intro wq_7 kq_7
      have zs_kq_7 := kq_7.size
      replace hB := hB.pure kq_7
      replace hW := hW.pure kq_7
      replace hw := hw.pure kq_7
      replace hP := hP.pure kq_7
      refine WL.indexC hW.rsl Try.underlying49 Try.sizeOf55 rfl rfl ⟨hx, (by omega)⟩ rfl ?_
      refine WL.nil ?_
      exact WX.one ⟨rfl, by first | exact Chg.refl _ _ | assumption⟩
    apply DQ.step (E' := [(21, _)])
    case ho => rfl
    case hs => exact ⟨rfl, trivial⟩
    case hk => rfl
    case h1 =>
      intro wq_8 kq_8
      refine WL.fieldAddr (fld_55_0) rfl rfl (?_)
      refine WL.nil ?_
      exact WX.one ⟨rfl, by first | exact Chg.refl _ _ | assumption⟩
    apply DQ.step (E' := [(22, _)])
    case ho => rfl
    case hs => exact ⟨rfl, trivial⟩
    case hk => rfl
    case h1 =>
      intro wq_9 kq_9
      have zs_kq_9 := kq_9.size
      replace hB := hB.pure kq_9
      replace hW := hW.pure kq_9
      replace hw := hw.pure kq_9
      replace hP := hP.pure kq_9
      refine WL.loads [vi x.1.1, vi x.1.2] Try.isAgg53 Try.sizeOf53 rfl (fun q v hv => ?_) rfl rfl ?_
      ·
        have h1 := hW.rsl.cellsAt hx q v
        refine h1 ?_
        obtain ⟨⟨x1, x2⟩, x3⟩ := x
        match q, hv with
        | 0, hv => exact hv
        | 1, hv => exact hv
      refine WL.nil ?_
      exact WX.one ⟨rfl, by first | exact Chg.refl _ _ | assumption⟩
    apply DQ.step (E' := [(3, _)])
    case ho => rfl
    case hs => exact ⟨rfl, trivial⟩
    case hk => rfl
    case h1 =>
      intro wq_10 kq_10
      have zs_kq_10 := kq_10.size
      replace hB := hB.pure kq_10
      replace hW := hW.pure kq_10
      replace hw := hw.pure kq_10
      replace hP := hP.pure kq_10
      refine WL.loadsB Try.isAgg53 Try.sizeOf53 hP rfl (by first | (simp; done) | (simp; omega) | rfl) rfl (?_)
      refine WL.nil ?_
      exact WX.one ⟨rfl, by first | exact Chg.refl _ _ | assumption⟩
    apply DQ.split (E' := [(23, _), (24, _)])
    case ho => rfl
    case hs => exact ⟨rfl, rfl, trivial⟩
    case hk => rfl
    case h1 =>
      intro wq_11 kq_11
      refine WL.aeql eqg_pl (eq_pl _ _ _ _) rfl rfl rfl ?_
      refine WL.nil ?_
      exact WX.one ⟨rfl, by first | exact Chg.refl _ _ | assumption⟩
    case ht =>
      intro h25
      replace h25 := of_decide_eq_true h25
      refine DQ.done (fun _ => ?_)
      refine DL.done (fun we_12 ke_12 => ?_)
      have zs_ke_12 := ke_12.size
      replace hB := hB.pure ke_12
      replace hW := hW.pure ke_12
      replace hw := hw.pure ke_12
      replace hP := hP.pure ke_12
      refine WX.then_normal (WC.cond_true rfl (WC.seq (WC.region (WL.move rfl rfl (WL.nilCheck rfl rfl (WL.fieldAddr (fld_51_4) rfl rfl (WL.loadB Try.isAgg49 hB rfl rfl rfl (?_))))))))
      refine WL.move rfl rfl (?_)
      refine WL.indexC hW.rsl Try.underlying49 Try.sizeOf55 rfl rfl ⟨hx, by omega⟩ rfl ?_
      refine WL.assign rfl rfl (WL.nil (WX.then_normal (WC.ret (WX.block_ret (WX.then_ret (WX.then_ret (WX.block_ret (?_))))))))
      refine WX.then_ret (?_)
      refine WX.ret1 (.inl rfl) Try.results45 rfl ?_
      refine ⟨_, rfl, ?_, hw⟩
      first
        | exact ⟨_, rfl, .inr ⟨j, x, g, hx, Prod.ext h25.1 h25.2, fun k y hk hy => hno k y (by omega) hy, rfl, rfl⟩⟩
        | exact ⟨_, rfl, .inl ⟨rfl, fun x hx => by
            obtain ⟨k, hk, rfl⟩ := List.getElem_of_mem hx
            exact hno k _ (by omega) (List.getElem?_eq_getElem hk)⟩⟩
    case hf =>
      intro h25
      replace h25 := of_decide_eq_false h25
      refine DQ.done (fun _ => ?_)
      refine DL.done (fun we_12 ke_12 => ?_)
      have zs_ke_12 := ke_12.size
      replace hB := hB.pure ke_12
      replace hW := hW.pure ke_12
      replace hw := hw.pure ke_12
      replace hP := hP.pure ke_12
      refine WX.then_normal (WC.cond_false rfl (WC.skip (WX.block_normal (WX.then_normal (WC.region (WL.move rfl rfl (WL.sub64 rfl rfl (by first | omega | (constructor <;> omega)) rfl (?_))))))))
      refine WL.assign rfl rfl (WL.nil (?_))
      refine WX.loop_next j ⟨rfl, rfl, rfl, by simp [List.lookup, ev]; try omega, trivial⟩ ⟨by omega, ?_, hB, hW, hP, hw⟩ (by omega)
      intro k y hk hy
      rcases Nat.lt_or_ge j k with h1 | h1
      ·
        exact hno k y (by omega) hy
      ·
        have : k = j := by omega
        subst this
        rw [hx] at hy
        injection hy with hy
        subst hy
        intro e
        rw [e] at h25
        exact h25 ⟨rfl, rfl⟩
  ·
    refine WL.nil (WX.then_normal (WC.cond_false rfl (WC.exit (WX.then_exit (WX.then_exit (WX.block_here (WX.then_normal (?_))))))))
    refine WC.seq (WC.region (WL.assign rfl rfl (WL.nil (WX.then_normal (WC.ret (?_))))))
    refine WX.ret1 (.inl rfl) Try.results45 rfl ?_
    refine ⟨_, rfl, ?_, hw⟩
    first
      | exact ⟨_, rfl, .inr ⟨j, x, g, hx, Prod.ext h25.1 h25.2, fun k y hk hy => hno k y (by omega) hy, rfl, rfl⟩⟩
      | exact ⟨_, rfl, .inl ⟨rfl, fun x hx => by
          obtain ⟨k, hk, rfl⟩ := List.getElem_of_mem hx
          exact hno k _ (by omega) (List.getElem?_eq_getElem hk)⟩⟩
end Go.Proofs.Ytcdbkfaebgficaa
namespace Go.Proofs.Ytcdbkfaebgficaa
open Go.RowKit Go.HL

/-! plain: the last of those with a place -/
section
variable {K V : Type} [DecidableEq K]
theorem mget_app (l1 l2 : List (K × V)) (k : K) : mget (l1 ++ l2) k = match mget l1 k with | some v => some v | none => mget l2 k := by
  induction l1 with
  | nil => rfl
  | cons p r ih =>
    obtain ⟨k', v⟩ := p
    simp only [List.cons_append, mget]
    by_cases h : k = k'
    · simp [h]
    · simp [h, ih]
theorem mget_no {l : List (K × V)} {k : K} (h : ∀ x ∈ l, x.1 ≠ k) : mget l k = none := by
  induction l with
  | nil => rfl
  | cons p r ih =>
    obtain ⟨k', v⟩ := p
    have h1 := h (k', v) (by simp)
    simp only [mget]
    rw [if_neg (fun e => h1 e.symm)]
    exact ih (fun x hx => h x (List.mem_cons_of_mem _ hx))
theorem mget_mem {l : List (K × V)} {k : K} {v : V} (h : mget l k = some v) : (k, v) ∈ l := by
  induction l with
  | nil => cases h
  | cons p r ih =>
    obtain ⟨k', u⟩ := p
    simp only [mget] at h
    by_cases e : k = k'
    · subst e
      simp at h
      simp [h]
    · rw [if_neg e] at h
      exact List.mem_cons_of_mem _ (ih h)
/-- of those with a place the last -/
def newV (ws : List (K × V)) (p : K) : Option V := mget ws.reverse p
theorem newV_none {ws : List (K × V)} {p : K} (h : ∀ x ∈ ws, x.1 ≠ p) : newV ws p = none := mget_no (fun x hx => h x (List.mem_reverse.1 hx))
omit [DecidableEq K] in
theorem split_at {ws : List (K × V)} {j : Nat} {x : K × V} (hx : ws[j]? = some x) : ws = ws.take j ++ [x] ++ ws.drop (j + 1) := by
  obtain ⟨hj, e⟩ := List.getElem?_eq_some_iff.1 hx
  rw [← e, List.append_assoc]
  simp
omit [DecidableEq K] in
theorem later_no {ws : List (K × V)} {p : K} {j : Nat} (h : ∀ k y, j < k → ws[k]? = some y → y.1 ≠ p) : ∀ x ∈ (ws.drop (j + 1)).reverse, x.1 ≠ p := by
  intro x hx
  obtain ⟨i, hi, rfl⟩ := List.getElem_of_mem (List.mem_reverse.1 hx)
  refine h (j + 1 + i) _ (by omega) ?_
  rw [← List.getElem?_drop]
  exact List.getElem?_eq_getElem hi
theorem newV_some {ws : List (K × V)} {p : K} {j : Nat} {x : K × V} (hx : ws[j]? = some x) (hp : x.1 = p) (h : ∀ k y, j < k → ws[k]? = some y → y.1 ≠ p) : newV ws p = some x.2 := by
  obtain ⟨x1, x2⟩ := x
  subst hp
  unfold newV
  rw [split_at hx, List.reverse_append, List.reverse_append, mget_app, mget_no (later_no h)]
  simp [mget]
/-- the last one with a place gets another value -/
def putW (ws : List (K × V)) (p : K) (v : V) : List (K × V) := (mput ws.reverse p v).reverse
theorem mput_app {l1 l2 : List (K × V)} {k : K} (h : ∀ x ∈ l1, x.1 ≠ k) (v : V) : mput (l1 ++ l2) k v = l1 ++ mput l2 k v := by
  induction l1 with
  | nil => rfl
  | cons p r ih =>
    obtain ⟨k', u⟩ := p
    have h1 := h (k', u) (by simp)
    simp only [List.cons_append, mput]
    rw [if_neg (fun e => h1 e.symm), ih (fun x hx => h x (List.mem_cons_of_mem _ hx))]
theorem putW_some {ws : List (K × V)} {p : K} {j : Nat} {x : K × V} (hx : ws[j]? = some x) (hp : x.1 = p) (h : ∀ k y, j < k → ws[k]? = some y → y.1 ≠ p) (v : V) : putW ws p v = ws.set j (p, v) := by
  obtain ⟨x1, x2⟩ := x
  subst hp
  have hj := (List.getElem?_eq_some_iff.1 hx).1
  unfold putW
  conv => lhs; rw [split_at hx]
  rw [List.reverse_append, List.reverse_append, mput_app (later_no h), List.set_eq_take_append_cons_drop, if_pos hj]
  simp [mput]
theorem mput_fst {l : List (K × V)} {k : K} {v : V} : (mput l k v).map (·.1) = if k ∈ l.map (·.1) then l.map (·.1) else l.map (·.1) ++ [k] := by
  induction l with
  | nil => simp [mput]
  | cons p r ih =>
    obtain ⟨k', u⟩ := p
    simp only [mput]
    by_cases h : k = k'
    · simp [h]
    · rw [if_neg h]
      simp only [List.map_cons, ih, List.mem_cons, h, false_or]
      split <;> rfl
theorem mput_nodup {l : List (K × V)} {k : K} {v : V} (h : (l.map (·.1)).Nodup) : ((mput l k v).map (·.1)).Nodup := by
  rw [mput_fst]
  split
  · exact h
  · rename_i h1
    rw [List.nodup_append]
    refine ⟨h, by simp, ?_⟩
    intro a ha b hb e
    simp at hb
    subst hb; subst e
    exact h1 ha
theorem mput_mem {l : List (K × V)} {k : K} {v : V} {x : K × V} (h : x ∈ mput l k v) : x ∈ l ∨ x = (k, v) := by
  induction l with
  | nil => simp [mput] at h; exact .inr h
  | cons p r ih =>
    obtain ⟨k', u⟩ := p
    simp only [mput] at h
    split at h
    · rcases List.mem_cons.1 h with h1 | h1
      · exact .inr h1
      · exact .inl (List.mem_cons_of_mem _ h1)
    · rcases List.mem_cons.1 h with h1 | h1
      · exact .inl (by simp [h1])
      · rcases ih h1 with h2 | h2
        · exact .inl (List.mem_cons_of_mem _ h2)
        · exact .inr h2
end
theorem xsm_get (l : List (Pl × Rw)) (p : Pl) : mget (xsm l) p = (mget l p).map (·.xs) := by
  induction l with
  | nil => rfl
  | cons x r ih =>
    obtain ⟨k', v⟩ := x
    simp only [xsm, List.map_cons, mget] at ih ⊢
    by_cases h : p = k'
    · simp [h]
    · simp [h, ih]
theorem xsm_put (l : List (Pl × Rw)) (p : Pl) (v : Rw) : xsm (mput l p v) = mput (xsm l) p v.xs := by
  induction l with
  | nil => rfl
  | cons x r ih =>
    obtain ⟨k', u⟩ := x
    simp only [xsm, List.map_cons, mput] at ih ⊢
    by_cases h : p = k'
    · simp [h]
    · simp [h, ih]
theorem xsm_rev (l : List (Pl × Rw)) : xsm l.reverse = (xsm l).reverse := by simp [xsm]
theorem xsm_newV (l : List (Pl × Rw)) (p : Pl) : newV (xsm l) p = (newV l p).map (·.xs) := by
  unfold newV
  rw [← xsm_rev, xsm_get]
theorem xsm_putW (l : List (Pl × Rw)) (p : Pl) (v : Rw) : xsm (putW l p v) = putW (xsm l) p v.xs := by
  unfold putW
  rw [← xsm_rev, ← xsm_put, ← xsm_rev]
theorem xsm_len (l : List (Pl × Rw)) : (xsm l).length = l.length := by simp [xsm]
/-- what a sector holds -/
def heldS (s : RA) (p : Pl) : List UInt8 := match newV s.waits p with
  | some b => b
  | none => (mget s.last p).getD (List.replicate 128 0)
theorem heldS_len {s : RA} (h : s.ok) (p : Pl) : (heldS s p).length = 128 := by
  unfold heldS
  cases h1 : newV s.waits p with
  | some b => exact h.lw _ (List.mem_reverse.1 (mget_mem h1))
  | none =>
    cases h2 : mget s.last p with
    | some b => exact h.ll _ (mget_mem h2)
    | none => rfl
/-! what a sector holds -/
theorem held_calls {A : Nat → Prop} {w : World} {R : Nat} {s : RA} (h : RK A w R s) (p : Pl) :
    Calls Try.prog 38 [ptr R, kpl p].toArray w (Ret fun v w' => (∃ r, v = vsl r ∧ RSl (· < w'.heap.size) w' eb r.ao r.cap r.xs ∧ r.xs = heldS s p) ∧ Chg Nob w w') := by
  obtain ⟨m, ga, gc, wa, wc, ws, ls, hB, hI, hls, hws⟩ := h.ex
  have hw := Chg.refl Nob w
  obtain ⟨pd, pa⟩ := p
  refine Calls.of_WC Try.func38 rfl Try.ntmps38 (by simp) ?_
  refine WC.seq (WC.region (?_))
  refine WL.box rfl rfl ?_
  intro g1 w1 hge1 hlt1 hP k1
  replace hP : Blk w1 g1 53 [vi pd, vi pa] := hP
  have zs_k1 := k1.size
  replace hB := hB.pure k1
  replace hI := hI.pure k1
  replace hw := hw.pure k1
  refine WL.assign rfl rfl (WL.nil (WX.then_normal (WC.seq (WC.seq (WC.region (WL.move rfl rfl (WL.loadsB Try.isAgg53 Try.sizeOf53 hP rfl (by first | (simp; done) | (simp; omega) | rfl) rfl (?_))))))))
  refine WL.call eg_45 rfl rfl (newest_calls hB hI.waits (pd, pa)) ?_
  rintro v w2 ⟨⟨ao, rfl, hnew⟩, k2⟩
  have zs_k2 := k2.size
  replace hB := hB.pure k2
  replace hI := hI.pure k2
  replace hw := hw.pure k2
  replace hP := hP.pure k2
  refine WL.assign rfl rfl (WL.nil (WX.then_normal (WC.seq (WC.region (WL.move rfl rfl (?_))))))
  refine WL.ptrSome Try.underlying76 rfl rfl rfl ?_
  rcases hnew with ⟨rfl, hno⟩ | ⟨j, x, g, hx, hxp, hno, rfl, rfl⟩
  ·
    refine WL.nil (WX.then_normal (WC.cond_false rfl (WC.skip (WX.then_normal (WC.seq (WC.seq (?_)))))))
    refine WC.draw (Nob) [0, 1, 2, 3, 4, 5, 6, 7, 8, 9, 10] [] mixed rfl rfl (fun wd_1 kd_1 zd_1 => ?_)
    have zs_kd_1 := kd_1.size
    replace hB := hB.pure kd_1
    replace hI := hI.pure kd_1
    replace hw := hw.pure kd_1
    replace hP := hP.pure kd_1
    apply DQ.step (E' := [(0, _)])
    case ho => rfl
    case hs => exact ⟨rfl, trivial⟩
    case hk => rfl
    case h1 =>
      intro wq_2 kq_2
      refine WL.move rfl rfl (?_)
      refine WL.nil ?_
      exact WX.one ⟨rfl, by first | exact Chg.refl _ _ | assumption⟩
    apply DQ.step (E' := [(18, _)])
    case ho => rfl
    case hs => exact ⟨rfl, trivial⟩
    case hk => rfl
    case h1 =>
      intro wq_3 kq_3
      refine WL.nilCheck rfl rfl (?_)
      refine WL.nil ?_
      exact WX.one ⟨rfl, by first | exact Chg.refl _ _ | assumption⟩
    apply DQ.step (E' := [(19, _)])
    case ho => rfl
    case hs => exact ⟨rfl, trivial⟩
    case hk => rfl
    case h1 =>
      intro wq_4 kq_4
      refine WL.fieldAddr (fld_51_2) rfl rfl (?_)
      refine WL.nil ?_
      exact WX.one ⟨rfl, by first | exact Chg.refl _ _ | assumption⟩
    apply DQ.step (E' := [(20, _)])
    case ho => rfl
    case hs => exact ⟨rfl, trivial⟩
    case hk => rfl
    case h1 =>
      intro wq_5 kq_5
      have zs_kq_5 := kq_5.size
      replace hB := hB.pure kq_5
      replace hI := hI.pure kq_5
      replace hw := hw.pure kq_5
      replace hP := hP.pure kq_5
      refine WL.loadB Try.isAgg47 hB rfl rfl rfl (?_)
      refine WL.nil ?_
      exact WX.one ⟨rfl, by first | exact Chg.refl _ _ | assumption⟩
    apply DQ.step (E' := [(3, _)])
    case ho => rfl
    case hs => exact ⟨rfl, trivial⟩
    case hk => rfl
    case h1 =>
      intro wq_6 kq_6
      have zs_kq_6 := kq_6.size
      replace hB := hB.pure kq_6
      replace hI := hI.pure kq_6
      replace hw := hw.pure kq_6
      replace hP := hP.pure kq_6
      refine WL.loadsB Try.isAgg53 Try.sizeOf53 hP rfl (by first | (simp; done) | (simp; omega) | rfl) rfl (?_)
      refine WL.nil ?_
      exact WX.one ⟨rfl, by first | exact Chg.refl _ _ | assumption⟩
    apply DQ.step (E' := [(21, _), (22, _)])
    case ho => rfl
    case hs => exact ⟨rfl, rfl, trivial⟩
    case hk => rfl
    case h1 =>
      intro wq_7 kq_7
      have zs_kq_7 := kq_7.size
      replace hB := hB.pure kq_7
      replace hI := hI.pure kq_7
      replace hw := hw.pure kq_7
      replace hP := hP.pure kq_7
      refine WL.mlookup plOk Try.underlying47 Try.zeroValue43 hI.map rfl (show _ = some (kpl (pd, pa)) from rfl) rfl ?_
      rw [show (mget ls (pd, pa)).isSome = decide ((mget ls (pd, pa)).isSome = true) from by simp]
      refine WL.nil ?_
      exact WX.one ⟨rfl, by first | exact Chg.refl _ _ | assumption⟩
    apply DQ.step (E' := [(23, _)])
    case ho => rfl
    case hs => exact ⟨rfl, trivial⟩
    case hk => rfl
    case h1 =>
      intro wq_8 kq_8
      refine WL.move rfl rfl (?_)
      refine WL.nil ?_
      exact WX.one ⟨rfl, by first | exact Chg.refl _ _ | assumption⟩
    apply DQ.step (E' := [(17, _)])
    case ho => rfl
    case hs => exact ⟨rfl, trivial⟩
    case hk => rfl
    case h1 =>
      intro wq_9 kq_9
      refine WL.extract rfl rfl rfl (?_)
      refine WL.nil ?_
      exact WX.one ⟨rfl, by first | exact Chg.refl _ _ | assumption⟩
    apply DQ.step (E' := [(17, _)])
    case ho => rfl
    case hs => exact ⟨rfl, trivial⟩
    case hk => rfl
    case h1 =>
      intro wq_10 kq_10
      refine WL.extract rfl rfl rfl (?_)
      refine WL.nil ?_
      exact WX.one ⟨rfl, by first | exact Chg.refl _ _ | assumption⟩
    apply DQ.step (E' := [(24, _)])
    case ho => rfl
    case hs => exact ⟨rfl, trivial⟩
    case hk => rfl
    case h1 =>
      intro wq_11 kq_11
      refine WL.assign rfl rfl (?_)
      refine WL.nil ?_
      exact WX.one ⟨rfl, by first | exact Chg.refl _ _ | assumption⟩
    apply DQ.step (E' := [(25, _)])
    case ho => rfl
    case hs => exact ⟨rfl, trivial⟩
    case hk => rfl
    case h1 =>
      intro wq_12 kq_12
      refine WL.assign rfl rfl (?_)
      refine WL.nil ?_
      exact WX.one ⟨rfl, by first | exact Chg.refl _ _ | assumption⟩
    refine DQ.done (fun _ => ?_)
    refine DL.done (fun we_13 ke_13 => ?_)
    have zs_ke_13 := ke_13.size
    replace hB := hB.pure ke_13
    replace hI := hI.pure ke_13
    replace hw := hw.pure ke_13
    replace hP := hP.pure ke_13
    refine WX.then_normal (WC.seq (WC.region (WL.move rfl rfl (WL.nil (WX.then_normal (?_))))))
    first | refine WC.cond_dec rfl (fun hc26 => ?_) (fun hc26 => ?_) | refine WC.cond_split rfl (fun hc26 => ?_) (fun hc26 => ?_)
    ·
      refine WC.seq (WC.region (WL.move rfl rfl (WL.assign rfl rfl (WL.nil (WX.then_normal (WC.ret (WX.then_ret (?_))))))))
      refine WX.ret1 (.inl rfl) Try.results38 rfl ?_
      first
        | exact ⟨_, rfl, ⟨x.2, rfl, (hI.byw x (List.mem_of_getElem? hx)).rsl.old, by rw [heldS, hws, xsm_newV, newV_some hx hxp hno]; rfl⟩, hw⟩
        | (obtain ⟨r, hr⟩ := Option.isSome_iff_exists.1 hc26
           simp only [hr]
           exact ⟨_, rfl, ⟨r, rfl, (hI.byl _ (mget_mem hr)).rsl.old, by rw [heldS, hws, xsm_newV, newV_none hno, hls, xsm_get, hr]; rfl⟩, hw⟩)
        | (have hr : mget ls (pd, pa) = none := by simpa using hc26
           exact ⟨_, rfl, ⟨⟨some ⟨g3, 0, none⟩, 128, List.replicate 128 0⟩, rfl, hm.rsl.old, by rw [heldS, hws, xsm_newV, newV_none hno, hls, xsm_get, hr]; rfl⟩, hw⟩)
    ·
      refine WC.skip (WX.then_normal (WC.seq (WC.region (?_))))
      refine WL.make (e := eb) (0 : UInt8) 128 128 Try.underlying43 info_5 rfl rfl rfl ⟨rfl, rfl, Nat.le_refl _⟩ (by decide) rfl ?_
      intro g3 w3 hm k3 z3 eg3
      have zs_k3 := k3.size
      replace hB := hB.pure k3
      replace hI := hI.pure k3
      replace hw := hw.pure k3
      replace hP := hP.pure k3
      refine WL.assign rfl rfl (WL.nil (WX.then_normal (WC.ret (?_))))
      refine WX.ret1 (.inl rfl) Try.results38 rfl ?_
      first
        | exact ⟨_, rfl, ⟨x.2, rfl, (hI.byw x (List.mem_of_getElem? hx)).rsl.old, by rw [heldS, hws, xsm_newV, newV_some hx hxp hno]; rfl⟩, hw⟩
        | (obtain ⟨r, hr⟩ := Option.isSome_iff_exists.1 hc26
           simp only [hr]
           exact ⟨_, rfl, ⟨r, rfl, (hI.byl _ (mget_mem hr)).rsl.old, by rw [heldS, hws, xsm_newV, newV_none hno, hls, xsm_get, hr]; rfl⟩, hw⟩)
        | (have hr : mget ls (pd, pa) = none := by simpa using hc26
           exact ⟨_, rfl, ⟨⟨some ⟨g3, 0, none⟩, 128, List.replicate 128 0⟩, rfl, hm.rsl.old, by rw [heldS, hws, xsm_newV, newV_none hno, hls, xsm_get, hr]; rfl⟩, hw⟩)
  ·
    refine WL.nil (WX.then_normal (WC.cond_true rfl (WC.seq (WC.region (WL.move rfl rfl (WL.nilCheck rfl rfl (WL.fieldAddr (fld_55_1) rfl rfl (?_))))))))
    refine WL.load Try.isAgg43 rfl (hI.waits.rsl.cellsAt hx 2 _ rfl) rfl ?_
    refine WL.assign rfl rfl (WL.nil (WX.then_normal (WC.ret (WX.then_ret (?_)))))
    refine WX.ret1 (.inl rfl) Try.results38 rfl ?_
    first
      | exact ⟨_, rfl, ⟨x.2, rfl, (hI.byw x (List.mem_of_getElem? hx)).rsl.old, by rw [heldS, hws, xsm_newV, newV_some hx hxp hno]; rfl⟩, hw⟩
      | (obtain ⟨r, hr⟩ := Option.isSome_iff_exists.1 hc26
         simp only [hr]
         exact ⟨_, rfl, ⟨r, rfl, (hI.byl _ (mget_mem hr)).rsl.old, by rw [heldS, hws, xsm_newV, newV_none hno, hls, xsm_get, hr]; rfl⟩, hw⟩)
      | (have hr : mget ls (pd, pa) = none := by simpa using hc26
         exact ⟨_, rfl, ⟨⟨some ⟨g3, 0, none⟩, 128, List.replicate 128 0⟩, rfl, hm.rsl.old, by rw [heldS, hws, xsm_newV, newV_none hno, hls, xsm_get, hr]; rfl⟩, hw⟩)
/-! bytes of one's own -/
theorem clone_calls {S : Nat → Prop} {w : World} {ao : Option Addr} {c : Nat} {b : List UInt8} (hr : RSl S w eb ao c b) (hl : b.length = 128) :
    Calls Try.prog 37 [.slice ao b.length c].toArray w (Ret fun v w' => (∃ (g c' : Nat), v = .slice (some ⟨g, 0, none⟩) b.length c' ∧ Row (· = g) w' 5 eb (some ⟨g, 0, none⟩) c' b ∧ w.heap.size ≤ g ∧ g < w'.heap.size) ∧ Chg Nob w w') := by
  replace hr := hr.old
  have hw := Chg.refl Nob w
  have hlt := hr.lt
  refine Calls.of_WC Try.func37 rfl Try.ntmps37 (by simp) ?_
  refine WC.seq (WC.region (WL.assign rfl rfl (WL.nil (WX.then_normal (WC.seq (WC.seq (WC.region (?_))))))))
  refine WL.move rfl rfl (?_)
  refine WL.isNil? Try.underlying43 rfl rfl rfl (fun h4 => ?_) (fun h4 => ?_)
  ·
    subst h4
    have hn := hr.none_nil
    rw [hn] at hl
    cases hl
  ·
    refine WL.nil (WX.then_normal (WC.cond_false rfl (WC.skip (WX.then_normal (WC.seq (WC.region (?_)))))))
    refine WL.build (e := eb) [] Try.underlying43 Try.sizeOf5 Try.zeroValue5 rfl rfl rfl (by first | (simp [Value.cells]; done) | (simp [Value.cells] <;> rfl) | (simp [Value.cells, eb, ei, es, ebool, e32, e64]; done)) (by decide) rfl ?_
    intro a_hq w_hq hq l_hq z_hq k_hq
    have zs_k_hq := k_hq.size
    replace hr := hr.pure k_hq
    replace hw := hw.pure k_hq
    refine WL.move rfl rfl (?_)
    refine WL.append0 (e := eb) info_5 rfl Try.underlying43 rfl rfl hq (hr.src Try.underlying43) (by omega) (by constructor <;> omega) rfl ?_
    intro g2 c2 w2 hb2 k2 eg2 z2
    have zs_k2 := k2.size
    replace hr := hr.pure k2
    replace hw := hw.pure k2
    refine WL.assign rfl rfl (WL.nil (WX.then_normal (WC.ret (?_))))
    refine WX.ret1 (.inl rfl) Try.results37 rfl ?_
    exact ⟨_, rfl, ⟨g2, c2, rfl, hb2, by omega, by omega⟩, hw⟩
end Go.Proofs.Ytcdbkfaebgficaa
