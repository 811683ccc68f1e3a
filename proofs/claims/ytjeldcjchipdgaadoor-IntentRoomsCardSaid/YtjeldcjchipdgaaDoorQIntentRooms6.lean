import Derived.Lib.Builder
import Derived.Lib.UnsafeStr
import Derived.Laws.Externs
import Derived.Test.YtjeldcjchipdgaaDoorQIntentRooms5
namespace Go.HL
open Go.RowKit
/-! regions that draw their order: quiet operations that hang on loud ones -/
def flatP : List (Nat × List Nat) → List Nat
  | [] => []
  | (r, C) :: t => r :: (C ++ flatP t)
/-- those of a list that come behind an operation, whatever is drawn -/
def closP (ops : Array Oper) : List Nat → List Nat → List Nat
  | [], acc => acc
  | i :: l, acc => closP ops l (bif acc.any (fun j => before? ops j i) then i :: acc else acc)
def behindOk (ops : Array Oper) : List (Nat × List Nat) → Bool
  | [] => true
  | (r, C) :: t => (C ++ flatP t).all (fun i => (closP ops (C ++ flatP t) [r]).contains i) && behindOk ops t
def drawOkP (ops : Array Oper) (C0 : List Nat) (rest : List (Nat × List Nat)) : Bool :=
  ((List.range ops.size).all fun i => (C0 ++ flatP rest).contains i) && ((C0 ++ flatP rest).all fun i => decide (i < ops.size)) &&
  ((List.range ops.size).all fun i => (List.range ops.size).all fun j => i == j || dstOf ops i == none || dstOf ops i != dstOf ops j) &&
  ((List.range ops.size).all fun i => ((ops[i]?).map (·.after.toList.all fun e => !Region.binds .any e || decide (e.on < i))).getD true) &&
  srcOk ops [] (C0 ++ flatP rest) && behindOk ops rest && nodupB (C0 ++ flatP rest)
theorem closP_ready {ops : Array Oper} {listed : Array Bool} {r : Nat} (hclo : ∀ i, listed.getD i false = true → ∀ j, before? ops j i = true → listed.getD j false = true) (hr : listed.getD r false = false) {i : Nat} (hpre : ∀ j, before? ops j i = true → listed.getD j false = true) :
    ∀ {l acc : List Nat}, (∀ i ∈ acc, listed.getD i false = false) → i ∉ acc → i ∉ closP ops l acc
  | [], _, _, h2 => h2
  | k :: l, acc, h, h2 => by
    simp only [closP]
    cases hb : acc.any (fun j => before? ops j k) with
    | false => exact closP_ready hclo hr hpre h h2
    | true =>
      obtain ⟨m, hm, hmb⟩ := List.any_eq_true.1 hb
      refine closP_ready hclo hr hpre (fun j hj => ?_) (fun hc => ?_)
      · rcases List.mem_cons.1 hj with h1 | h1
        · subst h1
          cases hl : listed.getD j false with
          | false => rfl
          | true =>
            have := hclo j hl m hmb
            rw [h m hm] at this
            cases this
        · exact h j h1
      · rcases List.mem_cons.1 hc with h1 | h1
        · subst h1
          have := hpre m hmb
          rw [h m hm] at this
          cases this
        · exact h2 h1
section
variable (P : Program) (ops : Array Oper) (Q : Exit → Act → World → Prop) (N : Nat) (M : Nat → Prop)
def DPQ (w0 : World) (next : Env → Prop) : List Nat → Env → Prop
  | [], E => next E
  | i :: is, E => ∃ v, (∀ o, ops[i]? = some o → ∀ w', Chg M w0 w' → WL P ops (One o.dst fun u w'' => u = v ∧ Chg Nob w' w'') N [o] (restr ops i E) w') ∧ DPQ w0 next is (putE E (dstOf ops i) v)
def DPR : List (Nat × List Nat) → Env → World → Prop
  | [], E, w => ∀ w', Chg Nob w w' → WX Q .normal N E w'
  | (r, C) :: t, E, w => ∀ w', Chg Nob w w' → ∀ o, ops[r]? = some o → WL P ops (One o.dst fun v w'' => Chg M w' w'' ∧ DPQ P ops N M w'' (fun E2 => DPR t E2 w'') C (putE E o.dst v)) N [o] (restr ops r E) w'
end
section
variable {P : Program} {ops : Array Oper} {Q : Exit → Act → World → Prop} {N : Nat} {M : Nat → Prop} {w0 : World} {E0 : Env}
theorem DPQ_spec {next : Env → Prop} : ∀ {is : List Nat} {E : Env}, is.Nodup → DPQ P ops N M w0 next is E → ∃ c : Nat → Value, next (envAfter ops c is E) ∧
    ∀ pre i post, is = pre ++ i :: post → ∀ o, ops[i]? = some o → ∀ w', Chg M w0 w' → WL P ops (One o.dst fun u w'' => u = c i ∧ Chg Nob w' w'') N [o] (restr ops i (envAfter ops c pre E)) w'
  | [], E, _, h => ⟨fun _ => undef, h, fun pre i post hx => by cases pre <;> cases hx⟩
  | i :: is, E, hn, h => by
    obtain ⟨v, h1, h2⟩ := h
    obtain ⟨c, h3, h4⟩ := DPQ_spec (List.nodup_cons.1 hn).2 h2
    have hi := (List.nodup_cons.1 hn).1
    let c' : Nat → Value := fun j => if j = i then v else c j
    have hc : ∀ j, j ∈ is → c j = c' j := fun j hj => by
      have : j ≠ i := fun e => hi (e ▸ hj)
      simp [c', this]
    have hci : c' i = v := by simp [c']
    refine ⟨c', ?_, ?_⟩
    · show next (envAfter ops c' is (putE E (dstOf ops i) (c' i)))
      rw [hci, ← envAfter_congr ops c c' is _ hc]
      exact h3
    · intro pre j post hx o ho w' hw
      cases pre with
      | nil =>
        injection hx with hx1 hx2
        subst hx1
        rw [hci]
        exact h1 o ho w' hw
      | cons p pre =>
        injection hx with hx1 hx2
        subst hx1
        have := h4 pre j post hx2 o ho w' hw
        have hj : j ∈ is := by rw [hx2]; simp
        rw [hc j hj, envAfter_congr ops c c' pre _ (fun k hk => hc k (by rw [hx2]; simp [hk]))] at this
        show WL P ops _ N [o] (restr ops j (envAfter ops c' pre (putE E (dstOf ops i) (c' i)))) w'
        rw [hci]
        exact this
theorem Mid.cong {listed : Array Bool} {a : Act} {vals vals' : Nat → Value} (m : Mid ops N E0 listed a vals) (h : ∀ j, listed.getD j false = true → vals j = vals' j) : Mid ops N E0 listed a vals' :=
  ⟨m.sz, m.tsz, m.dfs, fun i hi hl t ht => by rw [← h i hl]; exact m.done i hi hl t ht, m.old, m.clo⟩
/-- a quiet operation of those that are ready: it may run at any later time -/
def QF (P : Program) (ops : Array Oper) (N : Nat) (M : Nat → Prop) (E0 : Env) (vals : Nat → Value) (pre : List Nat) (w1 : World) (i : Nat) : Prop :=
  ∃ pr post, pre = pr ++ i :: post ∧ ∀ o, ops[i]? = some o → ∀ w', Chg M w1 w' → WL P ops (One o.dst fun u w'' => u = vals i ∧ Chg Nob w' w'') N [o] (restr ops i (envAfter ops vals pr E0)) w'
theorem WC.drawP {id : Nat} (M : Nat → Prop) (C0 : List Nat) (rest0 : List (Nat × List Nat)) (hm : P.follows .mixedOrders = true) (hok : drawOkP ops C0 rest0 = true) (hN : ((List.range ops.size).all fun i => (dstOf ops i).all fun t => Nat.blt t N) = true) {w : World}
    (h0 : ∀ wd, Chg Nob w wd → wd.heap.size = w.heap.size → DPQ P ops N M wd (fun E => DPR P ops Q N M rest0 E wd) C0 E0) : WC P (.region id ops true) Q N E0 w := fun a0 ha0 => by
  have h := h0 w.drew (Chg.drew w) rfl
  simp only [drawOkP, Bool.and_eq_true, decide_eq_true_eq] at hok
  obtain ⟨⟨⟨⟨⟨⟨hpart, hlt0⟩, hdst0⟩, hback0⟩, hsrc⟩, hbeh0⟩, hnd⟩ := hok
  replace hnd := nodupB_spec hnd
  obtain ⟨SEQ, hSEQ⟩ : ∃ SEQ, SEQ = C0 ++ flatP rest0 := ⟨_, rfl⟩
  rw [← hSEQ] at hpart hlt0 hsrc hnd
  have hlt : ∀ k ∈ SEQ, k < ops.size := fun k hk => by simpa using List.all_eq_true.1 hlt0 k hk
  have hdst : ∀ i j, i < ops.size → j < ops.size → i ≠ j → ∀ t, dstOf ops i = some t → dstOf ops j ≠ some t := by
    intro i j hi hj hne t h1 h2
    have := List.all_eq_true.1 (List.all_eq_true.1 hdst0 i (by simpa using hi)) j (by simpa using hj)
    simp [h1, h2, hne] at this
  have hback : ∀ i, i < ops.size → ∀ o, ops[i]? = some o → ∀ e ∈ o.after, Region.binds .any e = true → e.on < i := by
    intro i hi o ho e he hb
    have := List.all_eq_true.1 hback0 i (by simpa using hi)
    simp only [ho, Option.map_some, Option.getD_some] at this
    rw [List.all_eq_true] at this
    have := this e (by simpa using he)
    simpa [hb] using this
  have hNt : ∀ i, i < ops.size → ∀ t, dstOf ops i = some t → t < N := by
    intro i hi t ht
    have := List.all_eq_true.1 hN i (by simpa using hi)
    simpa [ht] using this
  have hin : ∀ i, i < ops.size → i ∈ SEQ := fun i hi => by simpa using List.all_eq_true.1 hpart i (by simpa using hi)
  have hgs : ∀ (listed : Array Bool) (i j : Nat), i < listed.size → (listed.setIfInBounds i true).getD j false = if j = i then true else listed.getD j false := by
    intro listed i j hil
    simp only [Array.getD_eq_getD_getElem?, Array.getElem?_setIfInBounds]
    by_cases e : j = i
    · subst e; simp [hil]
    · have : ¬ i = j := fun x => e x.symm
      simp [this, e]
  have hout : ∀ (listed : Array Bool), listed.size = ops.size → ∀ i, listed.getD i false = true → i < ops.size := by
    intro listed hsz i hl
    rcases Nat.lt_or_ge i ops.size with h1 | h1
    · exact h1
    · simp [Array.getD_eq_getD_getElem?, Array.getElem?_eq_none (show listed.size ≤ i by omega)] at hl
  have fin : ∀ (listed : Array Bool) (a : Act) (w1 wp : World) (vals : Nat → Value) (pre : List Nat) (rest : List (Nat × List Nat)), SEQ = pre ++ flatP rest → Mid ops N E0 listed a vals → (∀ i ∈ flatP rest, listed.getD i false = false) →
      Chg Nob wp w1 → DPR P ops Q N M rest (envAfter ops vals pre E0) wp → (∀ i, i < ops.size → listed.getD i false = true) → Q .normal a w1 := by
    intro listed a w1 wp vals pre rest hS m hrs hpw hdl hall
    cases rest with
    | cons p rest =>
      obtain ⟨r, C⟩ := p
      have h1 := hall r (hlt r (by rw [hS]; simp [flatP]))
      have h2 := hrs r (by simp [flatP])
      rw [h1] at h2; cases h2
    | nil =>
      simp only [flatP, List.append_nil] at hS
      refine hdl w1 hpw a ⟨m.tsz, m.dfs, fun t v ht => ?_⟩
      rcases (Rep.start ops E0 vals).after pre t v ht with ⟨j, hj, hd, rfl⟩ | ⟨h1, h2⟩
      · have hjl := hlt j (by rw [hS]; simpa using hj)
        exact m.done j hjl (hall j hjl) t hd
      · refine m.old t v h2 fun j hj _ => h1 j ?_
        have := hin j hj
        rw [hS] at this
        simpa using this
  have key : ∀ (fuel : Nat) (listed : Array Bool) (a : Act) (w1 wp : World) (vals : Nat → Value) (pre : List Nat) (rest : List (Nat × List Nat)), SEQ = pre ++ flatP rest → Mid ops N E0 listed a vals → (∀ i ∈ pre, listed.getD i false = true ∨ QF P ops N M E0 vals pre w1 i) → (∀ i ∈ flatP rest, listed.getD i false = false) →
      behindOk ops rest = true → Chg Nob wp w1 → DPR P ops Q N M rest (envAfter ops vals pre E0) wp → ((List.range ops.size).filter fun i => !listed.getD i false).length ≤ fuel → wpAny P .any ops Q fuel listed a w1 := by
    intro fuel
    induction fuel with
    | zero =>
      intro listed a w1 wp vals pre rest hS m hQ hrs hbe hpw hdl hf
      have hall : ∀ i, i < ops.size → listed.getD i false = true := by
        intro i hi
        have h0 := List.length_eq_zero_iff.1 (Nat.le_zero.1 hf)
        have : i ∉ (List.range ops.size).filter fun i => !listed.getD i false := by rw [h0]; simp
        simpa [hi] using this
      refine ⟨?_, fin listed a w1 wp vals pre rest hS m hrs hpw hdl hall⟩
      refine List.eq_nil_iff_forall_not_mem.2 fun i hi => ?_
      obtain ⟨h1, h2, _⟩ := mem_ready hi
      have h3 := hall i h1
      have : i < listed.size := by rw [m.sz]; exact h1
      simp [Array.getD_eq_getD_getElem?, this] at h2 h3
      rw [h2] at h3; cases h3
    | succ fuel ih =>
      intro listed a w1 wp vals pre rest hS m hQ hrs hbe hpw hdl hf
      refine ⟨fun hnil => fin listed a w1 wp vals pre rest hS m hrs hpw hdl (ready_nil m.sz hback hnil), fun i hi => ?_⟩
      obtain ⟨hilt, hno, hpre⟩ := mem_ready hi
      have hil : i < listed.size := by rw [m.sz]; exact hilt
      have hno' : listed.getD i false = false := by
        simp [Array.getD_eq_getD_getElem?, hil] at hno ⊢; exact hno
      have ho : ops[i]? = some ops[i] := Array.getElem?_eq_getElem hilt
      have hdo := dstOf_eq ho
      have hf' : ((List.range ops.size).filter fun j => !(listed.setIfInBounds i true).getD j false).length ≤ fuel := by
        have e1 : ((List.range ops.size).filter fun j => !(listed.setIfInBounds i true).getD j false) = ((List.range ops.size).filter fun j => !listed.getD j false).filter fun j => j != i := by
          rw [List.filter_filter]
          congr 1
          funext j
          rw [hgs listed i j hil]
          by_cases e : j = i <;> simp [e]
        rw [e1]
        have : (((List.range ops.size).filter fun j => !listed.getD j false).filter fun j => j != i).length < ((List.range ops.size).filter fun j => !listed.getD j false).length := by
          rw [List.length_filter_lt_length_iff_exists]
          exact ⟨i, List.mem_filter.2 ⟨by simpa using hilt, by rw [hno']; rfl⟩, by simp⟩
        omega
      have hiS := hin i hilt
      rw [hS] at hiS
      rcases List.mem_append.1 hiS with hip | hir
      · rcases hQ i hip with h1 | ⟨pr, post, hsp, hq⟩
        · rw [hno'] at h1; cases h1
        · have h1 := hq _ ho w1 (Chg.refl M w1)
          have hrep : Rep ops E0 vals pr (envAfter ops vals pr E0) := by simpa using (Rep.start ops E0 vals).after pr
          have hh := m.holds hsrc (pre := pr) (post := post ++ flatP rest) (i := i) (by rw [hS, hsp]; simp) hlt hrep hpre hno
          refine wpOp_mono ?_ (wpOp_of_WL ho hh (fun t ht => hNt i hilt t (by rw [hdo]; exact ht)) h1)
          rintro a' w' ⟨v, rfl, rfl, k⟩
          rw [← hdo]
          have hv : ∀ j, (if j = i then vals i else vals j) = vals j := fun j => by
            by_cases e : j = i
            · subst e; simp
            · simp [e]
          have hm' := m.put hilt hdst (hNt i hilt) hpre hno (vals i)
          simp only [hv] at hm'
          refine ih _ _ w' wp vals pre rest hS hm' (fun j hj => ?_) (fun j hj => ?_) hbe (hpw.pure k) hdl hf'
          · by_cases e : j = i
            · left
              rw [hgs listed i j hil, if_pos e]
            · rcases hQ j hj with h2 | ⟨pr2, post2, hsp2, hq2⟩
              · left
                rw [hgs listed i j hil, if_neg e]
                exact h2
              · exact .inr ⟨pr2, post2, hsp2, fun o ho w2 hw2 => hq2 o ho w2 ((k.mono (fun _ _ f => f.elim)).trans hw2 (fun _ _ hx => hx))⟩
          · have : j ≠ i := by
              rintro rfl
              rw [hS] at hnd
              exact (List.nodup_append.1 hnd).2.2 j hip j hj rfl
            rw [hgs listed i j hil, if_neg this]; exact hrs j hj
      · cases rest with
        | nil => cases hir
        | cons p t =>
          obtain ⟨r, C⟩ := p
          simp only [behindOk, Bool.and_eq_true] at hbe
          obtain ⟨hbe1, hbe2⟩ := hbe
          have hrl := hrs r (by simp [flatP])
          have hclo : ∀ i, listed.getD i false = true → ∀ j, before? ops j i = true → listed.getD j false = true := fun i hl j hb => m.clo i (hout listed m.sz i hl) hl j hb
          have hir2 : i = r := by
            rcases List.mem_cons.1 (show i ∈ r :: (C ++ flatP t) from hir) with h1 | h1
            · exact h1
            · exfalso
              have h2 : i ∈ closP ops (C ++ flatP t) [r] := by simpa using List.all_eq_true.1 hbe1 i h1
              refine closP_ready hclo hrl hpre (fun j hj => ?_) (fun hj => ?_) h2
              · have : j = r := by simpa using hj
                rw [this]; exact hrl
              · have : i = r := by simpa using hj
                rw [hS] at hnd
                have h5 := (List.nodup_append.1 hnd).2.1
                have h6 : r ∉ C ++ flatP t := (List.nodup_cons.1 (show (r :: (C ++ flatP t)).Nodup from h5)).1
                exact h6 (this ▸ h1)
          subst hir2
          have h1 := hdl w1 hpw _ ho
          have hrep : Rep ops E0 vals pre (envAfter ops vals pre E0) := by simpa using (Rep.start ops E0 vals).after pre
          have hh := m.holds hsrc (pre := pre) (post := C ++ flatP t) (i := i) (by rw [hS]; rfl) hlt hrep hpre hno
          refine wpOp_mono ?_ (wpOp_of_WL ho hh (fun t ht => hNt i hilt t (by rw [hdo]; exact ht)) h1)
          rintro a' w' ⟨v, rfl, hM', hdq⟩
          have hndS := hnd
          rw [hS] at hndS
          have hnd2 : (i :: (C ++ flatP t)).Nodup := (List.nodup_append.1 hndS).2.1
          have hnd3 := (List.nodup_cons.1 hnd2).2
          have hCn : C.Nodup := (List.nodup_append.1 hnd3).1
          have hiC : i ∉ C := fun hx => (List.nodup_cons.1 hnd2).1 (List.mem_append_left _ hx)
          have hpd : ∀ j ∈ pre, j ≠ i ∧ j ∉ C := fun j hj => ⟨fun e => (List.nodup_append.1 hndS).2.2 j hj j (by rw [e]; simp [flatP]) rfl, fun hx => (List.nodup_append.1 hndS).2.2 j hj j (by simp [flatP, hx]) rfl⟩
          obtain ⟨c, hnext, hqC⟩ := DPQ_spec hCn hdq
          have hm0 := m.put hilt hdst (hNt i hilt) hpre hno v
          rw [← hdo] at hnext hqC ⊢
          obtain ⟨vals', hv'⟩ : ∃ vals' : Nat → Value, vals' = fun j => if j = i then v else if j ∈ C then c j else vals j := ⟨_, rfl⟩
          have hvi : vals' i = v := by rw [hv']; simp
          have hvp : ∀ j ∈ pre, vals j = vals' j := fun j hj => by
            obtain ⟨h2, h3⟩ := hpd j hj
            rw [hv']
            simp [h2, h3]
          have hvC : ∀ j ∈ C, c j = vals' j := fun j hj => by
            have : j ≠ i := fun e => hiC (e ▸ hj)
            rw [hv']
            simp [this, hj]
          have hm' : Mid ops N E0 (listed.setIfInBounds i true) (a.put (dstOf ops i) v) vals' := hm0.cong (fun j hl => by
            rw [hgs listed i j hil] at hl
            by_cases e : j = i
            · rw [if_pos e, e, hvi]
            · rw [if_neg e] at hl ⊢
              have hjC : j ∉ C := fun hx => by
                have := hrs j (by simp [flatP, hx])
                rw [this] at hl; cases hl
              rw [hv']
              simp [e, hjC])
          have henv : ∀ pr, (∀ k ∈ pr, k ∈ C) → envAfter ops c pr (putE (envAfter ops vals pre E0) (dstOf ops i) v) = envAfter ops vals' (pre ++ i :: pr) E0 := fun pr hpr => by
            rw [envAfter_append, ← envAfter_congr ops vals vals' pre E0 hvp, envAfter_congr ops c vals' pr _ (fun k hk => hvC k (hpr k hk))]
            simp only [envAfter, hvi]
          refine ih _ _ w' w' vals' (pre ++ i :: C) t (by rw [hS]; simp [flatP]) hm' (fun j hj => ?_) (fun j hj => ?_) hbe2 (Chg.refl _ _) ?_ hf'
          · rcases List.mem_append.1 hj with hj | hj
            · rcases hQ j hj with h2 | ⟨pr2, post2, hsp2, hq2⟩
              · left
                rw [hgs listed i j hil, if_neg (hpd j hj).1]
                exact h2
              · refine .inr ⟨pr2, post2 ++ i :: C, by rw [hsp2]; simp, fun o ho w2 hw2 => ?_⟩
                have := hq2 o ho w2 (hM'.trans hw2 (fun _ _ hx => hx))
                rw [hvp j hj, envAfter_congr ops vals vals' pr2 E0 (fun k hk => hvp k (by rw [hsp2]; simp [hk]))] at this
                exact this
            · rcases List.mem_cons.1 hj with h2 | h2
              · left
                rw [hgs listed i j hil, if_pos h2]
              · obtain ⟨pr2, post2, hsp2⟩ := List.append_of_mem h2
                refine .inr ⟨pre ++ i :: pr2, post2, by rw [hsp2]; simp, fun o ho w2 hw2 => ?_⟩
                have := hqC pr2 j post2 hsp2 o ho w2 hw2
                rw [hvC j h2, henv pr2 (fun k hk => by rw [hsp2]; simp [hk])] at this
                exact this
          · have : j ≠ i := by
              rintro rfl
              exact (List.nodup_cons.1 hnd2).1 (List.mem_append_right _ hj)
            rw [hgs listed i j hil, if_neg this]; exact hrs j (by simp [flatP, hj])
          · rw [← henv C (fun k hk => hk)]
            exact hnext
  refine wp_region_any hm ?_
  have hndS := hnd
  rw [hSEQ] at hndS
  obtain ⟨c, hnext, hqC⟩ := DPQ_spec (List.nodup_append.1 hndS).1 h
  refine key ops.size _ a0 w.drew w.drew c C0 rest0 hSEQ ?_ (fun i hi => ?_) (fun i hi => ?_) hbeh0 (Chg.refl _ _) hnext ?_
  · refine ⟨by simp, ha0.size, ha0.defs, fun i hi hl => ?_, fun t v ht _ => ha0.env t v ht, fun i hi hl => ?_⟩
    · simp [Array.getD_eq_getD_getElem?, hi] at hl
    · simp [Array.getD_eq_getD_getElem?, hi] at hl
  · obtain ⟨pr, post, hsp⟩ := List.append_of_mem hi
    exact .inr ⟨pr, post, hsp, fun o ho w2 hw2 => hqC pr i post hsp o ho w2 hw2⟩
  · have hi' := hlt i (by rw [hSEQ]; simp [hi])
    simp [Array.getD_eq_getD_getElem?, hi']
  · refine Nat.le_trans (List.length_filter_le _ _) (by simp)
end
section
variable {P : Program} {ops : Array Oper} {Q : Exit → Act → World → Prop} {N : Nat} {M : Nat → Prop} {w0 w : World} {E E' : Env} {is : List Nat} {i r : Nat} {o : Oper} {next : Env → Prop} {C : List Nat} {t : List (Nat × List Nat)}
theorem DPQ.step {v : Value} (E' : Env) (ho : ops[i]? = some o) (hs : Sub E' E) (hk : (E'.all fun p => (looks ops i).contains p.1) = true)
    (h1 : ∀ w', Chg M w0 w' → WL P ops (One o.dst fun u w'' => u = v ∧ Chg Nob w' w'') N [o] E' w') (h2 : DPQ P ops N M w0 next is (putE E o.dst v)) : DPQ P ops N M w0 next (i :: is) E :=
  ⟨v, fun o' ho' w' hw => by rw [ho] at ho'; injection ho' with ho'; subst ho'; exact (h1 w' hw).sub (sub_restr hs hk), by rw [dstOf_eq ho]; exact h2⟩
theorem DPQ.split {b : Bool} (E' : Env) (ho : ops[i]? = some o) (hs : Sub E' E) (hk : (E'.all fun p => (looks ops i).contains p.1) = true)
    (h1 : ∀ w', Chg M w0 w' → WL P ops (One o.dst fun u w'' => u = .bool b ∧ Chg Nob w' w'') N [o] E' w') (ht : b = true → DPQ P ops N M w0 next is (putE E o.dst (.bool true))) (hf : b = false → DPQ P ops N M w0 next is (putE E o.dst (.bool false))) : DPQ P ops N M w0 next (i :: is) E :=
  DPQ.step E' ho hs hk h1 (by
    cases b
    · exact hf rfl
    · exact ht rfl)
theorem DPQ.done (h : next E) : DPQ P ops N M w0 next [] E := h
theorem DPR.step (E' : Env) (ho : ops[r]? = some o) (hs : Sub E' E) (hk : (E'.all fun p => (looks ops r).contains p.1) = true)
    (h1 : ∀ w', Chg Nob w w' → WL P ops (One o.dst fun v w'' => Chg M w' w'' ∧ DPQ P ops N M w'' (fun E2 => DPR P ops Q N M t E2 w'') C (putE E o.dst v)) N [o] E' w') : DPR P ops Q N M ((r, C) :: t) E w :=
  fun w' hw o' ho' => by rw [ho] at ho'; injection ho' with ho'; subst ho'; exact (h1 w' hw).sub (sub_restr hs hk)
theorem DPR.done (h : ∀ w', Chg Nob w w' → WX Q .normal N E w') : DPR P ops Q N M [] E w := h
end
end Go.HL
namespace Go.Proofs.YtjeldcjchipdgaaDoor
open Go.RowKit Go.HL
set_option maxRecDepth 100000

/-! a piece's sector -/
theorem and_even (n : Nat) (h : n < 18446744073709551616) : n &&& 18446744073709551614 = 2 * (n / 2) := by
  apply Nat.eq_of_testBit_eq
  intro j
  rw [Nat.testBit_and]
  cases j with
  | zero =>
    rw [show Nat.testBit 18446744073709551614 0 = false from by decide, Bool.and_false]
    simp [Nat.testBit_zero]
  | succ j =>
    have e1 : Nat.testBit 18446744073709551614 (j + 1) = Nat.testBit 9223372036854775807 j := by
      rw [Nat.testBit_succ]
    have e2 : (2 * (n / 2)).testBit (j + 1) = n.testBit (j + 1) := by
      rw [Nat.testBit_succ, Nat.testBit_succ, Nat.mul_div_cancel_left _ (by decide)]
    rw [e1, e2, show (9223372036854775807 : Nat) = 2 ^ 63 - 1 from rfl, Nat.testBit_two_pow_sub_one]
    by_cases hj : j < 63
    · simp [hj]
    · have : n.testBit (j + 1) = false := Nat.testBit_lt_two_pow (Nat.lt_of_lt_of_le h (Nat.pow_le_pow_right (n := 2) (i := 64) (by decide) (by omega)))
      simp [this]
theorem n_andnot1 {P : Program} (t : TypeId) (w : World) (a : Int) (ha : i64R a) : (binOp .andNot t (vi a) (vi 1)).run P w = .ok (vi (a - a % 2)) w := by
  obtain ⟨h0, h9⟩ := ha
  have h1 : IntKind.i64.wrap ((BitVec.ofInt 64 a &&& ~~~ (BitVec.ofInt 64 1)).toNat : Int) = a - a % 2 := by
    have e2 : (~~~ (BitVec.ofInt 64 1)).toNat = 18446744073709551614 := by decide
    have hlt := (BitVec.ofInt 64 a).isLt
    rw [BitVec.toNat_and, e2, and_even _ hlt, BitVec.toNat_ofInt]
    simp only [IntKind.wrap, IntKind.bits, IntKind.signed]
    simp
    omega
  rw [← h1]
  simp only [binOp, Op.intBits, IntKind.bits]
  simp only [ne_eq, not_true_eq_false, if_false, Sem.run_pure]
  rfl
theorem num_calls (n : Int) (w : World) : Calls Tryd.prog 98 [vi n].toArray w (Ret fun v w' => v = .agg (eit.f ⟨1, n, ⟨#[]⟩⟩).toArray ∧ Chg Nob w w') := by
  have kk := Chg.refl Nob w
  refine Calls.of_WC Tryd.func98 rfl Tryd.ntmps98 (by simp) ?_
  refine WC.seq (WC.region (?_))
  refine WL.alloc Tryd.zeroValue75 rfl ?_
  intro g_1 w_1 hge_1 hlt_1 hb_1 k_1
  have zs_k_1 := k_1.size
  replace kk := kk.pure k_1
  refine WL.nil (WX.then_normal (WC.seq (WC.region (WL.move rfl rfl (WL.bld rfl (bld_75_0_1 _ _) rfl (?_))))))
  refine WL.stores Tryd.sizeOf75 hb_1 rfl rfl (by simp; done) (by simp [Value.oneCell']; done) (by simp [Value.cells]; done) rfl ?_
  intro w_2 hs_2 hn_2 k_2
  have zs_k_2 := k_2.size
  replace kk := kk.chg k_2 (by intro x h1 h2; have h3 : _ = _ := h2; exfalso; omega)
  replace hb_1 := hn_2
  refine WL.nil (WX.then_normal (WC.ret (?_)))
  refine WX.ret1c (.inl rfl) Tryd.results98 Tryd.isAgg75 Tryd.sizeOf75 hb_1 rfl (by rfl) ?_
  exact ⟨_, rfl, rfl, kk⟩
theorem psector_calls (p : PcV) (w : World) : Calls Tryd.prog 75 [.agg (epc.f p).toArray].toArray w (Ret fun v w' => (∃ (ao : Option Addr) (c : Nat), v = .tuple #[.slice ao (secB (cit p)).length c, vi (secE (cit p))] ∧ Row (w.heap.size ≤ ·) w' 5 eb ao c (secB (cit p))) ∧ Chg Nob w w') := by
  have kk := Chg.refl Nob w
  refine Calls.of_WC Tryd.func75 rfl Tryd.ntmps75 (by simp) ?_
  refine WC.seq (WC.region (?_))
  refine WL.box rfl rfl ?_
  intro g_1 w_1 hge_1 hlt_1 hb_1 k_1
  have zs_k_1 := k_1.size
  replace kk := kk.pure k_1
  refine WL.assign rfl rfl (WL.assign rfl rfl (WL.nil (WX.then_normal (WC.seq (WC.region (WL.assign rfl rfl (WL.nil (?_))))))))
  refine WX.then_normal (WC.seq (?_))
  have hb1 : Blk _ g_1 108 (epc.f p) := hb_1
  refine WC.drawP (Nob) [0, 2, 3, 4, 6, 7, 8, 10, 11, 12, 14, 15, 16] [(1, []), (5, []), (9, []), (13, []), (17, []), (18, [19, 20, 21, 22])] mixed rfl rfl (fun wd_2 kd_2 zd_2 => ?_)
  have zs_kd_2 := kd_2.size
  replace kk := kk.pure kd_2
  replace hb1 := hb1.pure kd_2
  apply DPQ.step (E' := [(4, _)])
  case ho => rfl
  case hs => exact ⟨rfl, trivial⟩
  case hk => rfl
  case h1 =>
    intro wq_3 kq_3
    refine WL.move rfl rfl (?_)
    refine WL.nil ?_
    exact WX.one ⟨rfl, by exact Chg.refl _ _⟩
  apply DPQ.step (E' := [(4, _)])
  case ho => rfl
  case hs => exact ⟨rfl, trivial⟩
  case hk => rfl
  case h1 =>
    intro wq_4 kq_4
    refine WL.move rfl rfl (?_)
    refine WL.nil ?_
    exact WX.one ⟨rfl, by exact Chg.refl _ _⟩
  apply DPQ.step (E' := [(1, _)])
  case ho => rfl
  case hs => exact ⟨rfl, trivial⟩
  case hk => rfl
  case h1 =>
    intro wq_5 kq_5
    refine WL.fieldAddr (fld_108_0) rfl rfl (?_)
    refine WL.nil ?_
    exact WX.one ⟨rfl, by exact Chg.refl _ _⟩
  apply DPQ.step (E' := [(8, _)])
  case ho => rfl
  case hs => exact ⟨rfl, trivial⟩
  case hk => rfl
  case h1 =>
    intro wq_6 kq_6
    have zs_kq_6 := kq_6.size
    replace kk := kk.pure kq_6
    replace hb1 := hb1.pure kq_6
    refine WL.loadB Tryd.isAgg3 hb1 rfl rfl rfl (?_)
    refine WL.nil ?_
    exact WX.one ⟨rfl, by exact Chg.refl _ _⟩
  apply DPQ.step (E' := [(4, _)])
  case ho => rfl
  case hs => exact ⟨rfl, trivial⟩
  case hk => rfl
  case h1 =>
    intro wq_7 kq_7
    refine WL.move rfl rfl (?_)
    refine WL.nil ?_
    exact WX.one ⟨rfl, by exact Chg.refl _ _⟩
  apply DPQ.step (E' := [(1, _)])
  case ho => rfl
  case hs => exact ⟨rfl, trivial⟩
  case hk => rfl
  case h1 =>
    intro wq_8 kq_8
    refine WL.fieldAddr (fld_108_1) rfl rfl (?_)
    refine WL.nil ?_
    exact WX.one ⟨rfl, by exact Chg.refl _ _⟩
  apply DPQ.step (E' := [(12, _)])
  case ho => rfl
  case hs => exact ⟨rfl, trivial⟩
  case hk => rfl
  case h1 =>
    intro wq_9 kq_9
    have zs_kq_9 := kq_9.size
    replace kk := kk.pure kq_9
    replace hb1 := hb1.pure kq_9
    refine WL.loadB Tryd.isAgg3 hb1 rfl rfl rfl (?_)
    refine WL.nil ?_
    exact WX.one ⟨rfl, by exact Chg.refl _ _⟩
  apply DPQ.step (E' := [(4, _)])
  case ho => rfl
  case hs => exact ⟨rfl, trivial⟩
  case hk => rfl
  case h1 =>
    intro wq_10 kq_10
    refine WL.move rfl rfl (?_)
    refine WL.nil ?_
    exact WX.one ⟨rfl, by exact Chg.refl _ _⟩
  apply DPQ.step (E' := [(1, _)])
  case ho => rfl
  case hs => exact ⟨rfl, trivial⟩
  case hk => rfl
  case h1 =>
    intro wq_11 kq_11
    refine WL.fieldAddr (fld_108_2) rfl rfl (?_)
    refine WL.nil ?_
    exact WX.one ⟨rfl, by exact Chg.refl _ _⟩
  apply DPQ.step (E' := [(16, _)])
  case ho => rfl
  case hs => exact ⟨rfl, trivial⟩
  case hk => rfl
  case h1 =>
    intro wq_12 kq_12
    have zs_kq_12 := kq_12.size
    replace kk := kk.pure kq_12
    replace hb1 := hb1.pure kq_12
    refine WL.loadB Tryd.isAgg3 hb1 rfl rfl rfl (?_)
    refine WL.nil ?_
    exact WX.one ⟨rfl, by exact Chg.refl _ _⟩
  apply DPQ.step (E' := [(1, _)])
  case ho => rfl
  case hs => exact ⟨rfl, trivial⟩
  case hk => rfl
  case h1 =>
    intro wq_13 kq_13
    refine WL.fieldAddr (fld_108_3) rfl rfl (?_)
    refine WL.nil ?_
    exact WX.one ⟨rfl, by exact Chg.refl _ _⟩
  apply DPQ.step (E' := [(19, _)])
  case ho => rfl
  case hs => exact ⟨rfl, trivial⟩
  case hk => rfl
  case h1 =>
    intro wq_14 kq_14
    have zs_kq_14 := kq_14.size
    replace kk := kk.pure kq_14
    replace hb1 := hb1.pure kq_14
    refine WL.loadB Tryd.isAgg9 hb1 rfl rfl rfl (?_)
    refine WL.nil ?_
    exact WX.one ⟨rfl, by exact Chg.refl _ _⟩
  apply DPQ.step (E' := [(20, _)])
  case ho => rfl
  case hs => exact ⟨rfl, trivial⟩
  case hk => rfl
  case h1 =>
    intro wq_15 kq_15
    refine WL.bld rfl (bld_75_0_2 _ _) rfl (?_)
    refine WL.nil ?_
    exact WX.one ⟨rfl, by exact Chg.refl _ _⟩
  refine DPQ.done ?_
  refine DPR.step [(5, _)] rfl ⟨rfl, trivial⟩ rfl (fun wq_16 kq_16 => ?_)
  have zs_kq_16 := kq_16.size
  replace kk := kk.pure kq_16
  replace hb1 := hb1.pure kq_16
  have hd_16 := Chg.refl (Nob) wq_16
  refine WL.callv eg_98 rfl rfl rfl (num_calls 55 _) ?_
  rintro v w1 ⟨rfl, k1⟩
  have zs_k1 := k1.size
  replace kk := kk.pure k1
  replace hb1 := hb1.pure k1
  replace hd_16 := hd_16.pure k1
  refine WL.nil ?_
  refine WX.one ⟨hd_16, ?_⟩
  refine DPQ.done ?_
  refine DPR.step [(7, _), (9, _)] rfl ⟨rfl, rfl, trivial⟩ rfl (fun wq_17 kq_17 => ?_)
  have zs_kq_17 := kq_17.size
  replace kk := kk.pure kq_17
  replace hb1 := hb1.pure kq_17
  have hd_17 := Chg.refl (Nob) wq_17
  refine WL.callv eg_98 rfl rfl rfl (num_calls p.base _) ?_
  rintro v w1 ⟨rfl, k1⟩
  have zs_k1 := k1.size
  replace kk := kk.pure k1
  replace hb1 := hb1.pure k1
  replace hd_17 := hd_17.pure k1
  refine WL.nil ?_
  refine WX.one ⟨hd_17, ?_⟩
  refine DPQ.done ?_
  refine DPR.step [(11, _), (13, _)] rfl ⟨rfl, rfl, trivial⟩ rfl (fun wq_18 kq_18 => ?_)
  have zs_kq_18 := kq_18.size
  replace kk := kk.pure kq_18
  replace hb1 := hb1.pure kq_18
  have hd_18 := Chg.refl (Nob) wq_18
  refine WL.callv eg_98 rfl rfl rfl (num_calls p.num _) ?_
  rintro v w1 ⟨rfl, k1⟩
  have zs_k1 := k1.size
  replace kk := kk.pure k1
  replace hb1 := hb1.pure k1
  replace hd_18 := hd_18.pure k1
  refine WL.nil ?_
  refine WX.one ⟨hd_18, ?_⟩
  refine DPQ.done ?_
  refine DPR.step [(15, _), (17, _)] rfl ⟨rfl, rfl, trivial⟩ rfl (fun wq_19 kq_19 => ?_)
  have zs_kq_19 := kq_19.size
  replace kk := kk.pure kq_19
  replace hb1 := hb1.pure kq_19
  have hd_19 := Chg.refl (Nob) wq_19
  refine WL.callv eg_98 rfl rfl rfl (num_calls p.last _) ?_
  rintro v w1 ⟨rfl, k1⟩
  have zs_k1 := k1.size
  replace kk := kk.pure k1
  replace hb1 := hb1.pure k1
  replace hd_19 := hd_19.pure k1
  refine WL.nil ?_
  refine WX.one ⟨hd_19, ?_⟩
  refine DPQ.done ?_
  refine DPR.step [(6, _), (10, _), (14, _), (18, _), (21, _)] rfl ⟨rfl, rfl, rfl, rfl, rfl, trivial⟩ rfl (fun wq_20 kq_20 => ?_)
  have zs_kq_20 := kq_20.size
  replace kk := kk.pure kq_20
  replace hb1 := hb1.pure kq_20
  have hd_20 := Chg.refl (Nob) wq_20
  have hcl : (cit p).length = 5 := rfl
  refine WL.build (e := eit) [⟨1, 55, ⟨#[]⟩⟩, ⟨1, p.base, ⟨#[]⟩⟩, ⟨1, p.num, ⟨#[]⟩⟩, ⟨1, p.last, ⟨#[]⟩⟩, ⟨2, 0, p.text⟩] Tryd.underlying76 Tryd.sizeOf75 Tryd.zeroValue75 rfl rfl rfl (by simp [Value.cells] <;> (repeat' apply And.intro) <;> rfl) (by decide) rfl ?_
  intro a_ha w_ha ha l_ha z_ha k_ha
  have zs_k_ha := k_ha.size
  replace kk := kk.pure k_ha
  replace hb1 := hb1.pure k_ha
  replace hd_20 := hd_20.pure k_ha
  refine WL.nil ?_
  refine WX.one ⟨hd_20, ?_⟩
  refine DPQ.done ?_
  refine DPR.step [(22, _)] rfl ⟨rfl, trivial⟩ rfl (fun wq_21 kq_21 => ?_)
  have zs_kq_21 := kq_21.size
  replace kk := kk.pure kq_21
  replace hb1 := hb1.pure kq_21
  replace ha := ha.pure kq_21
  have hd_21 := Chg.refl (Nob) wq_21
  have ha2 := ha.rsl.old
  refine WL.call eg_37 rfl rfl (sector_calls ha2 (by simp)) ?_
  rintro v w2 ⟨⟨ax, cx, rfl, hx⟩, k2⟩
  rw [show ([⟨1, 55, ⟨#[]⟩⟩, ⟨1, p.base, ⟨#[]⟩⟩, ⟨1, p.num, ⟨#[]⟩⟩, ⟨1, p.last, ⟨#[]⟩⟩, ⟨2, 0, p.text⟩] : List Item) = cit p from rfl] at hx ⊢
  have zs_k2 := k2.size
  replace kk := kk.pure k2
  replace hb1 := hb1.pure k2
  replace ha := ha.pure k2
  replace hd_21 := hd_21.pure k2
  replace hx := hx.lt
  refine WL.nil ?_
  refine WX.one ⟨hd_21, ?_⟩
  apply DPQ.step (E' := [(23, _)])
  case ho => rfl
  case hs => exact ⟨rfl, trivial⟩
  case hk => rfl
  case h1 =>
    intro wq_22 kq_22
    refine WL.extract rfl rfl rfl (?_)
    refine WL.nil ?_
    exact WX.one ⟨rfl, by exact Chg.refl _ _⟩
  apply DPQ.step (E' := [(23, _)])
  case ho => rfl
  case hs => exact ⟨rfl, trivial⟩
  case hk => rfl
  case h1 =>
    intro wq_23 kq_23
    refine WL.extract rfl rfl rfl (?_)
    refine WL.nil ?_
    exact WX.one ⟨rfl, by exact Chg.refl _ _⟩
  apply DPQ.step (E' := [(24, _)])
  case ho => rfl
  case hs => exact ⟨rfl, trivial⟩
  case hk => rfl
  case h1 =>
    intro wq_24 kq_24
    refine WL.assign rfl rfl (?_)
    refine WL.nil ?_
    exact WX.one ⟨rfl, by exact Chg.refl _ _⟩
  apply DPQ.step (E' := [(25, _)])
  case ho => rfl
  case hs => exact ⟨rfl, trivial⟩
  case hk => rfl
  case h1 =>
    intro wq_25 kq_25
    refine WL.assign rfl rfl (?_)
    refine WL.nil ?_
    exact WX.one ⟨rfl, by exact Chg.refl _ _⟩
  refine DPQ.done ?_
  refine DPR.done (fun we_26 ke_26 => ?_)
  have zs_ke_26 := ke_26.size
  replace kk := kk.pure ke_26
  replace hb1 := hb1.pure ke_26
  replace ha := ha.pure ke_26
  replace hx := hx.pure ke_26
  refine WX.then_normal (WC.ret (?_))
  refine WX.ret2 (.inl rfl) Tryd.results75 rfl rfl ?_
  exact ⟨_, rfl, ⟨_, _, rfl, hx.mono (fun x hx => by omega)⟩, kk⟩
theorem need_calls (s : ByteArray) (w : World) (hs : s.size ≤ 140737488351232) : Calls Tryd.prog 26 [.string s].toArray w (Ret fun v w' => v = vi (needN s : Int) ∧ Chg Nob w w') := by
  have kk := Chg.refl Nob w
  refine Calls.of_WC Tryd.func26 rfl Tryd.ntmps26 (by simp) ?_
  refine WC.seq (WC.region (WL.assign rfl rfl (WL.nil (WX.then_normal (WC.seq (WC.region (WL.move rfl rfl (?_))))))))
  refine WL.lens Tryd.underlying9 rfl rfl (WL.add64 rfl rfl (by omega) rfl (WL.sub64 rfl rfl (by omega) rfl (WL.quo64i rfl rfl (by refine ⟨?_, ?_, ?_⟩ <;> omega) rfl (?_))))
  refine WL.maxi rfl rfl rfl ?_
  refine WL.assign rfl rfl (WL.nil (WX.then_normal (WC.ret (?_))))
  refine WX.ret1 (.inl rfl) Tryd.results26 rfl ?_
  refine ⟨_, rfl, ?_, kk⟩
  congr 1
  unfold needN
  split <;> omega
end Go.Proofs.YtjeldcjchipdgaaDoor
namespace Go.HL
open Go.RowKit
/-! what strings.Builder asks: pointers by way of unsafe.Pointer, texts over bytes that lie there -/
section
variable {P : Program} {ops : Array Oper} {Q : Exit → Act → World → Prop} {N : Nat} {E : Env} {w : World} {rest : List Oper}
  {d : Nat} {ty : TypeId} {pos : String} {af : Array Edge} {x y : Operand}
theorem Blk.shape {b : Nat} {e : TypeId} {cs : List Value} (h : Blk w b e cs) : w.shape? b = some (e, cs.length) := by
  unfold Blk at h
  simp [World.shape?, h]
theorem WL.neqSelf {t tb te : TypeId} {a : Addr} (hp : P.underlying t = some (.pointer te)) (hte : (P.info? te).isSome = true) (hx : ev E x = some (.pointer (some a))) (hy : ev E y = some (.pointer (some a))) (hd : Nat.blt d N = true) (h : WL P ops Q N rest ((d, .bool false) :: E) w) :
    WL P ops Q N (⟨some d, .binOp .neq t x y tb, ty, pos, af, none⟩ :: rest) E w :=
  WL.run _ w (fun a ha => by
    obtain ⟨j, hj⟩ := Option.isSome_iff_exists.1 hte
    simp [execOp, ev_eval ha hx, ev_eval ha hy, eqGuard, Lib.run_neq_ptr_same (P := P) w _ hp hj]) hd h
theorem WL.toUnsafe {src dst t e : TypeId} {b o : Nat} {cs : List Value} (hs : P.underlying src = some (.pointer t)) (hu : P.underlying dst = some .unsafePointer) (ht : ((P.info? t).map (·.size)).any (· != 0) = true) (hb : Blk w b e cs) (ho : o < cs.length)
    (hx : ev E x = some (.pointer (some ⟨b, o, none⟩))) (hd : Nat.blt d N = true) (h : WL P ops Q N rest ((d, .pointer (some ⟨b, o, none⟩)) :: E) w) :
    WL P ops Q N (⟨some d, .convert src dst x, ty, pos, af, none⟩ :: rest) E w :=
  WL.run _ w (fun a ha => by
    cases hj : P.info? t with
    | none => rw [hj] at ht; cases ht
    | some j =>
      rw [hj] at ht
      have h0 : j.size ≠ 0 := by simpa using ht
      simp [execOp, ev_eval ha hx, Lib.run_to_unsafe (P := P) w ⟨b, o, none⟩ hs hu hj h0 hb.shape ho]) hd h
theorem WL.fromUnsafe {src dst u e : TypeId} {b o : Nat} {cs : List Value} (hs : P.underlying src = some .unsafePointer) (hu : P.underlying dst = some (.pointer u)) (ht : (P.info? u).isSome = true) (hb : Blk w b e cs) (hl : liesAt P P.depth e (cs.length / P.cellsOf e) o u 1 = true)
    (hx : ev E x = some (.pointer (some ⟨b, o, none⟩))) (hd : Nat.blt d N = true) (h : WL P ops Q N rest ((d, .pointer (some ⟨b, o, none⟩)) :: E) w) :
    WL P ops Q N (⟨some d, .convert src dst x, ty, pos, af, none⟩ :: rest) E w :=
  WL.run _ w (fun a ha => by
    obtain ⟨j, hj⟩ := Option.isSome_iff_exists.1 ht
    simp [execOp, ev_eval ha hx, Lib.run_from_unsafe (P := P) w ⟨b, o, none⟩ hs hu hj hb.shape hl]) hd h
theorem WL.extern1 {f : FuncId} {fn : Func} {e : Array Value → Sem Value} {xs : List Operand} {us : List Value} {v : Value} {ats : Array TypeId} (hf : P.funcs[f]? = some fn) (hname : (fn.name == "runtime.NumGoroutine") = false) (hb : fn.body.isNone = true) (hn : Extern.findNext fn = none) (he : Extern.find fn = some e)
    (hr : (e us.toArray).run P w = .ok v w) (hx : evs E xs = some us) (hd : Nat.blt d N = true) (h : WL P ops Q N rest ((d, v) :: E) w) :
    WL P ops Q N (⟨some d, .call ⟨.value (.func f), xs.toArray, ats⟩, ty, pos, af, none⟩ :: rest) E w :=
  WL.run _ w (fun a ha => by
    have h1 := run_callFunc_extern (P := P) hf hname hb hn he us.toArray w
    rw [hr] at h1
    have h2 : (callFunc f us.toArray).run P w = .ok (.value v) w := h1
    simp only [execOp, resolve, Act.eval, Deferred.ofValue, List.map_toArray, evs_eval ha hx]
    simp [invoke, h2]) hd h
theorem Chg.freeze (w : World) (g o n : Nat) : Chg (· = g) w (w.freeze ⟨g, o, none⟩ n) := by
  unfold World.freeze
  split
  · exact Chg.refl _ _
  · refine ⟨rfl, rfl, rfl, by simp, fun k _ hk => ?_⟩
    simp only [Array.getElem?_modify]
    rw [if_neg (fun e => hk e.symm)]
/-- where a row's bytes lie -/
theorem WL.sliceData {t e : TypeId} {S : Nat → Prop} {T : TypeId} {ao : Option Addr} {c : Nat} {xs : List UInt8} (hp : P.underlying ty = some (.pointer e)) (hr : Row S w T eb ao c xs) (hx : ev E x = some (.slice ao xs.length c)) (hd : Nat.blt d N = true)
    (h : ∀ p w', Chg Nob w w' → (xs ≠ [] → p = ao ∧ w' = w) → WL P ops Q N rest ((d, .pointer p) :: E) w') :
    WL P ops Q N (⟨some d, .call ⟨.builtin .unsafeSliceData, #[x], #[t]⟩, ty, pos, af, none⟩ :: rest) E w := by
  rcases hr.own.2.2 with ⟨h1, h2⟩ | ⟨g, cur, fr, h1, h2, h3, h4, h5, h6⟩
  · subst h1
    refine WL.run (.pointer none) w (fun a ha => by simp [execOp, resolve, invoke, builtin, ev_eval ha hx, Lib.run_unsafeSliceData_nil]) hd (h none w (Chg.refl _ _) (fun _ => ⟨rfl, rfl⟩))
  · subst h1
    by_cases hc : c = 0
    · subst hc
      have hn : xs = [] := List.eq_nil_of_length_eq_zero (by have := hr.own.2.1; omega)
      refine WL.run (.pointer (some ⟨w.heap.size, 0, none⟩)) (w.alloc (.view ⟨g, 0, none⟩ e)) (fun a ha => ?_) hd (h _ _ (Chg.alloc _ _) (fun hx => absurd hn hx))
      have hsh : w.shape? (⟨g, 0, none⟩ : Addr).block = some (T, cur.size) := by simp [World.shape?, h2]
      simp [execOp, resolve, invoke, builtin, ev_eval ha hx, Lib.run_unsafeSliceData_zero (P := P) w #[t] ty e hp ⟨g, 0, none⟩ _ _ hsh]
    · refine WL.run (.pointer (some ⟨g, 0, none⟩)) w (fun a ha => by simp [execOp, resolve, invoke, builtin, ev_eval ha hx, Lib.run_unsafeSliceData_row (P := P) w #[t] ty ⟨g, 0, none⟩ _ c hc]) hd (h _ w (Chg.refl _ _) (fun _ => ⟨rfl, rfl⟩))
/-- the text of a row of one's own; its block is not to be written any longer -/
theorem WL.unsafeString {pt it e : TypeId} {S : Nat → Prop} {ao p : Option Addr} {c : Nat} {xs : List UInt8} (hp : P.underlying pt = some (.pointer e)) (hce : P.cellsOf e = 1) (hr : Row S w e eb ao c xs) (hpa : xs ≠ [] → p = ao) (hl : xs.length ≤ 9223372036854775807)
    (hx : ev E x = some (.pointer p)) (hy : ev E y = some (vi xs.length)) (hd : Nat.blt d N = true)
    (h : ∀ w', w'.heap.size = w.heap.size → Chg (fun b => Eqb ao b) w w' → WL P ops Q N rest ((d, .string ⟨xs.toArray⟩) :: E) w') :
    WL P ops Q N (⟨some d, .call ⟨.builtin .unsafeString, #[x, y], #[pt, it]⟩, ty, pos, af, none⟩ :: rest) E w := by
  by_cases hn : xs = []
  · subst hn
    refine WL.run (.string ⟨#[]⟩) w (fun a ha => ?_) hd (h w rfl (Chg.refl _ _))
    have := Lib.run_unsafeString_none (P := P) w pt it ty p
    simp [execOp, resolve, invoke, builtin, ev_eval ha hx, ev_eval ha hy]
    rw [this]
    rfl
  · have hpe := hpa hn
    subst hpe
    rcases hr.own.2.2 with ⟨h1, h2⟩ | ⟨g, cur, fr, h1, h2, h3, h4, h5, h6⟩
    · exfalso
      have := hr.own.2.1
      exact hn (List.eq_nil_of_length_eq_zero (by omega))
    · subst h1
      have hsh : w.shape? g = some (e, cur.size) := by simp [World.shape?, h2]
      have hcells : ∀ j z, xs[j]? = some z → w.cell? ((⟨g, 0, none⟩ : Addr).add j) = some (.int .u8 z.toNat) := fun j z hz => by
        have := hr.rsl.cellsAt hz
        have h9 := this 0 _ rfl
        rw [show 0 + j * eb.sz + 0 = 0 + j from by show 0 + j * 1 + 0 = 0 + j; omega] at h9
        rw [Addr.add_lit]
        exact h9
      have hrun := Lib.run_unsafeString_row (P := P) w pt it ty e hp hce g cur.size hsh xs hn (by have := hr.own.2.1; rw [h5]; show _ ≤ c * 1; omega) hl hcells
      refine WL.run (.string ⟨xs.toArray⟩) (w.freeze ⟨g, 0, none⟩ xs.length) (fun a ha => by simp [execOp, resolve, invoke, builtin, ev_eval ha hx, ev_eval ha hy, hrun]) hd (h _ (by unfold World.freeze; split <;> simp) ((Chg.freeze w g 0 xs.length).mono (fun b _ hb => ⟨_, rfl, hb⟩)))
theorem WX.ret3c {fn : Func} {R : Ending → World → Prop} {z : Exit} (hz : z = .ret ∨ z = .normal) {t u r T e : TypeId} {b k : Nat} {cs : List Value} {v v3 : Value} (h : fn.results = #[.cell t T, .tmp u, .tmp r]) (ha : ∀ w, (isAgg T).run P w = .ok true w) (hs : ∀ w, (sizeOf T).run P w = .ok k w) (hb : Blk w b e cs) (hv : E.lookup t = some (.pointer (some ⟨b, 0, none⟩))) (hk : cs.length = k)
    (hu : E.lookup u = some v) (hr : E.lookup r = some v3) (hR : R (.returned (.tuple #[.agg cs.toArray, v, v3])) w) : WX (bodyPost P fn R) z N E w :=
  WX.retOf hz _ (fun a hh => by
    have h1 := getD_of hh hv
    have h3 := getD_of hh hu
    have h4 := getD_of hh hr
    simp only [Array.getD_eq_getD_getElem?] at h1 h3 h4
    have h2 := run_loadVarB ha hs hb hk
    simp [results, h, h1, h3, h4, asAddr, h2]) hR
end
end Go.HL
namespace Go.Proofs.YtjeldcjchipdgaaDoor
open Go.RowKit Go.HL
set_option maxRecDepth 100000

/-! a strings.Builder of one's own -/
structure Bd (S : Nat → Prop) (w : World) (B : Nat) (acc : List UInt8) : Prop where
  sB : S B
  ex : ∃ (pa ao : Option Addr) (c : Nat), Blk w B 106 [.pointer pa, .slice ao acc.length c] ∧ (pa = none ∨ pa = some ⟨B, 0, none⟩) ∧ Row (fun x => S x ∧ x ≠ B) w 5 eb ao c acc
theorem Bd.pure {S : Nat → Prop} {w w' : World} {B : Nat} {acc : List UInt8} (h : Bd S w B acc) (k : Chg Nob w w') : Bd S w' B acc := by
  obtain ⟨pa, ao, c, h1, h2, h3⟩ := h.ex
  exact ⟨h.sB, pa, ao, c, h1.chg k (fun x => x), h2, h3.pure k⟩
theorem Bd.chg {S M : Nat → Prop} {w w' : World} {B : Nat} {acc : List UInt8} (h : Bd S w B acc) (k : Chg M w w') (hd : ∀ b, b < w.heap.size → S b → M b → False) : Bd S w' B acc := by
  obtain ⟨pa, ao, c, h1, h2, h3⟩ := h.ex
  exact ⟨h.sB, pa, ao, c, h1.chg k (fun x => hd B h1.lt h.sB x), h2, h3.chg k (fun b hb hs hm => hd b hb hs.1 hm)⟩
theorem Bd.mono {S S' : Nat → Prop} {w : World} {B : Nat} {acc : List UInt8} (h : Bd S w B acc) (k : ∀ b, S b → S' b) : Bd S' w B acc := by
  obtain ⟨pa, ao, c, h1, h2, h3⟩ := h.ex
  exact ⟨k _ h.sB, pa, ao, c, h1, h2, h3.mono (fun b hb => ⟨k b hb.1, hb.2⟩)⟩
theorem Bd.old {S : Nat → Prop} {w : World} {B : Nat} {acc : List UInt8} (h : Bd S w B acc) : Bd (fun b => S b ∧ b < w.heap.size) w B acc := by
  obtain ⟨pa, ao, c, h1, h2, h3⟩ := h.ex
  exact ⟨⟨h.sB, h1.lt⟩, pa, ao, c, h1, h2, h3.lt.mono (fun b hb => ⟨⟨hb.1.1, hb.2⟩, hb.1.2⟩)⟩
/-- a fresh one -/
theorem Bd.new {w : World} {B : Nat} (h : Blk w B 106 [.pointer none, .slice none 0 0]) : Bd (· = B) w B [] := ⟨rfl, none, none, 0, h, .inl rfl, Row.nil _ _ _ _⟩
theorem bcopy0_calls {w : World} {B : Nat} {v : Value} (h : Blk w B 106 [.pointer none, v]) :
    Calls Tryd.prog 74 [ptr B].toArray w (Ret fun r w' => r = .tuple #[] ∧ Blk w' B 106 [ptr B, v] ∧ Chg (· = B) w w') := by
  have hw := Chg.refl (· = B) w
  refine Calls.of_WC Tryd.func74 rfl Tryd.ntmps74 (by simp) ?_
  refine WC.seq (WC.region (WL.move rfl rfl (WL.nilCheck rfl rfl (WL.fieldAddr (fld_106_0) rfl rfl (WL.loadB Tryd.isAgg104 h rfl rfl rfl (?_))))))
  refine WL.ptrNil Tryd.underlying104 rfl rfl rfl ?_
  refine WL.nil (WX.then_normal (WC.cond_true rfl (WC.region (WL.move rfl rfl (WL.move rfl rfl (?_))))))
  refine WL.toUnsafe Tryd.underlying104 Tryd.underlying153 (by kernel_rfl) h (by simp) rfl rfl ?_
  refine WL.extern1 Tryd.func97 (by kernel_rfl) (by kernel_rfl) (by kernel_rfl) (e := Extern.AbiNoEscape.same) (by kernel_rfl) (Lib.run_noEscape _ _) rfl rfl ?_
  refine WL.fromUnsafe Tryd.underlying153 Tryd.underlying104 (by kernel_rfl) h (by kernel_rfl) rfl rfl ?_
  refine WL.nilCheck rfl rfl (WL.fieldAddr (fld_106_0) rfl rfl (?_))
  refine WL.store Tryd.sizeOf104 h rfl rfl rfl rfl ?_
  intro w_1 hs_1 hn_1 k_1
  have zs_k_1 := k_1.size
  replace hw := hw.chg k_1 (by intro x h1 h2; exact h2)
  replace h := hn_1
  refine WL.nil (?_)
  refine WX.ret0 (.inr rfl) Tryd.results74 ?_
  exact ⟨_, rfl, rfl, h, hw⟩
theorem bcopy1_calls {w : World} {B : Nat} {v : Value} (h : Blk w B 106 [ptr B, v]) :
    Calls Tryd.prog 74 [ptr B].toArray w (Ret fun r w' => r = .tuple #[] ∧ Blk w' B 106 [ptr B, v] ∧ Chg (· = B) w w') := by
  have hw := Chg.refl (· = B) w
  refine Calls.of_WC Tryd.func74 rfl Tryd.ntmps74 (by simp) ?_
  refine WC.seq (WC.region (WL.move rfl rfl (WL.nilCheck rfl rfl (WL.fieldAddr (fld_106_0) rfl rfl (WL.loadB Tryd.isAgg104 h rfl rfl rfl (?_))))))
  refine WL.ptrNil Tryd.underlying104 rfl rfl rfl ?_
  refine WL.nil (WX.then_normal (WC.cond_false rfl (WC.seq (WC.region (WL.move rfl rfl (WL.nilCheck rfl rfl (WL.fieldAddr (fld_106_0) rfl rfl (?_))))))))
  refine WL.loadB Tryd.isAgg104 h rfl rfl rfl (WL.move rfl rfl (?_))
  refine WL.neqSelf Tryd.underlying104 (by kernel_rfl) rfl rfl rfl ?_
  refine WL.nil (WX.then_normal (WC.cond_false rfl (WC.skip (?_))))
  refine WX.ret0 (.inr rfl) Tryd.results74 ?_
  exact ⟨_, rfl, rfl, h, hw⟩
theorem bcopy_calls {w : World} {B : Nat} {pa : Option Addr} {v : Value} (h : Blk w B 106 [.pointer pa, v]) (hp : pa = none ∨ pa = some ⟨B, 0, none⟩) :
    Calls Tryd.prog 74 [ptr B].toArray w (Ret fun r w' => r = .tuple #[] ∧ Blk w' B 106 [ptr B, v] ∧ Chg (· = B) w w') := by
  rcases hp with rfl | rfl
  · exact bcopy0_calls h
  · exact bcopy1_calls h
theorem bwrite_calls {S : Nat → Prop} {w : World} {B : Nat} {acc : List UInt8} (h : Bd S w B acc) (s : ByteArray) (hl : acc.length + s.size ≤ 140737488355000) :
    Calls Tryd.prog 55 [ptr B, .string s].toArray w (Ret fun r w' => r = .tuple #[vi s.size, .nilIface] ∧ Bd (fun x => S x ∨ w.heap.size ≤ x) w' B (acc ++ s.data.toList) ∧ Chg S w w') := by
  have sB := h.sB
  obtain ⟨pa, ao, c, hB, hpa, hr⟩ := h.ex
  have hw := Chg.refl S w
  have hBl := hB.lt
  have hsl : s.data.toList.length = s.size := by simp
  refine Calls.of_WC Tryd.func55 rfl Tryd.ntmps55 (by simp) ?_
  refine WC.seq (WC.region (WL.assign rfl rfl (WL.assign rfl rfl (WL.nil (WX.then_normal (WC.seq (WC.region (?_))))))))
  refine WL.move rfl rfl (?_)
  refine WL.call eg_74 rfl rfl (bcopy_calls hB hpa) ?_
  rintro v w1 ⟨rfl, hB1, k1⟩
  replace hr := hr.chg k1 (fun b _ h1 h2 => h1.2 h2)
  replace hw := hw.trans k1 (fun b _ h2 => by rw [show b = B from h2]; exact sB)
  have z1 := k1.size
  refine WL.nil (WX.then_normal (WC.seq (WC.region (WL.move rfl rfl (WL.move rfl rfl (WL.nilCheck rfl rfl (WL.fieldAddr (fld_106_1) rfl rfl (?_))))))))
  refine WL.loadB Tryd.isAgg26 hB1 rfl rfl rfl (WL.move rfl rfl (?_))
  replace hr := hr.mono (S' := fun x => (S x ∨ w.heap.size ≤ x) ∧ x ≠ B) (fun x hx => ⟨.inl hx.1, hx.2⟩)
  refine WL.append (e := eb) info_5 rfl Tryd.underlying26 rfl rfl hr (src_string _ Tryd.underlying9) (by rw [hsl]; constructor <;> omega) (by intro b hb; first | (apply hS; omega) | ((try dsimp only); omega)) rfl ?_
  intro a_hq c_hq w_hq hq g_hq n_hq
  have z_hq := g_hq.chg.size
  have zs_g_hq_chg := g_hq.chg.size
  replace hB1 := hB1.chg g_hq.chg (by intro h1; exfalso; have h4 := h1.2; (try dsimp only at *); omega)
  have hw2 : Chg S w w_hq := hw.trans g_hq.chg (fun b h1 h2 => h2.2.1.elim (fun h => h) (fun h => by omega))
  refine WL.nilCheck rfl rfl (WL.fieldAddr (fld_106_1) rfl rfl (?_))
  refine WL.store Tryd.sizeOf26 hB1 rfl rfl rfl rfl ?_
  intro w_1 hs_1 hn_1 k_1
  have zs_k_1 := k_1.size
  replace hq := hq.chg k_1 (by intro b h1 h2 h3; have h4 : _ = _ := h3; (try dsimp only at h2); exfalso; omega)
  replace hw2 := hw2.chg k_1 (by intro x h1 h2; have h3 : _ = _ := h2; subst h3; assumption)
  replace hB1 := hn_1
  refine WL.nil (WX.then_normal (WC.seq (WC.region (WL.move rfl rfl (WL.lens Tryd.underlying9 rfl rfl (WL.assign rfl rfl (WL.assign rfl rfl (?_))))))))
  refine WL.nil (WX.then_normal (WC.ret (?_)))
  refine WX.ret2 (.inl rfl) Tryd.results55 rfl rfl ?_
  refine ⟨_, rfl, rfl, ⟨.inl sB, _, _, _, hB1, .inr rfl, hq⟩, hw2⟩
theorem bstring_calls {S : Nat → Prop} {w : World} {B : Nat} {acc : List UInt8} (h : Bd S w B acc) (hl : acc.length ≤ 140737488355000) :
    Calls Tryd.prog 56 [ptr B].toArray w (Ret fun r w' => r = .string (bs acc) ∧ (∃ u v, Blk w' B 106 [u, v]) ∧ Chg S w w') := by
  have sB := h.sB
  obtain ⟨pa, ao, c, hB, hpa, hr⟩ := h.ex
  have hw := Chg.refl S w
  refine Calls.of_WC Tryd.func56 rfl Tryd.ntmps56 (by simp) ?_
  refine WC.seq (WC.region (WL.assign rfl rfl (WL.nil (WX.then_normal (WC.seq (?_))))))
  refine WC.draw ((fun x => S x ∧ x ≠ B)) [0, 1, 2, 3, 5, 6, 7, 8, 9] [4, 10, 11] mixed rfl rfl (fun wd_1 kd_1 zd_1 => ?_)
  have zs_kd_1 := kd_1.size
  replace hB := hB.pure kd_1
  replace hr := hr.pure kd_1
  replace hw := hw.pure kd_1
  apply DQ.step (E' := [(0, _)])
  case ho => rfl
  case hs => exact ⟨rfl, trivial⟩
  case hk => rfl
  case h1 =>
    intro wq_3 kq_3
    refine WL.move rfl rfl (?_)
    refine WL.nil ?_
    exact WX.one ⟨rfl, by exact Chg.refl _ _⟩
  apply DQ.step (E' := [(3, _)])
  case ho => rfl
  case hs => exact ⟨rfl, trivial⟩
  case hk => rfl
  case h1 =>
    intro wq_4 kq_4
    refine WL.nilCheck rfl rfl (?_)
    refine WL.nil ?_
    exact WX.one ⟨rfl, by exact Chg.refl _ _⟩
  apply DQ.step (E' := [(4, _)])
  case ho => rfl
  case hs => exact ⟨rfl, trivial⟩
  case hk => rfl
  case h1 =>
    intro wq_5 kq_5
    refine WL.fieldAddr (fld_106_1) rfl rfl (?_)
    refine WL.nil ?_
    exact WX.one ⟨rfl, by exact Chg.refl _ _⟩
  apply DQ.step (E' := [(5, _)])
  case ho => rfl
  case hs => exact ⟨rfl, trivial⟩
  case hk => rfl
  case h1 =>
    intro wq_6 kq_6
    have zs_kq_6 := kq_6.size
    replace hB := hB.chg kq_6 (by intro h1; exfalso; have h4 := h1.2; (try dsimp only at *); omega)
    refine WL.loadB Tryd.isAgg26 hB rfl rfl rfl (?_)
    refine WL.nil ?_
    exact WX.one ⟨rfl, by exact Chg.refl _ _⟩
  apply DQ.step (E' := [(0, _)])
  case ho => rfl
  case hs => exact ⟨rfl, trivial⟩
  case hk => rfl
  case h1 =>
    intro wq_7 kq_7
    refine WL.move rfl rfl (?_)
    refine WL.nil ?_
    exact WX.one ⟨rfl, by exact Chg.refl _ _⟩
  apply DQ.step (E' := [(8, _)])
  case ho => rfl
  case hs => exact ⟨rfl, trivial⟩
  case hk => rfl
  case h1 =>
    intro wq_8 kq_8
    refine WL.nilCheck rfl rfl (?_)
    refine WL.nil ?_
    exact WX.one ⟨rfl, by exact Chg.refl _ _⟩
  apply DQ.step (E' := [(9, _)])
  case ho => rfl
  case hs => exact ⟨rfl, trivial⟩
  case hk => rfl
  case h1 =>
    intro wq_9 kq_9
    refine WL.fieldAddr (fld_106_1) rfl rfl (?_)
    refine WL.nil ?_
    exact WX.one ⟨rfl, by exact Chg.refl _ _⟩
  apply DQ.step (E' := [(10, _)])
  case ho => rfl
  case hs => exact ⟨rfl, trivial⟩
  case hk => rfl
  case h1 =>
    intro wq_10 kq_10
    have zs_kq_10 := kq_10.size
    replace hB := hB.chg kq_10 (by intro h1; exfalso; have h4 := h1.2; (try dsimp only at *); omega)
    refine WL.loadB Tryd.isAgg26 hB rfl rfl rfl (?_)
    refine WL.nil ?_
    exact WX.one ⟨rfl, by exact Chg.refl _ _⟩
  apply DQ.step (E' := [(11, _)])
  case ho => rfl
  case hs => exact ⟨rfl, trivial⟩
  case hk => rfl
  case h1 =>
    intro wq_11 kq_11
    have zs_kq_11 := kq_11.size
    replace hB := hB.chg kq_11 (by intro h1; exfalso; have h4 := h1.2; (try dsimp only at *); omega)
    refine WL.len Tryd.underlying26 rfl rfl (?_)
    refine WL.nil ?_
    exact WX.one ⟨rfl, by exact Chg.refl _ _⟩
  refine DQ.done (fun hd_2 => ?_)
  refine DL.step [(6, _)] rfl ⟨rfl, trivial⟩ rfl (fun wq_12 kq_12 => ?_)
  have zs_kq_12 := kq_12.size
  replace hB := hB.pure kq_12
  replace hr := hr.pure kq_12
  replace hw := hw.pure kq_12
  replace hd_2 := hd_2.pure kq_12
  refine WL.sliceData Tryd.underlying128 hr rfl rfl ?_
  intro p w7 k7 hp7
  have zs_k7 := k7.size
  replace hB := hB.pure k7
  replace hr := hr.pure k7
  replace hw := hw.pure k7
  replace hd_2 := hd_2.pure k7
  refine WL.nil ?_
  refine WX.one ⟨hd_2, ?_⟩
  refine DL.step [(7, _), (12, _)] rfl ⟨rfl, rfl, trivial⟩ rfl (fun wq_13 kq_13 => ?_)
  have zs_kq_13 := kq_13.size
  replace hB := hB.pure kq_13
  replace hr := hr.pure kq_13
  replace hw := hw.pure kq_13
  replace hd_2 := hd_2.pure kq_13
  refine WL.unsafeString Tryd.underlying128 (by kernel_rfl) hr (fun hne => (hp7 hne).1) (by omega) rfl rfl rfl ?_
  intro w8 z8 k8
  have k9 := k8.mono (M' := fun x => S x ∧ x ≠ B) (fun b _ hb => hr.at_.eqb hb)
  have zs_k9 := k9.size
  replace hB := hB.chg k9 (by intro h1; exfalso; have h4 := h1.2; (try dsimp only at *); omega)
  replace hw := hw.chg k9 (by intro x h1 h2; exact h2.1)
  replace hd_2 := hd_2.chg k9 (by intro x h1 h2; exact h2)
  refine WL.nil ?_
  refine WX.one ⟨hd_2, ?_⟩
  refine DL.step [(13, _)] rfl ⟨rfl, trivial⟩ rfl (fun wq_14 kq_14 => ?_)
  have zs_kq_14 := kq_14.size
  replace hB := hB.pure kq_14
  replace hw := hw.pure kq_14
  replace hd_2 := hd_2.pure kq_14
  refine WL.assign rfl rfl (?_)
  refine WL.nil ?_
  refine WX.one ⟨hd_2, ?_⟩
  refine DL.done (fun we_15 ke_15 => ?_)
  have zs_ke_15 := ke_15.size
  replace hB := hB.pure ke_15
  replace hw := hw.pure ke_15
  replace hd_2 := hd_2.pure ke_15
  refine WX.then_normal (WC.ret (?_))
  refine WX.ret1 (.inl rfl) Tryd.results56 rfl ?_
  exact ⟨_, rfl, rfl, ⟨_, _, hB⟩, hw⟩
theorem breset_calls {w : World} {B : Nat} {u v : Value} (h : Blk w B 106 [u, v]) :
    Calls Tryd.prog 57 [ptr B].toArray w (Ret fun r w' => r = .tuple #[] ∧ Bd (· = B) w' B [] ∧ Chg (· = B) w w') := by
  have hw := Chg.refl (· = B) w
  refine Calls.of_WC Tryd.func57 rfl Tryd.ntmps57 (by simp) ?_
  refine WC.seq (WC.region (WL.move rfl rfl (WL.nilCheck rfl rfl (WL.fieldAddr (fld_106_0) rfl rfl (?_)))))
  refine WL.store Tryd.sizeOf104 h rfl rfl rfl rfl ?_
  intro w_1 hs_1 hn_1 k_1
  have zs_k_1 := k_1.size
  replace hw := hw.chg k_1 (by intro x h1 h2; exact h2)
  replace h := hn_1
  refine WL.nil (WX.then_normal (WC.region (WL.move rfl rfl (WL.nilCheck rfl rfl (WL.fieldAddr (fld_106_1) rfl rfl (?_))))))
  refine WL.store Tryd.sizeOf26 h rfl rfl rfl rfl ?_
  intro w_2 hs_2 hn_2 k_2
  have zs_k_2 := k_2.size
  replace hw := hw.chg k_2 (by intro x h1 h2; exact h2)
  replace h := hn_2
  refine WL.nil (?_)
  refine WX.ret0 (.inr rfl) Tryd.results57 ?_
  exact ⟨_, rfl, rfl, Bd.new h, hw⟩
end Go.Proofs.YtjeldcjchipdgaaDoor
namespace Go.Proofs.YtjeldcjchipdgaaDoor
open Go.RowKit Go.HL
set_option maxRecDepth 100000

set_option maxHeartbeats 2000000 in
/-- the piece of a sector -/
theorem parse_calls {w : World} {ao : Option Addr} {c : Nat} {b : List UInt8} (hr : RSl (· < w.heap.size) w eb ao c b) (hl : b.length ≤ 140737488351232) :
    Calls Tryd.prog 73 [.slice ao b.length c].toArray w (Ret fun v w' => (∃ p : PcV, v = .tuple #[.agg (epc.f p).toArray, .bool (pcD b).isSome] ∧ (∀ q, pcD b = some q → p = q)) ∧ Chg Nob w w') := by
  have kk := Chg.refl Nob w
  refine Calls.of_WC Tryd.func73 rfl Tryd.ntmps73 (by simp) ?_
  refine WC.seq (WC.region (?_))
  refine WL.alloc Tryd.zeroValue108 rfl ?_
  intro g_1 w_1 hge_1 hlt_1 hb_1 k_1
  have zs_k_1 := k_1.size
  replace hr := hr.pure k_1
  replace kk := kk.pure k_1
  refine WL.assign rfl rfl (WL.nil (WX.then_normal (WC.seq (WC.region (WL.move rfl rfl (?_))))))
  have hr1 := hr.old
  refine WL.call eg_40 rfl rfl (unsector_calls hr1 (by omega)) ?_
  rintro v w1 ⟨⟨a1, c1, rfl, hq⟩, k1⟩
  have hg : ∀ i ∈ unL b, Good i := un_good
  obtain ⟨L, eL⟩ : ∃ L, L = unL b := ⟨_, rfl⟩
  rw [← eL] at hq hg ⊢
  have zs_k1 := k1.size
  replace hr := hr.pure k1
  replace kk := kk.pure k1
  replace hb_1 := hb_1.pure k1
  replace hq := hq.lt
  refine WL.move rfl rfl (WL.extract rfl rfl rfl (WL.extract rfl rfl rfl (WL.assign rfl rfl (WL.assign rfl rfl (WL.nil (WX.then_normal (WC.seq (?_))))))))
  refine WC.seq (WC.region (WL.move rfl rfl (?_)))
  refine WL.neq? rfl rfl rfl (fun h14 => ?_) (fun h14 => ?_)
  ·
    refine WL.move rfl rfl (WL.pass rfl rfl rfl rfl (WL.pass rfl rfl rfl rfl (WL.pass rfl rfl rfl rfl (WL.pickT rfl rfl rfl (WL.move rfl rfl (WL.pass rfl rfl rfl rfl (WL.pass rfl rfl rfl rfl (?_))))))))
    refine WL.pass rfl rfl rfl rfl (WL.pass rfl rfl rfl rfl (WL.pass rfl rfl rfl rfl (WL.pickT rfl rfl rfl (WL.move rfl rfl (WL.pass rfl rfl rfl rfl (WL.pass rfl rfl rfl rfl (WL.pass rfl rfl rfl rfl (?_))))))))
    refine WL.pass rfl rfl rfl rfl (WL.pass rfl rfl rfl rfl (WL.pass rfl rfl rfl rfl (WL.pickT rfl rfl rfl (WL.nil (WX.then_normal (WC.cond_true rfl (WC.seq (?_))))))))
    refine WC.region (WL.bld rfl (bld_108_z) rfl (?_))
    refine WL.stores Tryd.sizeOf108 hb_1 rfl rfl (by simp; done) (by simp [Value.oneCell']; done) (by simp [Value.cells]; done) rfl ?_
    intro w_2 hs_2 hn_2 k_2
    have zs_k_2 := k_2.size
    replace hr := hr.chg k_2 (by intro b h1 h2 h3; have h4 : _ = _ := h3; (try dsimp only at h2); exfalso; omega)
    replace kk := kk.chg k_2 (by intro x h1 h2; have h3 : _ = _ := h2; exfalso; omega)
    replace hq := hq.chg k_2 (by intro b h1 h2 h3; have h4 : _ = _ := h3; (try dsimp only at h2); exfalso; omega)
    replace hb_1 := hn_2
    refine WL.assign rfl rfl (WL.nil (WX.then_normal (WC.ret (WX.then_ret (?_)))))
    refine WX.ret2c (.inl rfl) Tryd.results73 Tryd.isAgg108 Tryd.sizeOf108 hb_1 rfl (by rfl) rfl ?_
    first
      | (have hd := pcD_five (b := b) h14 (eL ▸ hL)
         have h9 : i0.n = 55 := h69
         by_cases hc : kinds5 i0 i1 i2 i3 i4
         ·
           rw [if_pos hc] at hd
           refine ⟨_, rfl, ⟨⟨i1.n, i2.n, i3.n, i4.s⟩, ?_, fun q hq9 => ?_⟩, kk⟩
           ·
             rw [hd]
             have h8 : decide (i3.n - i3.n % 2 = 0) = true := decide_eq_true (by have := hc.2.2; omega)
             rw [h8]
             rfl
           ·
             rw [hd] at hq9
             injection hq9
         ·
           rw [if_neg hc] at hd
           refine ⟨_, rfl, ⟨⟨i1.n, i2.n, i3.n, i4.s⟩, ?_, fun q hq9 => ?_⟩, kk⟩
           ·
             rw [hd]
             have h8 : decide (i3.n - i3.n % 2 = 0) = false := decide_eq_false (fun h => hc ⟨⟨k0, k1, k2, k3, by omega, by omega⟩, h9, by omega⟩)
             rw [h8]
             rfl
           ·
             rw [hd] at hq9
             cases hq9)
      | (have hd := pcD_five (b := b) h14 (eL ▸ hL)
         have h9 : ¬ i0.n = 55 := h69
         rw [if_neg (fun hc => h9 hc.2.1)] at hd
         refine ⟨_, rfl, ⟨⟨i1.n, i2.n, i3.n, i4.s⟩, by rw [hd]; rfl, fun q hq9 => by rw [hd] at hq9; cases hq9⟩, kk⟩)
      | (have hz : unE b ≠ 0 := h14
         have hd := pcD_bad (b := b) (.inl hz)
         refine ⟨_, rfl, ⟨zeroC, by rw [hd]; rfl, fun q hq9 => by rw [hd] at hq9; cases hq9⟩, kk⟩)
      | (have hz : (L.length : Int) ≠ 5 := h18
         have hd := pcD_bad (b := b) (.inr (fun h9 => hz (by rw [eL, h9]; rfl)))
         refine ⟨_, rfl, ⟨zeroC, by rw [hd]; rfl, fun q hq9 => by rw [hd] at hq9; cases hq9⟩, kk⟩)
      | (have hd := pcD_five (b := b) h14 (eL ▸ hL)
         have hd2 : pcD b = none := by
           rw [hd, if_neg]
           rintro ⟨⟨c0, c1, c2, c3, c4, c5⟩, c6, c7⟩
           first
             | omega
             | (have hjk : j = 0 ∨ j = 1 ∨ j = 2 ∨ j = 3 := by omega
                rcases hjk with rfl | rfl | rfl | rfl
                ·
                  rw [hi0] at hx; injection hx with hx; subst hx; omega
                ·
                  rw [hi1] at hx; injection hx with hx; subst hx; omega
                ·
                  rw [hi2] at hx; injection hx with hx; subst hx; omega
                ·
                  rw [hi3] at hx; injection hx with hx; subst hx; omega)
         refine ⟨_, rfl, ⟨zeroC, by rw [hd2]; rfl, fun q hq9 => by rw [hd2] at hq9; cases hq9⟩, kk⟩)
  ·
    refine WL.move rfl rfl (WL.want rfl rfl rfl (WL.move rfl rfl (WL.want rfl rfl rfl (WL.len Tryd.underlying76 rfl rfl (WL.want rfl rfl rfl (?_))))))
    refine WL.neq? rfl rfl rfl (fun h18 => ?_) (fun h18 => ?_)
    ·
      refine WL.pickF rfl rfl rfl (WL.move rfl rfl (WL.pass rfl rfl rfl rfl (WL.pass rfl rfl rfl rfl (WL.pass rfl rfl rfl rfl (WL.pass rfl rfl rfl rfl (WL.pass rfl rfl rfl rfl (WL.pickT rfl rfl rfl (?_))))))))
      refine WL.move rfl rfl (WL.pass rfl rfl rfl rfl (WL.pass rfl rfl rfl rfl (WL.pass rfl rfl rfl rfl (WL.pass rfl rfl rfl rfl (WL.pass rfl rfl rfl rfl (WL.pass rfl rfl rfl rfl (WL.pickT rfl rfl rfl (?_))))))))
      refine WL.nil (WX.then_normal (WC.cond_true rfl (WC.seq (WC.region (WL.bld rfl (bld_108_z) rfl (?_))))))
      refine WL.stores Tryd.sizeOf108 hb_1 rfl rfl (by simp; done) (by simp [Value.oneCell']; done) (by simp [Value.cells]; done) rfl ?_
      intro w_2 hs_2 hn_2 k_2
      have zs_k_2 := k_2.size
      replace hr := hr.chg k_2 (by intro b h1 h2 h3; have h4 : _ = _ := h3; (try dsimp only at h2); exfalso; omega)
      replace kk := kk.chg k_2 (by intro x h1 h2; have h3 : _ = _ := h2; exfalso; omega)
      replace hq := hq.chg k_2 (by intro b h1 h2 h3; have h4 : _ = _ := h3; (try dsimp only at h2); exfalso; omega)
      replace hb_1 := hn_2
      refine WL.assign rfl rfl (WL.nil (WX.then_normal (WC.ret (WX.then_ret (?_)))))
      refine WX.ret2c (.inl rfl) Tryd.results73 Tryd.isAgg108 Tryd.sizeOf108 hb_1 rfl (by rfl) rfl ?_
      first
        | (have hd := pcD_five (b := b) h14 (eL ▸ hL)
           have h9 : i0.n = 55 := h69
           by_cases hc : kinds5 i0 i1 i2 i3 i4
           ·
             rw [if_pos hc] at hd
             refine ⟨_, rfl, ⟨⟨i1.n, i2.n, i3.n, i4.s⟩, ?_, fun q hq9 => ?_⟩, kk⟩
             ·
               rw [hd]
               have h8 : decide (i3.n - i3.n % 2 = 0) = true := decide_eq_true (by have := hc.2.2; omega)
               rw [h8]
               rfl
             ·
               rw [hd] at hq9
               injection hq9
           ·
             rw [if_neg hc] at hd
             refine ⟨_, rfl, ⟨⟨i1.n, i2.n, i3.n, i4.s⟩, ?_, fun q hq9 => ?_⟩, kk⟩
             ·
               rw [hd]
               have h8 : decide (i3.n - i3.n % 2 = 0) = false := decide_eq_false (fun h => hc ⟨⟨k0, k1, k2, k3, by omega, by omega⟩, h9, by omega⟩)
               rw [h8]
               rfl
             ·
               rw [hd] at hq9
               cases hq9)
        | (have hd := pcD_five (b := b) h14 (eL ▸ hL)
           have h9 : ¬ i0.n = 55 := h69
           rw [if_neg (fun hc => h9 hc.2.1)] at hd
           refine ⟨_, rfl, ⟨⟨i1.n, i2.n, i3.n, i4.s⟩, by rw [hd]; rfl, fun q hq9 => by rw [hd] at hq9; cases hq9⟩, kk⟩)
        | (have hz : unE b ≠ 0 := h14
           have hd := pcD_bad (b := b) (.inl hz)
           refine ⟨_, rfl, ⟨zeroC, by rw [hd]; rfl, fun q hq9 => by rw [hd] at hq9; cases hq9⟩, kk⟩)
        | (have hz : (L.length : Int) ≠ 5 := h18
           have hd := pcD_bad (b := b) (.inr (fun h9 => hz (by rw [eL, h9]; rfl)))
           refine ⟨_, rfl, ⟨zeroC, by rw [hd]; rfl, fun q hq9 => by rw [hd] at hq9; cases hq9⟩, kk⟩)
        | (have hd := pcD_five (b := b) h14 (eL ▸ hL)
           have hd2 : pcD b = none := by
             rw [hd, if_neg]
             rintro ⟨⟨c0, c1, c2, c3, c4, c5⟩, c6, c7⟩
             first
               | omega
               | (have hjk : j = 0 ∨ j = 1 ∨ j = 2 ∨ j = 3 := by omega
                  rcases hjk with rfl | rfl | rfl | rfl
                  ·
                    rw [hi0] at hx; injection hx with hx; subst hx; omega
                  ·
                    rw [hi1] at hx; injection hx with hx; subst hx; omega
                  ·
                    rw [hi2] at hx; injection hx with hx; subst hx; omega
                  ·
                    rw [hi3] at hx; injection hx with hx; subst hx; omega)
           refine ⟨_, rfl, ⟨zeroC, by rw [hd2]; rfl, fun q hq9 => by rw [hd2] at hq9; cases hq9⟩, kk⟩)
    ·
      refine WL.pickF rfl rfl rfl (WL.move rfl rfl (WL.want rfl rfl rfl (WL.move rfl rfl (WL.want rfl rfl rfl (?_)))))
      obtain ⟨i0, i1, i2, i3, i4, hL⟩ := five_items (l := L) (by omega)
      have hi0 : L[0]? = some i0 := by rw [hL]; rfl
      have hi1 : L[1]? = some i1 := by rw [hL]; rfl
      have hi2 : L[2]? = some i2 := by rw [hL]; rfl
      have hi3 : L[3]? = some i3 := by rw [hL]; rfl
      have hi4 : L[4]? = some i4 := by rw [hL]; rfl
      have hr3 : RIt i3 := (hg i3 (by rw [hL]; simp)).2.2
      refine WL.indexT Tryd.underlying76 Tryd.sizeOf75 hq.rsl rfl rfl ⟨hi4, rfl⟩ rfl ?_
      intro b_2 o_2 hc_2
      refine WL.want rfl rfl rfl (WL.fieldAddr (fld_75_0) rfl rfl (WL.want rfl rfl rfl (WL.load Tryd.isAgg3 rfl (hc_2 _ _ rfl) rfl (WL.want rfl rfl rfl (?_)))))
      refine WL.neq? rfl rfl rfl (fun h25 => ?_) (fun h25 => ?_)
      ·
        refine WL.pickF rfl rfl rfl (WL.move rfl rfl (WL.pass rfl rfl rfl rfl (WL.pass rfl rfl rfl rfl (WL.pass rfl rfl rfl rfl (WL.pass rfl rfl rfl rfl (WL.pass rfl rfl rfl rfl (WL.pass rfl rfl rfl rfl (?_))))))))
        refine WL.pickT rfl rfl rfl (WL.nil (WX.then_normal (WC.cond_true rfl (WC.seq (WC.region (WL.bld rfl (bld_108_z) rfl (?_)))))))
        refine WL.stores Tryd.sizeOf108 hb_1 rfl rfl (by simp; done) (by simp [Value.oneCell']; done) (by simp [Value.cells]; done) rfl ?_
        intro w_3 hs_3 hn_3 k_3
        have zs_k_3 := k_3.size
        replace hr := hr.chg k_3 (by intro b h1 h2 h3; have h4 : _ = _ := h3; (try dsimp only at h2); exfalso; omega)
        replace kk := kk.chg k_3 (by intro x h1 h2; have h3 : _ = _ := h2; exfalso; omega)
        replace hq := hq.chg k_3 (by intro b h1 h2 h3; have h4 : _ = _ := h3; (try dsimp only at h2); exfalso; omega)
        replace hb_1 := hn_3
        refine WL.assign rfl rfl (WL.nil (WX.then_normal (WC.ret (WX.then_ret (?_)))))
        refine WX.ret2c (.inl rfl) Tryd.results73 Tryd.isAgg108 Tryd.sizeOf108 hb_1 rfl (by rfl) rfl ?_
        first
          | (have hd := pcD_five (b := b) h14 (eL ▸ hL)
             have h9 : i0.n = 55 := h69
             by_cases hc : kinds5 i0 i1 i2 i3 i4
             ·
               rw [if_pos hc] at hd
               refine ⟨_, rfl, ⟨⟨i1.n, i2.n, i3.n, i4.s⟩, ?_, fun q hq9 => ?_⟩, kk⟩
               ·
                 rw [hd]
                 have h8 : decide (i3.n - i3.n % 2 = 0) = true := decide_eq_true (by have := hc.2.2; omega)
                 rw [h8]
                 rfl
               ·
                 rw [hd] at hq9
                 injection hq9
             ·
               rw [if_neg hc] at hd
               refine ⟨_, rfl, ⟨⟨i1.n, i2.n, i3.n, i4.s⟩, ?_, fun q hq9 => ?_⟩, kk⟩
               ·
                 rw [hd]
                 have h8 : decide (i3.n - i3.n % 2 = 0) = false := decide_eq_false (fun h => hc ⟨⟨k0, k1, k2, k3, by omega, by omega⟩, h9, by omega⟩)
                 rw [h8]
                 rfl
               ·
                 rw [hd] at hq9
                 cases hq9)
          | (have hd := pcD_five (b := b) h14 (eL ▸ hL)
             have h9 : ¬ i0.n = 55 := h69
             rw [if_neg (fun hc => h9 hc.2.1)] at hd
             refine ⟨_, rfl, ⟨⟨i1.n, i2.n, i3.n, i4.s⟩, by rw [hd]; rfl, fun q hq9 => by rw [hd] at hq9; cases hq9⟩, kk⟩)
          | (have hz : unE b ≠ 0 := h14
             have hd := pcD_bad (b := b) (.inl hz)
             refine ⟨_, rfl, ⟨zeroC, by rw [hd]; rfl, fun q hq9 => by rw [hd] at hq9; cases hq9⟩, kk⟩)
          | (have hz : (L.length : Int) ≠ 5 := h18
             have hd := pcD_bad (b := b) (.inr (fun h9 => hz (by rw [eL, h9]; rfl)))
             refine ⟨_, rfl, ⟨zeroC, by rw [hd]; rfl, fun q hq9 => by rw [hd] at hq9; cases hq9⟩, kk⟩)
          | (have hd := pcD_five (b := b) h14 (eL ▸ hL)
             have hd2 : pcD b = none := by
               rw [hd, if_neg]
               rintro ⟨⟨c0, c1, c2, c3, c4, c5⟩, c6, c7⟩
               first
                 | omega
                 | (have hjk : j = 0 ∨ j = 1 ∨ j = 2 ∨ j = 3 := by omega
                    rcases hjk with rfl | rfl | rfl | rfl
                    ·
                      rw [hi0] at hx; injection hx with hx; subst hx; omega
                    ·
                      rw [hi1] at hx; injection hx with hx; subst hx; omega
                    ·
                      rw [hi2] at hx; injection hx with hx; subst hx; omega
                    ·
                      rw [hi3] at hx; injection hx with hx; subst hx; omega)
             refine ⟨_, rfl, ⟨zeroC, by rw [hd2]; rfl, fun q hq9 => by rw [hd2] at hq9; cases hq9⟩, kk⟩)
      ·
        refine WL.pickF rfl rfl rfl (WL.move rfl rfl (WL.want rfl rfl rfl (WL.move rfl rfl (WL.want rfl rfl rfl (?_)))))
        refine WL.indexT Tryd.underlying76 Tryd.sizeOf75 hq.rsl rfl rfl ⟨hi4, rfl⟩ rfl ?_
        intro b_3 o_3 hc_3
        refine WL.want rfl rfl rfl (WL.fieldAddr (fld_75_2) rfl rfl (WL.want rfl rfl rfl (WL.load Tryd.isAgg9 rfl (hc_3 _ _ rfl) rfl (WL.want rfl rfl rfl (WL.lens Tryd.underlying9 rfl rfl (WL.want rfl rfl rfl (?_)))))))
        refine WL.gtr? rfl rfl rfl (fun h33 => ?_) (fun h33 => ?_)
        ·
          refine WL.pickF rfl rfl rfl (WL.nil (WX.then_normal (WC.cond_true rfl (WC.seq (WC.region (WL.bld rfl (bld_108_z) rfl (?_)))))))
          refine WL.stores Tryd.sizeOf108 hb_1 rfl rfl (by simp; done) (by simp [Value.oneCell']; done) (by simp [Value.cells]; done) rfl ?_
          intro w_4 hs_4 hn_4 k_4
          have zs_k_4 := k_4.size
          replace hr := hr.chg k_4 (by intro b h1 h2 h3; have h4 : _ = _ := h3; (try dsimp only at h2); exfalso; omega)
          replace kk := kk.chg k_4 (by intro x h1 h2; have h3 : _ = _ := h2; exfalso; omega)
          replace hq := hq.chg k_4 (by intro b h1 h2 h3; have h4 : _ = _ := h3; (try dsimp only at h2); exfalso; omega)
          replace hb_1 := hn_4
          refine WL.assign rfl rfl (WL.nil (WX.then_normal (WC.ret (WX.then_ret (?_)))))
          refine WX.ret2c (.inl rfl) Tryd.results73 Tryd.isAgg108 Tryd.sizeOf108 hb_1 rfl (by rfl) rfl ?_
          first
            | (have hd := pcD_five (b := b) h14 (eL ▸ hL)
               have h9 : i0.n = 55 := h69
               by_cases hc : kinds5 i0 i1 i2 i3 i4
               ·
                 rw [if_pos hc] at hd
                 refine ⟨_, rfl, ⟨⟨i1.n, i2.n, i3.n, i4.s⟩, ?_, fun q hq9 => ?_⟩, kk⟩
                 ·
                   rw [hd]
                   have h8 : decide (i3.n - i3.n % 2 = 0) = true := decide_eq_true (by have := hc.2.2; omega)
                   rw [h8]
                   rfl
                 ·
                   rw [hd] at hq9
                   injection hq9
               ·
                 rw [if_neg hc] at hd
                 refine ⟨_, rfl, ⟨⟨i1.n, i2.n, i3.n, i4.s⟩, ?_, fun q hq9 => ?_⟩, kk⟩
                 ·
                   rw [hd]
                   have h8 : decide (i3.n - i3.n % 2 = 0) = false := decide_eq_false (fun h => hc ⟨⟨k0, k1, k2, k3, by omega, by omega⟩, h9, by omega⟩)
                   rw [h8]
                   rfl
                 ·
                   rw [hd] at hq9
                   cases hq9)
            | (have hd := pcD_five (b := b) h14 (eL ▸ hL)
               have h9 : ¬ i0.n = 55 := h69
               rw [if_neg (fun hc => h9 hc.2.1)] at hd
               refine ⟨_, rfl, ⟨⟨i1.n, i2.n, i3.n, i4.s⟩, by rw [hd]; rfl, fun q hq9 => by rw [hd] at hq9; cases hq9⟩, kk⟩)
            | (have hz : unE b ≠ 0 := h14
               have hd := pcD_bad (b := b) (.inl hz)
               refine ⟨_, rfl, ⟨zeroC, by rw [hd]; rfl, fun q hq9 => by rw [hd] at hq9; cases hq9⟩, kk⟩)
            | (have hz : (L.length : Int) ≠ 5 := h18
               have hd := pcD_bad (b := b) (.inr (fun h9 => hz (by rw [eL, h9]; rfl)))
               refine ⟨_, rfl, ⟨zeroC, by rw [hd]; rfl, fun q hq9 => by rw [hd] at hq9; cases hq9⟩, kk⟩)
            | (have hd := pcD_five (b := b) h14 (eL ▸ hL)
               have hd2 : pcD b = none := by
                 rw [hd, if_neg]
                 rintro ⟨⟨c0, c1, c2, c3, c4, c5⟩, c6, c7⟩
                 first
                   | omega
                   | (have hjk : j = 0 ∨ j = 1 ∨ j = 2 ∨ j = 3 := by omega
                      rcases hjk with rfl | rfl | rfl | rfl
                      ·
                        rw [hi0] at hx; injection hx with hx; subst hx; omega
                      ·
                        rw [hi1] at hx; injection hx with hx; subst hx; omega
                      ·
                        rw [hi2] at hx; injection hx with hx; subst hx; omega
                      ·
                        rw [hi3] at hx; injection hx with hx; subst hx; omega)
               refine ⟨_, rfl, ⟨zeroC, by rw [hd2]; rfl, fun q hq9 => by rw [hd2] at hq9; cases hq9⟩, kk⟩)
        ·
          refine WL.pickF rfl rfl rfl (WL.nil (WX.then_normal (WC.cond_false rfl (WC.skip (WX.then_normal (WC.seq (WC.seq (?_))))))))
          refine WC.region (WL.move rfl rfl (?_))
          refine WL.slice (l := 0) (h := 4) (k := .i64) Tryd.underlying76 Tryd.sizeOf75 hq.rsl rfl (.inr ⟨rfl, rfl⟩) (.inl rfl) (by constructor <;> omega) rfl ?_
          intro a_q4 c_q4 q4 n_q4
          refine WL.len Tryd.underlying76 rfl rfl (WL.move rfl rfl (WL.nil (WX.then_normal (WC.block (?_)))))
          obtain ⟨Y, eY⟩ : ∃ Y, Y = List.drop 0 (List.take 4 L) := ⟨_, rfl⟩
          have hYl : Y.length = 4 := by rw [eY, List.drop_zero, List.length_take]; omega
          have hYi : ∀ i, i < 4 → Y[i]? = L[i]? := fun i hi => by rw [eY, List.drop_zero, List.getElem?_take, if_pos hi]
          have hg12 : w.heap.size ≤ g_1 ∧ g_1 < w_1.heap.size := ⟨hge_1, hlt_1⟩
          rw [← eY] at q4 ⊢
          refine WC.loop (σ := Nat) (fun j => [(2, ptr g_1), (4, .slice a1 L.length c1), (37, .slice a_q4 Y.length c_q4), (38, vi (Y.length : Int)), (39, vi (j : Int))])
            (fun j w' => j ≤ 4 ∧ (∀ i x, i < j → L[i]? = some x → x.kind = 1) ∧ Blk w' g_1 108 (epc.f zeroC) ∧ Row (fun b => w_1.heap.size ≤ b) w' 75 eit a1 c1 L ∧ RSl (fun b => w_1.heap.size ≤ b) w' eit a_q4 c_q4 Y ∧ w_1.heap.size ≤ w'.heap.size ∧ Chg Nob w w') (fun j => 4 - j) 0 ⟨rfl, rfl, rfl, rfl, rfl, trivial⟩
            ⟨Nat.zero_le _, fun i x hi => absurd hi (Nat.not_lt_zero i), Blk.eqc hb_1 rfl, hq.mono (fun x hx => hx.1), q4.mono (fun x hx => hx.1), by omega, kk⟩ ?_
          clear hb_1 hq q4 kk hc_2 hc_3 hr
          rintro j w3 ⟨hj, hK, hb_1, hq, q4, hz3, kk⟩
          replace hq := hq.lt
          replace q4 := q4.lt
          refine WC.seq (WC.region (?_))
          refine WL.lss? rfl rfl rfl (fun h40 => ?_) (fun h40 => ?_)
          ·
            refine WL.nil (WX.then_normal (WC.seq (WC.cond_true rfl (WC.skip (WX.then_normal (WC.seq (WC.block (?_))))))))
            refine WC.seq (WC.region (?_))
            obtain ⟨x, hx⟩ : ∃ x, L[j]? = some x := ⟨_, List.getElem?_eq_getElem (by omega)⟩
            have hxY : Y[j]? = some x := by rw [hYi j (by omega)]; exact hx
            refine WL.indexT Tryd.underlying76 Tryd.sizeOf75 q4 rfl rfl ⟨hxY, rfl⟩ rfl ?_
            intro b_4 o_4 hc_4
            refine WL.loads _ Tryd.isAgg75 Tryd.sizeOf75 rfl hc_4 rfl rfl (?_)
            refine WL.alloc Tryd.zeroValue75 rfl ?_
            intro g_5 w_5 hge_5 hlt_5 hb_5 k_5
            have zs_k_5 := k_5.size
            replace hb_1 := hb_1.pure k_5
            replace hq := hq.pure k_5
            replace q4 := q4.pure k_5
            replace kk := kk.pure k_5
            refine WL.stores Tryd.sizeOf75 hb_5 rfl rfl (by rfl) (by exact Enc.one _ _) (by exact Nat.le_of_ble_eq_true rfl) rfl ?_
            intro w_6 hs_6 hn_6 k_6
            have zs_k_6 := k_6.size
            replace hb_1 := hb_1.chg k_6 (by intro h1; have h2 : _ = _ := h1; exfalso; omega)
            replace hq := hq.chg k_6 (by intro b h1 h2 h3; have h4 : _ = _ := h3; (try dsimp only at h2); exfalso; omega)
            replace q4 := q4.chg k_6 (by intro b h1 h2 h3; have h4 : _ = _ := h3; (try dsimp only at h2); exfalso; omega)
            replace kk := kk.chg k_6 (by intro x h1 h2; have h3 : _ = _ := h2; exfalso; omega)
            replace hb_5 := hn_6
            refine WL.nil (WX.then_normal (WC.seq (WC.region (WL.fieldAddr (fld_75_0) rfl rfl (?_)))))
            have hb7 := Blk.eqc (cs' := eit.f x) hb_5 rfl
            refine WL.loadB Tryd.isAgg3 hb7 rfl rfl rfl ?_
            refine WL.neq? rfl rfl rfl (fun h45 => ?_) (fun h45 => ?_)
            ·
              refine WL.nil (WX.then_normal (WC.cond_true rfl (WC.seq (WC.region (WL.bld rfl (bld_108_z) rfl (?_))))))
              refine WL.stores Tryd.sizeOf108 hb_1 rfl rfl (by simp; done) (by simp [Value.oneCell']; done) (by exact Nat.le_of_ble_eq_true rfl) rfl ?_
              intro w_7 hs_7 hn_7 k_7
              have zs_k_7 := k_7.size
              replace hq := hq.chg k_7 (by intro b h1 h2 h3; have h4 : _ = _ := h3; (try dsimp only at h2); exfalso; omega)
              replace q4 := q4.chg k_7 (by intro b h1 h2 h3; have h4 : _ = _ := h3; (try dsimp only at h2); exfalso; omega)
              replace kk := kk.chg k_7 (by intro x h1 h2; have h3 : _ = _ := h2; exfalso; omega)
              replace hb_1 := hn_7
              refine WL.assign rfl rfl (WL.nil (WX.then_normal (WC.ret (WX.block_ret (WX.then_ret (WX.then_ret (WX.block_ret (?_))))))))
              refine WX.then_ret (?_)
              refine WX.ret2c (.inl rfl) Tryd.results73 Tryd.isAgg108 Tryd.sizeOf108 hb_1 rfl (by rfl) rfl ?_
              first
                | (have hd := pcD_five (b := b) h14 (eL ▸ hL)
                   have h9 : i0.n = 55 := h69
                   by_cases hc : kinds5 i0 i1 i2 i3 i4
                   ·
                     rw [if_pos hc] at hd
                     refine ⟨_, rfl, ⟨⟨i1.n, i2.n, i3.n, i4.s⟩, ?_, fun q hq9 => ?_⟩, kk⟩
                     ·
                       rw [hd]
                       have h8 : decide (i3.n - i3.n % 2 = 0) = true := decide_eq_true (by have := hc.2.2; omega)
                       rw [h8]
                       rfl
                     ·
                       rw [hd] at hq9
                       injection hq9
                   ·
                     rw [if_neg hc] at hd
                     refine ⟨_, rfl, ⟨⟨i1.n, i2.n, i3.n, i4.s⟩, ?_, fun q hq9 => ?_⟩, kk⟩
                     ·
                       rw [hd]
                       have h8 : decide (i3.n - i3.n % 2 = 0) = false := decide_eq_false (fun h => hc ⟨⟨k0, k1, k2, k3, by omega, by omega⟩, h9, by omega⟩)
                       rw [h8]
                       rfl
                     ·
                       rw [hd] at hq9
                       cases hq9)
                | (have hd := pcD_five (b := b) h14 (eL ▸ hL)
                   have h9 : ¬ i0.n = 55 := h69
                   rw [if_neg (fun hc => h9 hc.2.1)] at hd
                   refine ⟨_, rfl, ⟨⟨i1.n, i2.n, i3.n, i4.s⟩, by rw [hd]; rfl, fun q hq9 => by rw [hd] at hq9; cases hq9⟩, kk⟩)
                | (have hz : unE b ≠ 0 := h14
                   have hd := pcD_bad (b := b) (.inl hz)
                   refine ⟨_, rfl, ⟨zeroC, by rw [hd]; rfl, fun q hq9 => by rw [hd] at hq9; cases hq9⟩, kk⟩)
                | (have hz : (L.length : Int) ≠ 5 := h18
                   have hd := pcD_bad (b := b) (.inr (fun h9 => hz (by rw [eL, h9]; rfl)))
                   refine ⟨_, rfl, ⟨zeroC, by rw [hd]; rfl, fun q hq9 => by rw [hd] at hq9; cases hq9⟩, kk⟩)
                | (have hd := pcD_five (b := b) h14 (eL ▸ hL)
                   have hd2 : pcD b = none := by
                     rw [hd, if_neg]
                     rintro ⟨⟨c0, c1, c2, c3, c4, c5⟩, c6, c7⟩
                     first
                       | omega
                       | (have hjk : j = 0 ∨ j = 1 ∨ j = 2 ∨ j = 3 := by omega
                          rcases hjk with rfl | rfl | rfl | rfl
                          ·
                            rw [hi0] at hx; injection hx with hx; subst hx; omega
                          ·
                            rw [hi1] at hx; injection hx with hx; subst hx; omega
                          ·
                            rw [hi2] at hx; injection hx with hx; subst hx; omega
                          ·
                            rw [hi3] at hx; injection hx with hx; subst hx; omega)
                   refine ⟨_, rfl, ⟨zeroC, by rw [hd2]; rfl, fun q hq9 => by rw [hd2] at hq9; cases hq9⟩, kk⟩)
            ·
              refine WL.nil (WX.then_normal (WC.cond_false rfl (WC.skip (WX.block_normal (WX.then_normal (WC.region (WL.add64 rfl rfl (by omega) rfl (?_))))))))
              refine WL.move rfl rfl (WL.nil (?_))
              refine WX.loop_next (j + 1) ⟨rfl, rfl, rfl, rfl, rfl, trivial⟩ ⟨by omega, fun i y hi hy => ?_, hb_1, hq.mono (fun x hx => hx.1), q4.mono (fun x hx => hx.1), by omega, kk⟩ (by show _ - _ < _ - _; omega)
              rcases Nat.lt_or_ge i j with h1 | h1
              ·
                exact hK i y h1 hy
              ·
                rw [show i = j from by omega, hx] at hy
                injection hy with hy
                rw [← hy]
                assumption
          ·
            refine WL.nil (WX.then_normal (WC.seq (WC.cond_false rfl (WC.exit (WX.then_exit (WX.then_exit (WX.block_here (?_))))))))
            refine WX.then_normal (WC.seq (?_))
            have hj4 : j = 4 := by omega
            obtain ⟨b0, o0, rfl⟩ := hq.rsl.place hi1
            have k0 := hK 0 i0 (by omega) hi0
            have k1 := hK 1 i1 (by omega) hi1
            have k2 := hK 2 i2 (by omega) hi2
            have k3 := hK 3 i3 (by omega) hi3
            by_cases h69 : i0.n = 55
            ·
              refine WC.draw ((fun x => x = g_1)) [0, 1, 2, 3, 4, 5, 6, 7, 8, 9, 10, 11, 12, 13, 14, 15, 16, 17, 18, 19, 20, 21, 22, 23, 24, 25, 26, 27, 28, 29, 31] [30] mixed rfl rfl (fun wd_4 kd_4 zd_4 => ?_)
              have zs_kd_4 := kd_4.size
              replace hb_1 := hb_1.pure kd_4
              replace hq := hq.pure kd_4
              replace q4 := q4.pure kd_4
              replace kk := kk.pure kd_4
              apply DQ.step (E' := [(4, _)])
              case ho => rfl
              case hs => exact ⟨rfl, trivial⟩
              case hk => rfl
              case h1 =>
                intro wq_6 kq_6
                refine WL.move rfl rfl (?_)
                refine WL.nil ?_
                exact WX.one ⟨rfl, by exact Chg.refl _ _⟩
              apply DQ.step (E' := [(48, _)])
              case ho => rfl
              case hs => exact ⟨rfl, trivial⟩
              case hk => rfl
              case h1 =>
                intro wq_7 kq_7
                have zs_kq_7 := kq_7.size
                replace hq := hq.chg kq_7 (by intro b h1 h2 h3; have h4 : _ = _ := h3; (try dsimp only at h2); exfalso; omega)
                replace q4 := q4.chg kq_7 (by intro b h1 h2 h3; have h4 : _ = _ := h3; (try dsimp only at h2); exfalso; omega)
                replace kk := kk.chg kq_7 (by intro x h1 h2; have h3 : _ = _ := h2; exfalso; omega)
                refine WL.indexC hq.rsl Tryd.underlying76 Tryd.sizeOf75 rfl rfl ⟨hi1, rfl⟩ rfl ?_
                refine WL.nil ?_
                exact WX.one ⟨rfl, by exact Chg.refl _ _⟩
              apply DQ.step (E' := [(49, _)])
              case ho => rfl
              case hs => exact ⟨rfl, trivial⟩
              case hk => rfl
              case h1 =>
                intro wq_8 kq_8
                refine WL.fieldAddr (fld_75_1) rfl rfl (?_)
                refine WL.nil ?_
                exact WX.one ⟨rfl, by exact Chg.refl _ _⟩
              apply DQ.step (E' := [(50, _)])
              case ho => rfl
              case hs => exact ⟨rfl, trivial⟩
              case hk => rfl
              case h1 =>
                intro wq_9 kq_9
                have zs_kq_9 := kq_9.size
                replace hq := hq.chg kq_9 (by intro b h1 h2 h3; have h4 : _ = _ := h3; (try dsimp only at h2); exfalso; omega)
                replace q4 := q4.chg kq_9 (by intro b h1 h2 h3; have h4 : _ = _ := h3; (try dsimp only at h2); exfalso; omega)
                replace kk := kk.chg kq_9 (by intro x h1 h2; have h3 : _ = _ := h2; exfalso; omega)
                refine WL.load Tryd.isAgg3 rfl ((hq.rsl.cellsAt hi1) _ _ rfl) rfl (?_)
                refine WL.nil ?_
                exact WX.one ⟨rfl, by exact Chg.refl _ _⟩
              apply DQ.step (E' := [(4, _)])
              case ho => rfl
              case hs => exact ⟨rfl, trivial⟩
              case hk => rfl
              case h1 =>
                intro wq_10 kq_10
                refine WL.move rfl rfl (?_)
                refine WL.nil ?_
                exact WX.one ⟨rfl, by exact Chg.refl _ _⟩
              apply DQ.step (E' := [(52, _)])
              case ho => rfl
              case hs => exact ⟨rfl, trivial⟩
              case hk => rfl
              case h1 =>
                intro wq_11 kq_11
                have zs_kq_11 := kq_11.size
                replace hq := hq.chg kq_11 (by intro b h1 h2 h3; have h4 : _ = _ := h3; (try dsimp only at h2); exfalso; omega)
                replace q4 := q4.chg kq_11 (by intro b h1 h2 h3; have h4 : _ = _ := h3; (try dsimp only at h2); exfalso; omega)
                replace kk := kk.chg kq_11 (by intro x h1 h2; have h3 : _ = _ := h2; exfalso; omega)
                refine WL.indexC hq.rsl Tryd.underlying76 Tryd.sizeOf75 rfl rfl ⟨hi2, rfl⟩ rfl ?_
                refine WL.nil ?_
                exact WX.one ⟨rfl, by exact Chg.refl _ _⟩
              apply DQ.step (E' := [(53, _)])
              case ho => rfl
              case hs => exact ⟨rfl, trivial⟩
              case hk => rfl
              case h1 =>
                intro wq_12 kq_12
                refine WL.fieldAddr (fld_75_1) rfl rfl (?_)
                refine WL.nil ?_
                exact WX.one ⟨rfl, by exact Chg.refl _ _⟩
              apply DQ.step (E' := [(54, _)])
              case ho => rfl
              case hs => exact ⟨rfl, trivial⟩
              case hk => rfl
              case h1 =>
                intro wq_13 kq_13
                have zs_kq_13 := kq_13.size
                replace hq := hq.chg kq_13 (by intro b h1 h2 h3; have h4 : _ = _ := h3; (try dsimp only at h2); exfalso; omega)
                replace q4 := q4.chg kq_13 (by intro b h1 h2 h3; have h4 : _ = _ := h3; (try dsimp only at h2); exfalso; omega)
                replace kk := kk.chg kq_13 (by intro x h1 h2; have h3 : _ = _ := h2; exfalso; omega)
                refine WL.load Tryd.isAgg3 rfl ((hq.rsl.cellsAt hi2) _ _ rfl) rfl (?_)
                refine WL.nil ?_
                exact WX.one ⟨rfl, by exact Chg.refl _ _⟩
              apply DQ.step (E' := [(4, _)])
              case ho => rfl
              case hs => exact ⟨rfl, trivial⟩
              case hk => rfl
              case h1 =>
                intro wq_14 kq_14
                refine WL.move rfl rfl (?_)
                refine WL.nil ?_
                exact WX.one ⟨rfl, by exact Chg.refl _ _⟩
              apply DQ.step (E' := [(56, _)])
              case ho => rfl
              case hs => exact ⟨rfl, trivial⟩
              case hk => rfl
              case h1 =>
                intro wq_15 kq_15
                have zs_kq_15 := kq_15.size
                replace hq := hq.chg kq_15 (by intro b h1 h2 h3; have h4 : _ = _ := h3; (try dsimp only at h2); exfalso; omega)
                replace q4 := q4.chg kq_15 (by intro b h1 h2 h3; have h4 : _ = _ := h3; (try dsimp only at h2); exfalso; omega)
                replace kk := kk.chg kq_15 (by intro x h1 h2; have h3 : _ = _ := h2; exfalso; omega)
                refine WL.indexC hq.rsl Tryd.underlying76 Tryd.sizeOf75 rfl rfl ⟨hi3, rfl⟩ rfl ?_
                refine WL.nil ?_
                exact WX.one ⟨rfl, by exact Chg.refl _ _⟩
              apply DQ.step (E' := [(57, _)])
              case ho => rfl
              case hs => exact ⟨rfl, trivial⟩
              case hk => rfl
              case h1 =>
                intro wq_16 kq_16
                refine WL.fieldAddr (fld_75_1) rfl rfl (?_)
                refine WL.nil ?_
                exact WX.one ⟨rfl, by exact Chg.refl _ _⟩
              apply DQ.step (E' := [(58, _)])
              case ho => rfl
              case hs => exact ⟨rfl, trivial⟩
              case hk => rfl
              case h1 =>
                intro wq_17 kq_17
                have zs_kq_17 := kq_17.size
                replace hq := hq.chg kq_17 (by intro b h1 h2 h3; have h4 : _ = _ := h3; (try dsimp only at h2); exfalso; omega)
                replace q4 := q4.chg kq_17 (by intro b h1 h2 h3; have h4 : _ = _ := h3; (try dsimp only at h2); exfalso; omega)
                replace kk := kk.chg kq_17 (by intro x h1 h2; have h3 : _ = _ := h2; exfalso; omega)
                refine WL.load Tryd.isAgg3 rfl ((hq.rsl.cellsAt hi3) _ _ rfl) rfl (?_)
                refine WL.nil ?_
                exact WX.one ⟨rfl, by exact Chg.refl _ _⟩
              apply DQ.step (E' := [(4, _)])
              case ho => rfl
              case hs => exact ⟨rfl, trivial⟩
              case hk => rfl
              case h1 =>
                intro wq_18 kq_18
                refine WL.move rfl rfl (?_)
                refine WL.nil ?_
                exact WX.one ⟨rfl, by exact Chg.refl _ _⟩
              apply DQ.step (E' := [(60, _)])
              case ho => rfl
              case hs => exact ⟨rfl, trivial⟩
              case hk => rfl
              case h1 =>
                intro wq_19 kq_19
                have zs_kq_19 := kq_19.size
                replace hq := hq.chg kq_19 (by intro b h1 h2 h3; have h4 : _ = _ := h3; (try dsimp only at h2); exfalso; omega)
                replace q4 := q4.chg kq_19 (by intro b h1 h2 h3; have h4 : _ = _ := h3; (try dsimp only at h2); exfalso; omega)
                replace kk := kk.chg kq_19 (by intro x h1 h2; have h3 : _ = _ := h2; exfalso; omega)
                refine WL.indexC hq.rsl Tryd.underlying76 Tryd.sizeOf75 rfl rfl ⟨hi4, rfl⟩ rfl ?_
                refine WL.nil ?_
                exact WX.one ⟨rfl, by exact Chg.refl _ _⟩
              apply DQ.step (E' := [(61, _)])
              case ho => rfl
              case hs => exact ⟨rfl, trivial⟩
              case hk => rfl
              case h1 =>
                intro wq_20 kq_20
                refine WL.fieldAddr (fld_75_2) rfl rfl (?_)
                refine WL.nil ?_
                exact WX.one ⟨rfl, by exact Chg.refl _ _⟩
              apply DQ.step (E' := [(62, _)])
              case ho => rfl
              case hs => exact ⟨rfl, trivial⟩
              case hk => rfl
              case h1 =>
                intro wq_21 kq_21
                have zs_kq_21 := kq_21.size
                replace hq := hq.chg kq_21 (by intro b h1 h2 h3; have h4 : _ = _ := h3; (try dsimp only at h2); exfalso; omega)
                replace q4 := q4.chg kq_21 (by intro b h1 h2 h3; have h4 : _ = _ := h3; (try dsimp only at h2); exfalso; omega)
                replace kk := kk.chg kq_21 (by intro x h1 h2; have h3 : _ = _ := h2; exfalso; omega)
                refine WL.load Tryd.isAgg9 rfl ((hq.rsl.cellsAt hi4) _ _ rfl) rfl (?_)
                refine WL.nil ?_
                exact WX.one ⟨rfl, by exact Chg.refl _ _⟩
              apply DQ.step (E' := [(51, _), (55, _), (59, _), (63, _)])
              case ho => rfl
              case hs => exact ⟨rfl, rfl, rfl, rfl, trivial⟩
              case hk => rfl
              case h1 =>
                intro wq_22 kq_22
                refine WL.bld rfl (bld_108_0_1_2_3 _ _ _ _) rfl (?_)
                refine WL.nil ?_
                exact WX.one ⟨rfl, by exact Chg.refl _ _⟩
              apply DQ.step (E' := [(4, _)])
              case ho => rfl
              case hs => exact ⟨rfl, trivial⟩
              case hk => rfl
              case h1 =>
                intro wq_23 kq_23
                refine WL.move rfl rfl (?_)
                refine WL.nil ?_
                exact WX.one ⟨rfl, by exact Chg.refl _ _⟩
              apply DQ.step (E' := [(65, _)])
              case ho => rfl
              case hs => exact ⟨rfl, trivial⟩
              case hk => rfl
              case h1 =>
                intro wq_24 kq_24
                have zs_kq_24 := kq_24.size
                replace hq := hq.chg kq_24 (by intro b h1 h2 h3; have h4 : _ = _ := h3; (try dsimp only at h2); exfalso; omega)
                replace q4 := q4.chg kq_24 (by intro b h1 h2 h3; have h4 : _ = _ := h3; (try dsimp only at h2); exfalso; omega)
                replace kk := kk.chg kq_24 (by intro x h1 h2; have h3 : _ = _ := h2; exfalso; omega)
                refine WL.indexC hq.rsl Tryd.underlying76 Tryd.sizeOf75 rfl rfl ⟨hi0, rfl⟩ rfl ?_
                refine WL.nil ?_
                exact WX.one ⟨rfl, by exact Chg.refl _ _⟩
              apply DQ.step (E' := [(66, _)])
              case ho => rfl
              case hs => exact ⟨rfl, trivial⟩
              case hk => rfl
              case h1 =>
                intro wq_25 kq_25
                refine WL.fieldAddr (fld_75_1) rfl rfl (?_)
                refine WL.nil ?_
                exact WX.one ⟨rfl, by exact Chg.refl _ _⟩
              apply DQ.step (E' := [(67, _)])
              case ho => rfl
              case hs => exact ⟨rfl, trivial⟩
              case hk => rfl
              case h1 =>
                intro wq_26 kq_26
                have zs_kq_26 := kq_26.size
                replace hq := hq.chg kq_26 (by intro b h1 h2 h3; have h4 : _ = _ := h3; (try dsimp only at h2); exfalso; omega)
                replace q4 := q4.chg kq_26 (by intro b h1 h2 h3; have h4 : _ = _ := h3; (try dsimp only at h2); exfalso; omega)
                replace kk := kk.chg kq_26 (by intro x h1 h2; have h3 : _ = _ := h2; exfalso; omega)
                refine WL.load Tryd.isAgg3 rfl ((hq.rsl.cellsAt hi0) _ _ rfl) rfl (?_)
                refine WL.nil ?_
                exact WX.one ⟨rfl, by exact Chg.refl _ _⟩
              apply DQ.step (E' := [(68, _)])
              case ho => rfl
              case hs => exact ⟨rfl, trivial⟩
              case hk => rfl
              case h1 =>
                intro wq_27 kq_27
                refine WL.eqlT rfl rfl rfl (h69) ?_
                refine WL.nil ?_
                exact WX.one ⟨rfl, by exact Chg.refl _ _⟩
              apply DQ.step (E' := [(69, _)])
              case ho => rfl
              case hs => exact ⟨rfl, trivial⟩
              case hk => rfl
              case h1 =>
                intro wq_28 kq_28
                refine WL.move rfl rfl (?_)
                refine WL.nil ?_
                exact WX.one ⟨rfl, by exact Chg.refl _ _⟩
              apply DQ.step (E' := [(4, _), (70, _)])
              case ho => rfl
              case hs => exact ⟨rfl, rfl, trivial⟩
              case hk => rfl
              case h1 =>
                intro wq_29 kq_29
                refine WL.want rfl rfl rfl (WL.move rfl rfl (?_))
                refine WL.nil ?_
                exact WX.one ⟨rfl, by exact Chg.refl _ _⟩
              apply DQ.step (E' := [(71, _), (70, _)])
              case ho => rfl
              case hs => exact ⟨rfl, rfl, trivial⟩
              case hk => rfl
              case h1 =>
                intro wq_30 kq_30
                have zs_kq_30 := kq_30.size
                replace hq := hq.chg kq_30 (by intro b h1 h2 h3; have h4 : _ = _ := h3; (try dsimp only at h2); exfalso; omega)
                replace q4 := q4.chg kq_30 (by intro b h1 h2 h3; have h4 : _ = _ := h3; (try dsimp only at h2); exfalso; omega)
                replace kk := kk.chg kq_30 (by intro x h1 h2; have h3 : _ = _ := h2; exfalso; omega)
                refine WL.want rfl rfl rfl (?_)
                refine WL.indexC hq.rsl Tryd.underlying76 Tryd.sizeOf75 rfl rfl ⟨hi3, rfl⟩ rfl ?_
                refine WL.nil ?_
                exact WX.one ⟨rfl, by exact Chg.refl _ _⟩
              apply DQ.step (E' := [(72, _), (70, _)])
              case ho => rfl
              case hs => exact ⟨rfl, rfl, trivial⟩
              case hk => rfl
              case h1 =>
                intro wq_31 kq_31
                refine WL.want rfl rfl rfl (WL.fieldAddr (fld_75_1) rfl rfl (?_))
                refine WL.nil ?_
                exact WX.one ⟨rfl, by exact Chg.refl _ _⟩
              apply DQ.step (E' := [(73, _), (70, _)])
              case ho => rfl
              case hs => exact ⟨rfl, rfl, trivial⟩
              case hk => rfl
              case h1 =>
                intro wq_32 kq_32
                have zs_kq_32 := kq_32.size
                replace hq := hq.chg kq_32 (by intro b h1 h2 h3; have h4 : _ = _ := h3; (try dsimp only at h2); exfalso; omega)
                replace q4 := q4.chg kq_32 (by intro b h1 h2 h3; have h4 : _ = _ := h3; (try dsimp only at h2); exfalso; omega)
                replace kk := kk.chg kq_32 (by intro x h1 h2; have h3 : _ = _ := h2; exfalso; omega)
                refine WL.want rfl rfl rfl (WL.load Tryd.isAgg3 rfl ((hq.rsl.cellsAt hi3) _ _ rfl) rfl (?_))
                refine WL.nil ?_
                exact WX.one ⟨rfl, by exact Chg.refl _ _⟩
              apply DQ.step (E' := [(74, _), (70, _)])
              case ho => rfl
              case hs => exact ⟨rfl, rfl, trivial⟩
              case hk => rfl
              case h1 =>
                intro wq_33 kq_33
                refine WL.want rfl rfl rfl (?_)
                refine WL.num rfl rfl (n_andnot1 _ _ _ hr3) rfl ?_
                refine WL.nil ?_
                exact WX.one ⟨rfl, by exact Chg.refl _ _⟩
              apply DQ.step (E' := [(75, _), (70, _)])
              case ho => rfl
              case hs => exact ⟨rfl, rfl, trivial⟩
              case hk => rfl
              case h1 =>
                intro wq_34 kq_34
                refine WL.want rfl rfl rfl (?_)
                refine WL.eql rfl rfl rfl ?_
                refine WL.nil ?_
                exact WX.one ⟨rfl, by exact Chg.refl _ _⟩
              apply DQ.step (E' := [(70, _), (76, _)])
              case ho => rfl
              case hs => exact ⟨rfl, rfl, trivial⟩
              case hk => rfl
              case h1 =>
                intro wq_35 kq_35
                refine WL.pickT rfl rfl rfl (?_)
                refine WL.nil ?_
                exact WX.one ⟨rfl, by exact Chg.refl _ _⟩
              apply DQ.step (E' := [(77, _)])
              case ho => rfl
              case hs => exact ⟨rfl, trivial⟩
              case hk => rfl
              case h1 =>
                intro wq_36 kq_36
                refine WL.assign rfl rfl (?_)
                refine WL.nil ?_
                exact WX.one ⟨rfl, by exact Chg.refl _ _⟩
              refine DQ.done (fun hd_5 => ?_)
              refine DL.step [(2, _), (64, _)] rfl ⟨rfl, rfl, trivial⟩ rfl (fun wq_37 kq_37 => ?_)
              have zs_kq_37 := kq_37.size
              replace hb_1 := hb_1.pure kq_37
              replace hq := hq.pure kq_37
              replace q4 := q4.pure kq_37
              replace kk := kk.pure kq_37
              replace hd_5 := hd_5.pure kq_37
              refine WL.stores Tryd.sizeOf108 hb_1 rfl rfl (by simp; done) (by simp [Value.oneCell']; done) (by exact Nat.le_of_ble_eq_true rfl) rfl ?_
              intro w_38 hs_38 hn_38 k_38
              have zs_k_38 := k_38.size
              replace hq := hq.chg k_38 (by intro b h1 h2 h3; have h4 : _ = _ := h3; (try dsimp only at h2); exfalso; omega)
              replace q4 := q4.chg k_38 (by intro b h1 h2 h3; have h4 : _ = _ := h3; (try dsimp only at h2); exfalso; omega)
              replace kk := kk.chg k_38 (by intro x h1 h2; have h3 : _ = _ := h2; exfalso; omega)
              replace hd_5 := hd_5.chg k_38 (by intro x h1 h2; exact h2)
              replace hb_1 := hn_38
              refine WL.nil ?_
              refine WX.one0 (v := undef) ⟨hd_5, ?_⟩
              refine DL.done (fun we_39 ke_39 => ?_)
              have zs_ke_39 := ke_39.size
              replace hb_1 := hb_1.pure ke_39
              replace hq := hq.pure ke_39
              replace q4 := q4.pure ke_39
              replace kk := kk.pure ke_39
              replace hd_5 := hd_5.pure ke_39
              refine WX.then_normal (WC.ret (?_))
              refine WX.ret2c (.inl rfl) Tryd.results73 Tryd.isAgg108 Tryd.sizeOf108 hb_1 rfl (by rfl) rfl ?_
              first
                | (have hd := pcD_five (b := b) h14 (eL ▸ hL)
                   have h9 : i0.n = 55 := h69
                   by_cases hc : kinds5 i0 i1 i2 i3 i4
                   ·
                     rw [if_pos hc] at hd
                     refine ⟨_, rfl, ⟨⟨i1.n, i2.n, i3.n, i4.s⟩, ?_, fun q hq9 => ?_⟩, kk⟩
                     ·
                       rw [hd]
                       have h8 : decide (i3.n - i3.n % 2 = 0) = true := decide_eq_true (by have := hc.2.2; omega)
                       rw [h8]
                       rfl
                     ·
                       rw [hd] at hq9
                       injection hq9
                   ·
                     rw [if_neg hc] at hd
                     refine ⟨_, rfl, ⟨⟨i1.n, i2.n, i3.n, i4.s⟩, ?_, fun q hq9 => ?_⟩, kk⟩
                     ·
                       rw [hd]
                       have h8 : decide (i3.n - i3.n % 2 = 0) = false := decide_eq_false (fun h => hc ⟨⟨k0, k1, k2, k3, by omega, by omega⟩, h9, by omega⟩)
                       rw [h8]
                       rfl
                     ·
                       rw [hd] at hq9
                       cases hq9)
                | (have hd := pcD_five (b := b) h14 (eL ▸ hL)
                   have h9 : ¬ i0.n = 55 := h69
                   rw [if_neg (fun hc => h9 hc.2.1)] at hd
                   refine ⟨_, rfl, ⟨⟨i1.n, i2.n, i3.n, i4.s⟩, by rw [hd]; rfl, fun q hq9 => by rw [hd] at hq9; cases hq9⟩, kk⟩)
                | (have hz : unE b ≠ 0 := h14
                   have hd := pcD_bad (b := b) (.inl hz)
                   refine ⟨_, rfl, ⟨zeroC, by rw [hd]; rfl, fun q hq9 => by rw [hd] at hq9; cases hq9⟩, kk⟩)
                | (have hz : (L.length : Int) ≠ 5 := h18
                   have hd := pcD_bad (b := b) (.inr (fun h9 => hz (by rw [eL, h9]; rfl)))
                   refine ⟨_, rfl, ⟨zeroC, by rw [hd]; rfl, fun q hq9 => by rw [hd] at hq9; cases hq9⟩, kk⟩)
                | (have hd := pcD_five (b := b) h14 (eL ▸ hL)
                   have hd2 : pcD b = none := by
                     rw [hd, if_neg]
                     rintro ⟨⟨c0, c1, c2, c3, c4, c5⟩, c6, c7⟩
                     first
                       | omega
                       | (have hjk : j = 0 ∨ j = 1 ∨ j = 2 ∨ j = 3 := by omega
                          rcases hjk with rfl | rfl | rfl | rfl
                          ·
                            rw [hi0] at hx; injection hx with hx; subst hx; omega
                          ·
                            rw [hi1] at hx; injection hx with hx; subst hx; omega
                          ·
                            rw [hi2] at hx; injection hx with hx; subst hx; omega
                          ·
                            rw [hi3] at hx; injection hx with hx; subst hx; omega)
                   refine ⟨_, rfl, ⟨zeroC, by rw [hd2]; rfl, fun q hq9 => by rw [hd2] at hq9; cases hq9⟩, kk⟩)
            ·
              refine WC.draw ((fun x => x = g_1)) [0, 1, 2, 3, 4, 5, 6, 7, 8, 9, 10, 11, 12, 13, 14, 15, 16, 17, 18, 19, 20, 21, 22, 23, 24, 25, 26, 27, 28, 29, 31] [30] mixed rfl rfl (fun wd_4 kd_4 zd_4 => ?_)
              have zs_kd_4 := kd_4.size
              replace hb_1 := hb_1.pure kd_4
              replace hq := hq.pure kd_4
              replace q4 := q4.pure kd_4
              replace kk := kk.pure kd_4
              apply DQ.step (E' := [(4, _)])
              case ho => rfl
              case hs => exact ⟨rfl, trivial⟩
              case hk => rfl
              case h1 =>
                intro wq_6 kq_6
                refine WL.move rfl rfl (?_)
                refine WL.nil ?_
                exact WX.one ⟨rfl, by exact Chg.refl _ _⟩
              apply DQ.step (E' := [(48, _)])
              case ho => rfl
              case hs => exact ⟨rfl, trivial⟩
              case hk => rfl
              case h1 =>
                intro wq_7 kq_7
                have zs_kq_7 := kq_7.size
                replace hq := hq.chg kq_7 (by intro b h1 h2 h3; have h4 : _ = _ := h3; (try dsimp only at h2); exfalso; omega)
                replace q4 := q4.chg kq_7 (by intro b h1 h2 h3; have h4 : _ = _ := h3; (try dsimp only at h2); exfalso; omega)
                replace kk := kk.chg kq_7 (by intro x h1 h2; have h3 : _ = _ := h2; exfalso; omega)
                refine WL.indexC hq.rsl Tryd.underlying76 Tryd.sizeOf75 rfl rfl ⟨hi1, rfl⟩ rfl ?_
                refine WL.nil ?_
                exact WX.one ⟨rfl, by exact Chg.refl _ _⟩
              apply DQ.step (E' := [(49, _)])
              case ho => rfl
              case hs => exact ⟨rfl, trivial⟩
              case hk => rfl
              case h1 =>
                intro wq_8 kq_8
                refine WL.fieldAddr (fld_75_1) rfl rfl (?_)
                refine WL.nil ?_
                exact WX.one ⟨rfl, by exact Chg.refl _ _⟩
              apply DQ.step (E' := [(50, _)])
              case ho => rfl
              case hs => exact ⟨rfl, trivial⟩
              case hk => rfl
              case h1 =>
                intro wq_9 kq_9
                have zs_kq_9 := kq_9.size
                replace hq := hq.chg kq_9 (by intro b h1 h2 h3; have h4 : _ = _ := h3; (try dsimp only at h2); exfalso; omega)
                replace q4 := q4.chg kq_9 (by intro b h1 h2 h3; have h4 : _ = _ := h3; (try dsimp only at h2); exfalso; omega)
                replace kk := kk.chg kq_9 (by intro x h1 h2; have h3 : _ = _ := h2; exfalso; omega)
                refine WL.load Tryd.isAgg3 rfl ((hq.rsl.cellsAt hi1) _ _ rfl) rfl (?_)
                refine WL.nil ?_
                exact WX.one ⟨rfl, by exact Chg.refl _ _⟩
              apply DQ.step (E' := [(4, _)])
              case ho => rfl
              case hs => exact ⟨rfl, trivial⟩
              case hk => rfl
              case h1 =>
                intro wq_10 kq_10
                refine WL.move rfl rfl (?_)
                refine WL.nil ?_
                exact WX.one ⟨rfl, by exact Chg.refl _ _⟩
              apply DQ.step (E' := [(52, _)])
              case ho => rfl
              case hs => exact ⟨rfl, trivial⟩
              case hk => rfl
              case h1 =>
                intro wq_11 kq_11
                have zs_kq_11 := kq_11.size
                replace hq := hq.chg kq_11 (by intro b h1 h2 h3; have h4 : _ = _ := h3; (try dsimp only at h2); exfalso; omega)
                replace q4 := q4.chg kq_11 (by intro b h1 h2 h3; have h4 : _ = _ := h3; (try dsimp only at h2); exfalso; omega)
                replace kk := kk.chg kq_11 (by intro x h1 h2; have h3 : _ = _ := h2; exfalso; omega)
                refine WL.indexC hq.rsl Tryd.underlying76 Tryd.sizeOf75 rfl rfl ⟨hi2, rfl⟩ rfl ?_
                refine WL.nil ?_
                exact WX.one ⟨rfl, by exact Chg.refl _ _⟩
              apply DQ.step (E' := [(53, _)])
              case ho => rfl
              case hs => exact ⟨rfl, trivial⟩
              case hk => rfl
              case h1 =>
                intro wq_12 kq_12
                refine WL.fieldAddr (fld_75_1) rfl rfl (?_)
                refine WL.nil ?_
                exact WX.one ⟨rfl, by exact Chg.refl _ _⟩
              apply DQ.step (E' := [(54, _)])
              case ho => rfl
              case hs => exact ⟨rfl, trivial⟩
              case hk => rfl
              case h1 =>
                intro wq_13 kq_13
                have zs_kq_13 := kq_13.size
                replace hq := hq.chg kq_13 (by intro b h1 h2 h3; have h4 : _ = _ := h3; (try dsimp only at h2); exfalso; omega)
                replace q4 := q4.chg kq_13 (by intro b h1 h2 h3; have h4 : _ = _ := h3; (try dsimp only at h2); exfalso; omega)
                replace kk := kk.chg kq_13 (by intro x h1 h2; have h3 : _ = _ := h2; exfalso; omega)
                refine WL.load Tryd.isAgg3 rfl ((hq.rsl.cellsAt hi2) _ _ rfl) rfl (?_)
                refine WL.nil ?_
                exact WX.one ⟨rfl, by exact Chg.refl _ _⟩
              apply DQ.step (E' := [(4, _)])
              case ho => rfl
              case hs => exact ⟨rfl, trivial⟩
              case hk => rfl
              case h1 =>
                intro wq_14 kq_14
                refine WL.move rfl rfl (?_)
                refine WL.nil ?_
                exact WX.one ⟨rfl, by exact Chg.refl _ _⟩
              apply DQ.step (E' := [(56, _)])
              case ho => rfl
              case hs => exact ⟨rfl, trivial⟩
              case hk => rfl
              case h1 =>
                intro wq_15 kq_15
                have zs_kq_15 := kq_15.size
                replace hq := hq.chg kq_15 (by intro b h1 h2 h3; have h4 : _ = _ := h3; (try dsimp only at h2); exfalso; omega)
                replace q4 := q4.chg kq_15 (by intro b h1 h2 h3; have h4 : _ = _ := h3; (try dsimp only at h2); exfalso; omega)
                replace kk := kk.chg kq_15 (by intro x h1 h2; have h3 : _ = _ := h2; exfalso; omega)
                refine WL.indexC hq.rsl Tryd.underlying76 Tryd.sizeOf75 rfl rfl ⟨hi3, rfl⟩ rfl ?_
                refine WL.nil ?_
                exact WX.one ⟨rfl, by exact Chg.refl _ _⟩
              apply DQ.step (E' := [(57, _)])
              case ho => rfl
              case hs => exact ⟨rfl, trivial⟩
              case hk => rfl
              case h1 =>
                intro wq_16 kq_16
                refine WL.fieldAddr (fld_75_1) rfl rfl (?_)
                refine WL.nil ?_
                exact WX.one ⟨rfl, by exact Chg.refl _ _⟩
              apply DQ.step (E' := [(58, _)])
              case ho => rfl
              case hs => exact ⟨rfl, trivial⟩
              case hk => rfl
              case h1 =>
                intro wq_17 kq_17
                have zs_kq_17 := kq_17.size
                replace hq := hq.chg kq_17 (by intro b h1 h2 h3; have h4 : _ = _ := h3; (try dsimp only at h2); exfalso; omega)
                replace q4 := q4.chg kq_17 (by intro b h1 h2 h3; have h4 : _ = _ := h3; (try dsimp only at h2); exfalso; omega)
                replace kk := kk.chg kq_17 (by intro x h1 h2; have h3 : _ = _ := h2; exfalso; omega)
                refine WL.load Tryd.isAgg3 rfl ((hq.rsl.cellsAt hi3) _ _ rfl) rfl (?_)
                refine WL.nil ?_
                exact WX.one ⟨rfl, by exact Chg.refl _ _⟩
              apply DQ.step (E' := [(4, _)])
              case ho => rfl
              case hs => exact ⟨rfl, trivial⟩
              case hk => rfl
              case h1 =>
                intro wq_18 kq_18
                refine WL.move rfl rfl (?_)
                refine WL.nil ?_
                exact WX.one ⟨rfl, by exact Chg.refl _ _⟩
              apply DQ.step (E' := [(60, _)])
              case ho => rfl
              case hs => exact ⟨rfl, trivial⟩
              case hk => rfl
              case h1 =>
                intro wq_19 kq_19
                have zs_kq_19 := kq_19.size
                replace hq := hq.chg kq_19 (by intro b h1 h2 h3; have h4 : _ = _ := h3; (try dsimp only at h2); exfalso; omega)
                replace q4 := q4.chg kq_19 (by intro b h1 h2 h3; have h4 : _ = _ := h3; (try dsimp only at h2); exfalso; omega)
                replace kk := kk.chg kq_19 (by intro x h1 h2; have h3 : _ = _ := h2; exfalso; omega)
                refine WL.indexC hq.rsl Tryd.underlying76 Tryd.sizeOf75 rfl rfl ⟨hi4, rfl⟩ rfl ?_
                refine WL.nil ?_
                exact WX.one ⟨rfl, by exact Chg.refl _ _⟩
              apply DQ.step (E' := [(61, _)])
              case ho => rfl
              case hs => exact ⟨rfl, trivial⟩
              case hk => rfl
              case h1 =>
                intro wq_20 kq_20
                refine WL.fieldAddr (fld_75_2) rfl rfl (?_)
                refine WL.nil ?_
                exact WX.one ⟨rfl, by exact Chg.refl _ _⟩
              apply DQ.step (E' := [(62, _)])
              case ho => rfl
              case hs => exact ⟨rfl, trivial⟩
              case hk => rfl
              case h1 =>
                intro wq_21 kq_21
                have zs_kq_21 := kq_21.size
                replace hq := hq.chg kq_21 (by intro b h1 h2 h3; have h4 : _ = _ := h3; (try dsimp only at h2); exfalso; omega)
                replace q4 := q4.chg kq_21 (by intro b h1 h2 h3; have h4 : _ = _ := h3; (try dsimp only at h2); exfalso; omega)
                replace kk := kk.chg kq_21 (by intro x h1 h2; have h3 : _ = _ := h2; exfalso; omega)
                refine WL.load Tryd.isAgg9 rfl ((hq.rsl.cellsAt hi4) _ _ rfl) rfl (?_)
                refine WL.nil ?_
                exact WX.one ⟨rfl, by exact Chg.refl _ _⟩
              apply DQ.step (E' := [(51, _), (55, _), (59, _), (63, _)])
              case ho => rfl
              case hs => exact ⟨rfl, rfl, rfl, rfl, trivial⟩
              case hk => rfl
              case h1 =>
                intro wq_22 kq_22
                refine WL.bld rfl (bld_108_0_1_2_3 _ _ _ _) rfl (?_)
                refine WL.nil ?_
                exact WX.one ⟨rfl, by exact Chg.refl _ _⟩
              apply DQ.step (E' := [(4, _)])
              case ho => rfl
              case hs => exact ⟨rfl, trivial⟩
              case hk => rfl
              case h1 =>
                intro wq_23 kq_23
                refine WL.move rfl rfl (?_)
                refine WL.nil ?_
                exact WX.one ⟨rfl, by exact Chg.refl _ _⟩
              apply DQ.step (E' := [(65, _)])
              case ho => rfl
              case hs => exact ⟨rfl, trivial⟩
              case hk => rfl
              case h1 =>
                intro wq_24 kq_24
                have zs_kq_24 := kq_24.size
                replace hq := hq.chg kq_24 (by intro b h1 h2 h3; have h4 : _ = _ := h3; (try dsimp only at h2); exfalso; omega)
                replace q4 := q4.chg kq_24 (by intro b h1 h2 h3; have h4 : _ = _ := h3; (try dsimp only at h2); exfalso; omega)
                replace kk := kk.chg kq_24 (by intro x h1 h2; have h3 : _ = _ := h2; exfalso; omega)
                refine WL.indexC hq.rsl Tryd.underlying76 Tryd.sizeOf75 rfl rfl ⟨hi0, rfl⟩ rfl ?_
                refine WL.nil ?_
                exact WX.one ⟨rfl, by exact Chg.refl _ _⟩
              apply DQ.step (E' := [(66, _)])
              case ho => rfl
              case hs => exact ⟨rfl, trivial⟩
              case hk => rfl
              case h1 =>
                intro wq_25 kq_25
                refine WL.fieldAddr (fld_75_1) rfl rfl (?_)
                refine WL.nil ?_
                exact WX.one ⟨rfl, by exact Chg.refl _ _⟩
              apply DQ.step (E' := [(67, _)])
              case ho => rfl
              case hs => exact ⟨rfl, trivial⟩
              case hk => rfl
              case h1 =>
                intro wq_26 kq_26
                have zs_kq_26 := kq_26.size
                replace hq := hq.chg kq_26 (by intro b h1 h2 h3; have h4 : _ = _ := h3; (try dsimp only at h2); exfalso; omega)
                replace q4 := q4.chg kq_26 (by intro b h1 h2 h3; have h4 : _ = _ := h3; (try dsimp only at h2); exfalso; omega)
                replace kk := kk.chg kq_26 (by intro x h1 h2; have h3 : _ = _ := h2; exfalso; omega)
                refine WL.load Tryd.isAgg3 rfl ((hq.rsl.cellsAt hi0) _ _ rfl) rfl (?_)
                refine WL.nil ?_
                exact WX.one ⟨rfl, by exact Chg.refl _ _⟩
              apply DQ.step (E' := [(68, _)])
              case ho => rfl
              case hs => exact ⟨rfl, trivial⟩
              case hk => rfl
              case h1 =>
                intro wq_27 kq_27
                refine WL.eqlF rfl rfl rfl (h69) ?_
                refine WL.nil ?_
                exact WX.one ⟨rfl, by exact Chg.refl _ _⟩
              apply DQ.step (E' := [(69, _)])
              case ho => rfl
              case hs => exact ⟨rfl, trivial⟩
              case hk => rfl
              case h1 =>
                intro wq_28 kq_28
                refine WL.move rfl rfl (?_)
                refine WL.nil ?_
                exact WX.one ⟨rfl, by exact Chg.refl _ _⟩
              apply DQ.step (E' := [(4, _), (70, _)])
              case ho => rfl
              case hs => exact ⟨rfl, rfl, trivial⟩
              case hk => rfl
              case h1 =>
                intro wq_29 kq_29
                refine WL.pass rfl rfl rfl rfl (WL.nil (?_))
                exact WX.one ⟨rfl, by exact Chg.refl _ _⟩
              apply DQ.step (E' := [(71, _), (70, _)])
              case ho => rfl
              case hs => exact ⟨rfl, rfl, trivial⟩
              case hk => rfl
              case h1 =>
                intro wq_30 kq_30
                have zs_kq_30 := kq_30.size
                replace hq := hq.chg kq_30 (by intro b h1 h2 h3; have h4 : _ = _ := h3; (try dsimp only at h2); exfalso; omega)
                replace q4 := q4.chg kq_30 (by intro b h1 h2 h3; have h4 : _ = _ := h3; (try dsimp only at h2); exfalso; omega)
                replace kk := kk.chg kq_30 (by intro x h1 h2; have h3 : _ = _ := h2; exfalso; omega)
                refine WL.pass rfl rfl rfl rfl (WL.nil (?_))
                exact WX.one ⟨rfl, by exact Chg.refl _ _⟩
              apply DQ.step (E' := [(72, _), (70, _)])
              case ho => rfl
              case hs => exact ⟨rfl, rfl, trivial⟩
              case hk => rfl
              case h1 =>
                intro wq_31 kq_31
                refine WL.pass rfl rfl rfl rfl (WL.nil (?_))
                exact WX.one ⟨rfl, by exact Chg.refl _ _⟩
              apply DQ.step (E' := [(73, _), (70, _)])
              case ho => rfl
              case hs => exact ⟨rfl, rfl, trivial⟩
              case hk => rfl
              case h1 =>
                intro wq_32 kq_32
                have zs_kq_32 := kq_32.size
                replace hq := hq.chg kq_32 (by intro b h1 h2 h3; have h4 : _ = _ := h3; (try dsimp only at h2); exfalso; omega)
                replace q4 := q4.chg kq_32 (by intro b h1 h2 h3; have h4 : _ = _ := h3; (try dsimp only at h2); exfalso; omega)
                replace kk := kk.chg kq_32 (by intro x h1 h2; have h3 : _ = _ := h2; exfalso; omega)
                refine WL.pass rfl rfl rfl rfl (WL.nil (?_))
                exact WX.one ⟨rfl, by exact Chg.refl _ _⟩
              apply DQ.step (E' := [(74, _), (70, _)])
              case ho => rfl
              case hs => exact ⟨rfl, rfl, trivial⟩
              case hk => rfl
              case h1 =>
                intro wq_33 kq_33
                refine WL.pass rfl rfl rfl rfl (WL.nil (?_))
                exact WX.one ⟨rfl, by exact Chg.refl _ _⟩
              apply DQ.step (E' := [(75, _), (70, _)])
              case ho => rfl
              case hs => exact ⟨rfl, rfl, trivial⟩
              case hk => rfl
              case h1 =>
                intro wq_34 kq_34
                refine WL.pass rfl rfl rfl rfl (WL.nil (?_))
                exact WX.one ⟨rfl, by exact Chg.refl _ _⟩
              apply DQ.step (E' := [(70, _), (76, _)])
              case ho => rfl
              case hs => exact ⟨rfl, rfl, trivial⟩
              case hk => rfl
              case h1 =>
                intro wq_35 kq_35
                refine WL.pickF rfl rfl rfl (?_)
                refine WL.nil ?_
                exact WX.one ⟨rfl, by exact Chg.refl _ _⟩
              apply DQ.step (E' := [(77, _)])
              case ho => rfl
              case hs => exact ⟨rfl, trivial⟩
              case hk => rfl
              case h1 =>
                intro wq_36 kq_36
                refine WL.assign rfl rfl (?_)
                refine WL.nil ?_
                exact WX.one ⟨rfl, by exact Chg.refl _ _⟩
              refine DQ.done (fun hd_5 => ?_)
              refine DL.step [(2, _), (64, _)] rfl ⟨rfl, rfl, trivial⟩ rfl (fun wq_37 kq_37 => ?_)
              have zs_kq_37 := kq_37.size
              replace hb_1 := hb_1.pure kq_37
              replace hq := hq.pure kq_37
              replace q4 := q4.pure kq_37
              replace kk := kk.pure kq_37
              replace hd_5 := hd_5.pure kq_37
              refine WL.stores Tryd.sizeOf108 hb_1 rfl rfl (by simp; done) (by simp [Value.oneCell']; done) (by exact Nat.le_of_ble_eq_true rfl) rfl ?_
              intro w_38 hs_38 hn_38 k_38
              have zs_k_38 := k_38.size
              replace hq := hq.chg k_38 (by intro b h1 h2 h3; have h4 : _ = _ := h3; (try dsimp only at h2); exfalso; omega)
              replace q4 := q4.chg k_38 (by intro b h1 h2 h3; have h4 : _ = _ := h3; (try dsimp only at h2); exfalso; omega)
              replace kk := kk.chg k_38 (by intro x h1 h2; have h3 : _ = _ := h2; exfalso; omega)
              replace hd_5 := hd_5.chg k_38 (by intro x h1 h2; exact h2)
              replace hb_1 := hn_38
              refine WL.nil ?_
              refine WX.one0 (v := undef) ⟨hd_5, ?_⟩
              refine DL.done (fun we_39 ke_39 => ?_)
              have zs_ke_39 := ke_39.size
              replace hb_1 := hb_1.pure ke_39
              replace hq := hq.pure ke_39
              replace q4 := q4.pure ke_39
              replace kk := kk.pure ke_39
              replace hd_5 := hd_5.pure ke_39
              refine WX.then_normal (WC.ret (?_))
              refine WX.ret2c (.inl rfl) Tryd.results73 Tryd.isAgg108 Tryd.sizeOf108 hb_1 rfl (by rfl) rfl ?_
              first
                | (have hd := pcD_five (b := b) h14 (eL ▸ hL)
                   have h9 : i0.n = 55 := h69
                   by_cases hc : kinds5 i0 i1 i2 i3 i4
                   ·
                     rw [if_pos hc] at hd
                     refine ⟨_, rfl, ⟨⟨i1.n, i2.n, i3.n, i4.s⟩, ?_, fun q hq9 => ?_⟩, kk⟩
                     ·
                       rw [hd]
                       have h8 : decide (i3.n - i3.n % 2 = 0) = true := decide_eq_true (by have := hc.2.2; omega)
                       rw [h8]
                       rfl
                     ·
                       rw [hd] at hq9
                       injection hq9
                   ·
                     rw [if_neg hc] at hd
                     refine ⟨_, rfl, ⟨⟨i1.n, i2.n, i3.n, i4.s⟩, ?_, fun q hq9 => ?_⟩, kk⟩
                     ·
                       rw [hd]
                       have h8 : decide (i3.n - i3.n % 2 = 0) = false := decide_eq_false (fun h => hc ⟨⟨k0, k1, k2, k3, by omega, by omega⟩, h9, by omega⟩)
                       rw [h8]
                       rfl
                     ·
                       rw [hd] at hq9
                       cases hq9)
                | (have hd := pcD_five (b := b) h14 (eL ▸ hL)
                   have h9 : ¬ i0.n = 55 := h69
                   rw [if_neg (fun hc => h9 hc.2.1)] at hd
                   refine ⟨_, rfl, ⟨⟨i1.n, i2.n, i3.n, i4.s⟩, by rw [hd]; rfl, fun q hq9 => by rw [hd] at hq9; cases hq9⟩, kk⟩)
                | (have hz : unE b ≠ 0 := h14
                   have hd := pcD_bad (b := b) (.inl hz)
                   refine ⟨_, rfl, ⟨zeroC, by rw [hd]; rfl, fun q hq9 => by rw [hd] at hq9; cases hq9⟩, kk⟩)
                | (have hz : (L.length : Int) ≠ 5 := h18
                   have hd := pcD_bad (b := b) (.inr (fun h9 => hz (by rw [eL, h9]; rfl)))
                   refine ⟨_, rfl, ⟨zeroC, by rw [hd]; rfl, fun q hq9 => by rw [hd] at hq9; cases hq9⟩, kk⟩)
                | (have hd := pcD_five (b := b) h14 (eL ▸ hL)
                   have hd2 : pcD b = none := by
                     rw [hd, if_neg]
                     rintro ⟨⟨c0, c1, c2, c3, c4, c5⟩, c6, c7⟩
                     first
                       | omega
                       | (have hjk : j = 0 ∨ j = 1 ∨ j = 2 ∨ j = 3 := by omega
                          rcases hjk with rfl | rfl | rfl | rfl
                          ·
                            rw [hi0] at hx; injection hx with hx; subst hx; omega
                          ·
                            rw [hi1] at hx; injection hx with hx; subst hx; omega
                          ·
                            rw [hi2] at hx; injection hx with hx; subst hx; omega
                          ·
                            rw [hi3] at hx; injection hx with hx; subst hx; omega)
                   refine ⟨_, rfl, ⟨zeroC, by rw [hd2]; rfl, fun q hq9 => by rw [hd2] at hq9; cases hq9⟩, kk⟩)
end Go.Proofs.YtjeldcjchipdgaaDoor
