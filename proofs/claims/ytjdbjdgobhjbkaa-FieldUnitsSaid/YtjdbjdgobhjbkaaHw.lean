import Derived.Test.YtjdbjdgobhjbkaaHh
namespace Go.HL
open Go.RowKit
/-! regions that draw their order: quiet operations that hang on loud ones -/
def flatP : List (Nat × List Nat) → List Nat
  | [] => []
  | (r, C) :: t => r :: (C ++ flatP t)
/-- those of a list that come behind an operation, whatever is drawn -/
def closP (ops : Array Oper) : List Nat → List Nat → List Nat
  | [], acc => acc
  | i :: l, acc => closP ops l (bif acc.any (fun j => before? ops j i) then i :: acc else acc)
def behindOk (ops : Array Oper) : List (Nat × List Nat) → Bool
  | [] => true
  | (r, C) :: t => (C ++ flatP t).all (fun i => (closP ops (C ++ flatP t) [r]).contains i) && behindOk ops t
def drawOkP (ops : Array Oper) (C0 : List Nat) (rest : List (Nat × List Nat)) : Bool :=
  ((List.range ops.size).all fun i => (C0 ++ flatP rest).contains i) && ((C0 ++ flatP rest).all fun i => decide (i < ops.size)) &&
  ((List.range ops.size).all fun i => (List.range ops.size).all fun j => i == j || dstOf ops i == none || dstOf ops i != dstOf ops j) &&
  ((List.range ops.size).all fun i => ((ops[i]?).map (·.after.toList.all fun e => !Region.binds .any e || decide (e.on < i))).getD true) &&
  srcOk ops [] (C0 ++ flatP rest) && behindOk ops rest && nodupB (C0 ++ flatP rest)
theorem closP_spec {ops : Array Oper} {listed : Array Bool} {r : Nat} (hclo : ∀ i, listed.getD i false = true → ∀ j, before? ops j i = true → listed.getD j false = true) (hr : listed.getD r false = false) :
    ∀ {l acc : List Nat}, (∀ i ∈ acc, listed.getD i false = false) → ∀ i ∈ closP ops l acc, listed.getD i false = false
  | [], _, h, i, hi => h i hi
  | k :: l, acc, h, i, hi => by
    simp only [closP] at hi
    refine closP_spec hclo hr (fun j hj => ?_) i hi
    cases hb : acc.any (fun j => before? ops j k) with
    | false => rw [hb] at hj; exact h j hj
    | true =>
      rw [hb] at hj
      rcases List.mem_cons.1 hj with h1 | h1
      · subst h1
        obtain ⟨m, hm, hmb⟩ := List.any_eq_true.1 hb
        cases hl : listed.getD j false with
        | false => rfl
        | true =>
          have := hclo j hl m hmb
          rw [h m hm] at this
          cases this
      · exact h j h1
theorem closP_ready {ops : Array Oper} {listed : Array Bool} {r : Nat} (hclo : ∀ i, listed.getD i false = true → ∀ j, before? ops j i = true → listed.getD j false = true) (hr : listed.getD r false = false) {i : Nat} (hpre : ∀ j, before? ops j i = true → listed.getD j false = true) :
    ∀ {l acc : List Nat}, (∀ i ∈ acc, listed.getD i false = false) → i ∉ acc → i ∉ closP ops l acc
  | [], _, _, h2 => h2
  | k :: l, acc, h, h2 => by
    simp only [closP]
    cases hb : acc.any (fun j => before? ops j k) with
    | false => exact closP_ready hclo hr hpre h h2
    | true =>
      obtain ⟨m, hm, hmb⟩ := List.any_eq_true.1 hb
      refine closP_ready hclo hr hpre (fun j hj => ?_) (fun hc => ?_)
      · rcases List.mem_cons.1 hj with h1 | h1
        · subst h1
          cases hl : listed.getD j false with
          | false => rfl
          | true =>
            have := hclo j hl m hmb
            rw [h m hm] at this
            cases this
        · exact h j h1
      · rcases List.mem_cons.1 hc with h1 | h1
        · subst h1
          have := hpre m hmb
          rw [h m hm] at this
          cases this
        · exact h2 h1
section
variable (P : Program) (ops : Array Oper) (Q : Exit → Act → World → Prop) (N : Nat) (M : Nat → Prop)
def DPQ (w0 : World) (next : Env → Prop) : List Nat → Env → Prop
  | [], E => next E
  | i :: is, E => ∃ v, (∀ o, ops[i]? = some o → ∀ w', Chg M w0 w' → WL P ops (One o.dst fun u w'' => u = v ∧ Chg Nob w' w'') N [o] (restr ops i E) w') ∧ DPQ w0 next is (putE E (dstOf ops i) v)
def DPR : List (Nat × List Nat) → Env → World → Prop
  | [], E, w => ∀ w', Chg Nob w w' → WX Q .normal N E w'
  | (r, C) :: t, E, w => ∀ w', Chg Nob w w' → ∀ o, ops[r]? = some o → WL P ops (One o.dst fun v w'' => Chg M w' w'' ∧ DPQ P ops N M w'' (fun E2 => DPR t E2 w'') C (putE E o.dst v)) N [o] (restr ops r E) w'
end
section
variable {P : Program} {ops : Array Oper} {Q : Exit → Act → World → Prop} {N : Nat} {M : Nat → Prop} {w0 : World} {E0 : Env}
theorem DPQ_spec {next : Env → Prop} : ∀ {is : List Nat} {E : Env}, is.Nodup → DPQ P ops N M w0 next is E → ∃ c : Nat → Value, next (envAfter ops c is E) ∧
    ∀ pre i post, is = pre ++ i :: post → ∀ o, ops[i]? = some o → ∀ w', Chg M w0 w' → WL P ops (One o.dst fun u w'' => u = c i ∧ Chg Nob w' w'') N [o] (restr ops i (envAfter ops c pre E)) w'
  | [], E, _, h => ⟨fun _ => undef, h, fun pre i post hx => by cases pre <;> cases hx⟩
  | i :: is, E, hn, h => by
    obtain ⟨v, h1, h2⟩ := h
    obtain ⟨c, h3, h4⟩ := DPQ_spec (List.nodup_cons.1 hn).2 h2
    have hi := (List.nodup_cons.1 hn).1
    let c' : Nat → Value := fun j => if j = i then v else c j
    have hc : ∀ j, j ∈ is → c j = c' j := fun j hj => by
      have : j ≠ i := fun e => hi (e ▸ hj)
      simp [c', this]
    have hci : c' i = v := by simp [c']
    refine ⟨c', ?_, ?_⟩
    · show next (envAfter ops c' is (putE E (dstOf ops i) (c' i)))
      rw [hci, ← envAfter_congr ops c c' is _ hc]
      exact h3
    · intro pre j post hx o ho w' hw
      cases pre with
      | nil =>
        injection hx with hx1 hx2
        subst hx1
        rw [hci]
        exact h1 o ho w' hw
      | cons p pre =>
        injection hx with hx1 hx2
        subst hx1
        have := h4 pre j post hx2 o ho w' hw
        have hj : j ∈ is := by rw [hx2]; simp
        rw [hc j hj, envAfter_congr ops c c' pre _ (fun k hk => hc k (by rw [hx2]; simp [hk]))] at this
        show WL P ops _ N [o] (restr ops j (envAfter ops c' pre (putE E (dstOf ops i) (c' i)))) w'
        rw [hci]
        exact this
theorem Mid.cong {listed : Array Bool} {a : Act} {vals vals' : Nat → Value} (m : Mid ops N E0 listed a vals) (h : ∀ j, listed.getD j false = true → vals j = vals' j) : Mid ops N E0 listed a vals' :=
  ⟨m.sz, m.tsz, m.dfs, fun i hi hl t ht => by rw [← h i hl]; exact m.done i hi hl t ht, m.old, m.clo⟩
/-- a quiet operation of those that are ready: it may run at any later time -/
def QF (P : Program) (ops : Array Oper) (N : Nat) (M : Nat → Prop) (E0 : Env) (vals : Nat → Value) (pre : List Nat) (w1 : World) (i : Nat) : Prop :=
  ∃ pr post, pre = pr ++ i :: post ∧ ∀ o, ops[i]? = some o → ∀ w', Chg M w1 w' → WL P ops (One o.dst fun u w'' => u = vals i ∧ Chg Nob w' w'') N [o] (restr ops i (envAfter ops vals pr E0)) w'
theorem WC.drawP {id : Nat} (M : Nat → Prop) (C0 : List Nat) (rest0 : List (Nat × List Nat)) (hm : P.follows .mixedOrders = true) (hok : drawOkP ops C0 rest0 = true) (hN : ((List.range ops.size).all fun i => (dstOf ops i).all fun t => Nat.blt t N) = true) {w : World}
    (h0 : ∀ wd, Chg Nob w wd → wd.heap.size = w.heap.size → DPQ P ops N M wd (fun E => DPR P ops Q N M rest0 E wd) C0 E0) : WC P (.region id ops true) Q N E0 w := fun a0 ha0 => by
  have h := h0 w.drew (Chg.drew w) rfl
  simp only [drawOkP, Bool.and_eq_true, decide_eq_true_eq] at hok
  obtain ⟨⟨⟨⟨⟨⟨hpart, hlt0⟩, hdst0⟩, hback0⟩, hsrc⟩, hbeh0⟩, hnd⟩ := hok
  replace hnd := nodupB_spec hnd
  obtain ⟨SEQ, hSEQ⟩ : ∃ SEQ, SEQ = C0 ++ flatP rest0 := ⟨_, rfl⟩
  rw [← hSEQ] at hpart hlt0 hsrc hnd
  have hlt : ∀ k ∈ SEQ, k < ops.size := fun k hk => by simpa using List.all_eq_true.1 hlt0 k hk
  have hdst : ∀ i j, i < ops.size → j < ops.size → i ≠ j → ∀ t, dstOf ops i = some t → dstOf ops j ≠ some t := by
    intro i j hi hj hne t h1 h2
    have := List.all_eq_true.1 (List.all_eq_true.1 hdst0 i (by simpa using hi)) j (by simpa using hj)
    simp [h1, h2, hne] at this
  have hback : ∀ i, i < ops.size → ∀ o, ops[i]? = some o → ∀ e ∈ o.after, Region.binds .any e = true → e.on < i := by
    intro i hi o ho e he hb
    have := List.all_eq_true.1 hback0 i (by simpa using hi)
    simp only [ho, Option.map_some, Option.getD_some] at this
    rw [List.all_eq_true] at this
    have := this e (by simpa using he)
    simpa [hb] using this
  have hNt : ∀ i, i < ops.size → ∀ t, dstOf ops i = some t → t < N := by
    intro i hi t ht
    have := List.all_eq_true.1 hN i (by simpa using hi)
    simpa [ht] using this
  have hin : ∀ i, i < ops.size → i ∈ SEQ := fun i hi => by simpa using List.all_eq_true.1 hpart i (by simpa using hi)
  have hgs : ∀ (listed : Array Bool) (i j : Nat), i < listed.size → (listed.setIfInBounds i true).getD j false = if j = i then true else listed.getD j false := by
    intro listed i j hil
    simp only [Array.getD_eq_getD_getElem?, Array.getElem?_setIfInBounds]
    by_cases e : j = i
    · subst e; simp [hil]
    · have : ¬ i = j := fun x => e x.symm
      simp [this, e]
  have hout : ∀ (listed : Array Bool), listed.size = ops.size → ∀ i, listed.getD i false = true → i < ops.size := by
    intro listed hsz i hl
    rcases Nat.lt_or_ge i ops.size with h1 | h1
    · exact h1
    · simp [Array.getD_eq_getD_getElem?, Array.getElem?_eq_none (show listed.size ≤ i by omega)] at hl
  have fin : ∀ (listed : Array Bool) (a : Act) (w1 wp : World) (vals : Nat → Value) (pre : List Nat) (rest : List (Nat × List Nat)), SEQ = pre ++ flatP rest → Mid ops N E0 listed a vals → (∀ i ∈ flatP rest, listed.getD i false = false) →
      Chg Nob wp w1 → DPR P ops Q N M rest (envAfter ops vals pre E0) wp → (∀ i, i < ops.size → listed.getD i false = true) → Q .normal a w1 := by
    intro listed a w1 wp vals pre rest hS m hrs hpw hdl hall
    cases rest with
    | cons p rest =>
      obtain ⟨r, C⟩ := p
      have h1 := hall r (hlt r (by rw [hS]; simp [flatP]))
      have h2 := hrs r (by simp [flatP])
      rw [h1] at h2; cases h2
    | nil =>
      simp only [flatP, List.append_nil] at hS
      refine hdl w1 hpw a ⟨m.tsz, m.dfs, fun t v ht => ?_⟩
      rcases (Rep.start ops E0 vals).after pre t v ht with ⟨j, hj, hd, rfl⟩ | ⟨h1, h2⟩
      · have hjl := hlt j (by rw [hS]; simpa using hj)
        exact m.done j hjl (hall j hjl) t hd
      · refine m.old t v h2 fun j hj _ => h1 j ?_
        have := hin j hj
        rw [hS] at this
        simpa using this
  have key : ∀ (fuel : Nat) (listed : Array Bool) (a : Act) (w1 wp : World) (vals : Nat → Value) (pre : List Nat) (rest : List (Nat × List Nat)), SEQ = pre ++ flatP rest → Mid ops N E0 listed a vals → (∀ i ∈ pre, listed.getD i false = true ∨ QF P ops N M E0 vals pre w1 i) → (∀ i ∈ flatP rest, listed.getD i false = false) →
      behindOk ops rest = true → Chg Nob wp w1 → DPR P ops Q N M rest (envAfter ops vals pre E0) wp → ((List.range ops.size).filter fun i => !listed.getD i false).length ≤ fuel → wpAny P .any ops Q fuel listed a w1 := by
    intro fuel
    induction fuel with
    | zero =>
      intro listed a w1 wp vals pre rest hS m hQ hrs hbe hpw hdl hf
      have hall : ∀ i, i < ops.size → listed.getD i false = true := by
        intro i hi
        have h0 := List.length_eq_zero_iff.1 (Nat.le_zero.1 hf)
        have : i ∉ (List.range ops.size).filter fun i => !listed.getD i false := by rw [h0]; simp
        simpa [hi] using this
      refine ⟨?_, fin listed a w1 wp vals pre rest hS m hrs hpw hdl hall⟩
      refine List.eq_nil_iff_forall_not_mem.2 fun i hi => ?_
      obtain ⟨h1, h2, _⟩ := mem_ready hi
      have h3 := hall i h1
      have : i < listed.size := by rw [m.sz]; exact h1
      simp [Array.getD_eq_getD_getElem?, this] at h2 h3
      rw [h2] at h3; cases h3
    | succ fuel ih =>
      intro listed a w1 wp vals pre rest hS m hQ hrs hbe hpw hdl hf
      refine ⟨fun hnil => fin listed a w1 wp vals pre rest hS m hrs hpw hdl (ready_nil m.sz hback hnil), fun i hi => ?_⟩
      obtain ⟨hilt, hno, hpre⟩ := mem_ready hi
      have hil : i < listed.size := by rw [m.sz]; exact hilt
      have hno' : listed.getD i false = false := by
        simp [Array.getD_eq_getD_getElem?, hil] at hno ⊢; exact hno
      have ho : ops[i]? = some ops[i] := Array.getElem?_eq_getElem hilt
      have hdo := dstOf_eq ho
      have hf' : ((List.range ops.size).filter fun j => !(listed.setIfInBounds i true).getD j false).length ≤ fuel := by
        have e1 : ((List.range ops.size).filter fun j => !(listed.setIfInBounds i true).getD j false) = ((List.range ops.size).filter fun j => !listed.getD j false).filter fun j => j != i := by
          rw [List.filter_filter]
          congr 1
          funext j
          rw [hgs listed i j hil]
          by_cases e : j = i <;> simp [e]
        rw [e1]
        have : (((List.range ops.size).filter fun j => !listed.getD j false).filter fun j => j != i).length < ((List.range ops.size).filter fun j => !listed.getD j false).length := by
          rw [List.length_filter_lt_length_iff_exists]
          exact ⟨i, List.mem_filter.2 ⟨by simpa using hilt, by rw [hno']; rfl⟩, by simp⟩
        omega
      have hiS := hin i hilt
      rw [hS] at hiS
      rcases List.mem_append.1 hiS with hip | hir
      · rcases hQ i hip with h1 | ⟨pr, post, hsp, hq⟩
        · rw [hno'] at h1; cases h1
        · have h1 := hq _ ho w1 (Chg.refl M w1)
          have hrep : Rep ops E0 vals pr (envAfter ops vals pr E0) := by simpa using (Rep.start ops E0 vals).after pr
          have hh := m.holds hsrc (pre := pr) (post := post ++ flatP rest) (i := i) (by rw [hS, hsp]; simp) hlt hrep hpre hno
          refine wpOp_mono ?_ (wpOp_of_WL ho hh (fun t ht => hNt i hilt t (by rw [hdo]; exact ht)) h1)
          rintro a' w' ⟨v, rfl, rfl, k⟩
          rw [← hdo]
          have hv : ∀ j, (if j = i then vals i else vals j) = vals j := fun j => by
            by_cases e : j = i
            · subst e; simp
            · simp [e]
          have hm' := m.put hilt hdst (hNt i hilt) hpre hno (vals i)
          simp only [hv] at hm'
          refine ih _ _ w' wp vals pre rest hS hm' (fun j hj => ?_) (fun j hj => ?_) hbe (hpw.pure k) hdl hf'
          · by_cases e : j = i
            · left
              rw [hgs listed i j hil, if_pos e]
            · rcases hQ j hj with h2 | ⟨pr2, post2, hsp2, hq2⟩
              · left
                rw [hgs listed i j hil, if_neg e]
                exact h2
              · exact .inr ⟨pr2, post2, hsp2, fun o ho w2 hw2 => hq2 o ho w2 ((k.mono (fun _ _ f => f.elim)).trans hw2 (fun _ _ hx => hx))⟩
          · have : j ≠ i := by
              rintro rfl
              rw [hS] at hnd
              exact (List.nodup_append.1 hnd).2.2 j hip j hj rfl
            rw [hgs listed i j hil, if_neg this]; exact hrs j hj
      · cases rest with
        | nil => cases hir
        | cons p t =>
          obtain ⟨r, C⟩ := p
          simp only [behindOk, Bool.and_eq_true] at hbe
          obtain ⟨hbe1, hbe2⟩ := hbe
          have hrl := hrs r (by simp [flatP])
          have hclo : ∀ i, listed.getD i false = true → ∀ j, before? ops j i = true → listed.getD j false = true := fun i hl j hb => m.clo i (hout listed m.sz i hl) hl j hb
          have hir2 : i = r := by
            rcases List.mem_cons.1 (show i ∈ r :: (C ++ flatP t) from hir) with h1 | h1
            · exact h1
            · exfalso
              have h2 : i ∈ closP ops (C ++ flatP t) [r] := by simpa using List.all_eq_true.1 hbe1 i h1
              refine closP_ready hclo hrl hpre (fun j hj => ?_) (fun hj => ?_) h2
              · have : j = r := by simpa using hj
                rw [this]; exact hrl
              · have : i = r := by simpa using hj
                rw [hS] at hnd
                have h5 := (List.nodup_append.1 hnd).2.1
                have h6 : r ∉ C ++ flatP t := (List.nodup_cons.1 (show (r :: (C ++ flatP t)).Nodup from h5)).1
                exact h6 (this ▸ h1)
          subst hir2
          have h1 := hdl w1 hpw _ ho
          have hrep : Rep ops E0 vals pre (envAfter ops vals pre E0) := by simpa using (Rep.start ops E0 vals).after pre
          have hh := m.holds hsrc (pre := pre) (post := C ++ flatP t) (i := i) (by rw [hS]; rfl) hlt hrep hpre hno
          refine wpOp_mono ?_ (wpOp_of_WL ho hh (fun t ht => hNt i hilt t (by rw [hdo]; exact ht)) h1)
          rintro a' w' ⟨v, rfl, hM', hdq⟩
          have hndS := hnd
          rw [hS] at hndS
          have hnd2 : (i :: (C ++ flatP t)).Nodup := (List.nodup_append.1 hndS).2.1
          have hnd3 := (List.nodup_cons.1 hnd2).2
          have hCn : C.Nodup := (List.nodup_append.1 hnd3).1
          have hiC : i ∉ C := fun hx => (List.nodup_cons.1 hnd2).1 (List.mem_append_left _ hx)
          have hpd : ∀ j ∈ pre, j ≠ i ∧ j ∉ C := fun j hj => ⟨fun e => (List.nodup_append.1 hndS).2.2 j hj j (by rw [e]; simp [flatP]) rfl, fun hx => (List.nodup_append.1 hndS).2.2 j hj j (by simp [flatP, hx]) rfl⟩
          obtain ⟨c, hnext, hqC⟩ := DPQ_spec hCn hdq
          have hm0 := m.put hilt hdst (hNt i hilt) hpre hno v
          rw [← hdo] at hnext hqC ⊢
          obtain ⟨vals', hv'⟩ : ∃ vals' : Nat → Value, vals' = fun j => if j = i then v else if j ∈ C then c j else vals j := ⟨_, rfl⟩
          have hvi : vals' i = v := by rw [hv']; simp
          have hvp : ∀ j ∈ pre, vals j = vals' j := fun j hj => by
            obtain ⟨h2, h3⟩ := hpd j hj
            rw [hv']
            simp [h2, h3]
          have hvC : ∀ j ∈ C, c j = vals' j := fun j hj => by
            have : j ≠ i := fun e => hiC (e ▸ hj)
            rw [hv']
            simp [this, hj]
          have hm' : Mid ops N E0 (listed.setIfInBounds i true) (a.put (dstOf ops i) v) vals' := hm0.cong (fun j hl => by
            rw [hgs listed i j hil] at hl
            by_cases e : j = i
            · rw [if_pos e, e, hvi]
            · rw [if_neg e] at hl ⊢
              have hjC : j ∉ C := fun hx => by
                have := hrs j (by simp [flatP, hx])
                rw [this] at hl; cases hl
              rw [hv']
              simp [e, hjC])
          have henv : ∀ pr, (∀ k ∈ pr, k ∈ C) → envAfter ops c pr (putE (envAfter ops vals pre E0) (dstOf ops i) v) = envAfter ops vals' (pre ++ i :: pr) E0 := fun pr hpr => by
            rw [envAfter_append, ← envAfter_congr ops vals vals' pre E0 hvp, envAfter_congr ops c vals' pr _ (fun k hk => hvC k (hpr k hk))]
            simp only [envAfter, hvi]
          refine ih _ _ w' w' vals' (pre ++ i :: C) t (by rw [hS]; simp [flatP]) hm' (fun j hj => ?_) (fun j hj => ?_) hbe2 (Chg.refl _ _) ?_ hf'
          · rcases List.mem_append.1 hj with hj | hj
            · rcases hQ j hj with h2 | ⟨pr2, post2, hsp2, hq2⟩
              · left
                rw [hgs listed i j hil, if_neg (hpd j hj).1]
                exact h2
              · refine .inr ⟨pr2, post2 ++ i :: C, by rw [hsp2]; simp, fun o ho w2 hw2 => ?_⟩
                have := hq2 o ho w2 (hM'.trans hw2 (fun _ _ hx => hx))
                rw [hvp j hj, envAfter_congr ops vals vals' pr2 E0 (fun k hk => hvp k (by rw [hsp2]; simp [hk]))] at this
                exact this
            · rcases List.mem_cons.1 hj with h2 | h2
              · left
                rw [hgs listed i j hil, if_pos h2]
              · obtain ⟨pr2, post2, hsp2⟩ := List.append_of_mem h2
                refine .inr ⟨pre ++ i :: pr2, post2, by rw [hsp2]; simp, fun o ho w2 hw2 => ?_⟩
                have := hqC pr2 j post2 hsp2 o ho w2 hw2
                rw [hvC j h2, henv pr2 (fun k hk => by rw [hsp2]; simp [hk])] at this
                exact this
          · have : j ≠ i := by
              rintro rfl
              exact (List.nodup_cons.1 hnd2).1 (List.mem_append_right _ hj)
            rw [hgs listed i j hil, if_neg this]; exact hrs j (by simp [flatP, hj])
          · rw [← henv C (fun k hk => hk)]
            exact hnext
  refine wp_region_any hm ?_
  have hndS := hnd
  rw [hSEQ] at hndS
  obtain ⟨c, hnext, hqC⟩ := DPQ_spec (List.nodup_append.1 hndS).1 h
  refine key ops.size _ a0 w.drew w.drew c C0 rest0 hSEQ ?_ (fun i hi => ?_) (fun i hi => ?_) hbeh0 (Chg.refl _ _) hnext ?_
  · refine ⟨by simp, ha0.size, ha0.defs, fun i hi hl => ?_, fun t v ht _ => ha0.env t v ht, fun i hi hl => ?_⟩
    · simp [Array.getD_eq_getD_getElem?, hi] at hl
    · simp [Array.getD_eq_getD_getElem?, hi] at hl
  · obtain ⟨pr, post, hsp⟩ := List.append_of_mem hi
    exact .inr ⟨pr, post, hsp, fun o ho w2 hw2 => hqC pr i post hsp o ho w2 hw2⟩
  · have hi' := hlt i (by rw [hSEQ]; simp [hi])
    simp [Array.getD_eq_getD_getElem?, hi']
  · refine Nat.le_trans (List.length_filter_le _ _) (by simp)
end
section
variable {P : Program} {ops : Array Oper} {Q : Exit → Act → World → Prop} {N : Nat} {M : Nat → Prop} {w0 w : World} {E E' : Env} {is : List Nat} {i r : Nat} {o : Oper} {next : Env → Prop} {C : List Nat} {t : List (Nat × List Nat)}
theorem DPQ.step {v : Value} (E' : Env) (ho : ops[i]? = some o) (hs : Sub E' E) (hk : (E'.all fun p => (looks ops i).contains p.1) = true)
    (h1 : ∀ w', Chg M w0 w' → WL P ops (One o.dst fun u w'' => u = v ∧ Chg Nob w' w'') N [o] E' w') (h2 : DPQ P ops N M w0 next is (putE E o.dst v)) : DPQ P ops N M w0 next (i :: is) E :=
  ⟨v, fun o' ho' w' hw => by rw [ho] at ho'; injection ho' with ho'; subst ho'; exact (h1 w' hw).sub (sub_restr hs hk), by rw [dstOf_eq ho]; exact h2⟩
theorem DPQ.split {b : Bool} (E' : Env) (ho : ops[i]? = some o) (hs : Sub E' E) (hk : (E'.all fun p => (looks ops i).contains p.1) = true)
    (h1 : ∀ w', Chg M w0 w' → WL P ops (One o.dst fun u w'' => u = .bool b ∧ Chg Nob w' w'') N [o] E' w') (ht : b = true → DPQ P ops N M w0 next is (putE E o.dst (.bool true))) (hf : b = false → DPQ P ops N M w0 next is (putE E o.dst (.bool false))) : DPQ P ops N M w0 next (i :: is) E :=
  DPQ.step E' ho hs hk h1 (by
    cases b
    · exact hf rfl
    · exact ht rfl)
theorem DPQ.done (h : next E) : DPQ P ops N M w0 next [] E := h
theorem DPR.step (E' : Env) (ho : ops[r]? = some o) (hs : Sub E' E) (hk : (E'.all fun p => (looks ops r).contains p.1) = true)
    (h1 : ∀ w', Chg Nob w w' → WL P ops (One o.dst fun v w'' => Chg M w' w'' ∧ DPQ P ops N M w'' (fun E2 => DPR P ops Q N M t E2 w'') C (putE E o.dst v)) N [o] E' w') : DPR P ops Q N M ((r, C) :: t) E w :=
  fun w' hw o' ho' => by rw [ho] at ho'; injection ho' with ho'; subst ho'; exact (h1 w' hw).sub (sub_restr hs hk)
theorem DPR.done (h : ∀ w', Chg Nob w w' → WX Q .normal N E w') : DPR P ops Q N M [] E w := h
end
end Go.HL
