import Derived.Orders
import Derived.Test.YtjdbjdgobhjbkaaHg
namespace Go.HL
open Go.RowKit

/-! A region that draws its order: what only reads (or makes memory and hands back a value that is known) may stand anywhere; what else there is stands in a chain. -/
def dstOf (ops : Array Oper) (i : Nat) : Option Tmp := (ops[i]?).bind (·.dst)
def before? (ops : Array Oper) (j i : Nat) : Bool := ((ops[i]?).map (·.after.toList.any fun e => Region.binds .any e && e.on == j)).getD false
def looks (ops : Array Oper) (i : Nat) : List Tmp := ((ops[i]?).map (Oper.looksAt ops)).getD []
def chainOk (ops : Array Oper) : List Nat → Bool
  | [] => true
  | [_] => true
  | a :: b :: r => before? ops a b && chainOk ops (b :: r)
def srcOk (ops : Array Oper) : List Nat → List Nat → Bool
  | _, [] => true
  | done, i :: r => ((looks ops i).all fun t => (List.range ops.size).all fun j => dstOf ops j != some t || (if done.contains j then before? ops j i else before? ops i j)) && srcOk ops (i :: done) r
def nodupB : List Nat → Bool
  | [] => true
  | a :: r => !r.contains a && nodupB r
theorem nodupB_spec : ∀ {l : List Nat}, nodupB l = true → l.Nodup
  | [], _ => List.nodup_nil
  | a :: r, h => by
    simp only [nodupB, Bool.and_eq_true, Bool.not_eq_true'] at h
    exact List.nodup_cons.2 ⟨by simpa using h.1, nodupB_spec h.2⟩
def drawOk (ops : Array Oper) (C R : List Nat) : Bool :=
  ((List.range ops.size).all fun i => C.contains i || R.contains i) && ((C ++ R).all fun i => decide (i < ops.size)) &&
  ((List.range ops.size).all fun i => (List.range ops.size).all fun j => i == j || dstOf ops i == none || dstOf ops i != dstOf ops j) &&
  ((List.range ops.size).all fun i => ((ops[i]?).map (·.after.toList.all fun e => !Region.binds .any e || decide (e.on < i))).getD true) &&
  srcOk ops [] (C ++ R) && chainOk ops R && nodupB (C ++ R)

def restr (ops : Array Oper) (i : Nat) (E : Env) : Env := E.filter fun p => (looks ops i).contains p.1
theorem restr_lookup {ops : Array Oper} {i : Nat} {E : Env} {t : Nat} {v : Value} (h : (restr ops i E).lookup t = some v) : t ∈ looks ops i ∧ E.lookup t = some v := by
  unfold restr at h
  induction E with
  | nil => simp at h
  | cons p r ih =>
    obtain ⟨s, u⟩ := p
    by_cases hs : (looks ops i).contains s = true
    · rw [List.filter_cons_of_pos (by simpa using hs)] at h
      simp only [List.lookup] at h ⊢
      by_cases e : t = s
      · subst e; simp at h; subst h; simp; simpa using hs
      · have hne : (t == s) = false := by simpa using e
        simp only [hne] at h ⊢
        exact ih h
    · rw [List.filter_cons_of_neg (by simpa using hs)] at h
      obtain ⟨h1, h2⟩ := ih h
      refine ⟨h1, ?_⟩
      have hne : t ≠ s := by rintro rfl; exact hs (by simpa using h1)
      have hne' : (t == s) = false := by simpa using hne
      simp only [List.lookup, hne']
      exact h2

def putE (E : Env) (d : Option Tmp) (v : Value) : Env := match d with | some t => (t, v) :: E | none => E
/-- the end of one operation: what it hands back, and the world -/
def One (d : Option Tmp) (φ : Value → World → Prop) (e : Exit) (a : Act) (w : World) : Prop := e = .normal ∧ a.defers = [] ∧ ∃ v, (∀ t, d = some t → a.tmps[t]? = some v) ∧ φ v w
section
variable (P : Program) (ops : Array Oper) (Q : Exit → Act → World → Prop) (N : Nat) (K : World → Prop) (w0 : World)
def DL : List Nat → Env → World → Prop
  | [], E, w => ∀ w', Chg Nob w w' → WX Q .normal N E w'
  | r :: rs, E, w => ∀ w', Chg Nob w w' → ∀ o, ops[r]? = some o → WL P ops (One o.dst fun v w'' => K w'' ∧ DL rs (putE E o.dst v) w'') N [o] (restr ops r E) w'
def DQ (R : List Nat) : List Nat → Env → Prop
  | [], E => DL P ops Q N K R E w0
  | i :: is, E => ∃ v, (∀ o, ops[i]? = some o → ∀ w', K w' → WL P ops (One o.dst fun u w'' => u = v ∧ Chg Nob w' w'') N [o] (restr ops i E) w') ∧ DQ R is (putE E (dstOf ops i) v)
end
theorem Oper.wp_monoQ {P : Program} {o : Oper} {a : Act} {w : World} {K K' : Act → World → Prop} {Q Q' : Exit → Act → World → Prop} (h : ∀ a w, K a w → K' a w) (hq : ∀ e a w, e ≠ .normal → Q e a w → Q' e a w)
    (hh : o.wp P a w K Q) : o.wp P a w K' Q' := by
  unfold Oper.wp at *
  have hl : LetsOut Q → LetsOut Q' := fun ⟨a, w, h⟩ => ⟨a, w, hq _ a w (by simp) h⟩
  generalize (execOp a.eval o).run P w = r at *
  cases r with
  | ok n w' =>
    cases n <;> simp only [Oper.upon] at hh ⊢ <;>
      first
        | exact h _ _ hh
        | exact Calls.mono hh (fun e w'' he => by
            cases e with
            | returned v => exact h _ _ he
            | panicked ch => exact hq _ _ _ (by simp) he
            | outgrown => exact hl he)
        | exact Rows.mono hh (fun _ _ he => h _ _ he)
  | halt x w' => cases x <;> simp only [Oper.upon] at hh ⊢ <;> first | exact hq _ _ _ (by simp) hh | exact hh
/-- one operation of the region, out of its own little walk -/
theorem wpOp_of_WL {P : Program} {ops : Array Oper} {Q : Exit → Act → World → Prop} {N : Nat} {E : Env} {w : World} {a : Act} {i : Nat} {o : Oper} {φ : Value → World → Prop} (ho : ops[i]? = some o)
    (ha : Holds N (restr ops i E) a) (hd : ∀ t, o.dst = some t → t < N) (h : WL P ops (One o.dst φ) N [o] (restr ops i E) w) :
    wpOp P ops Q i (fun a' w' => ∃ v, a' = a.put o.dst v ∧ φ v w') a w := by
  have h1 := h a ha
  have key : ∀ (v : Value) (w' : World), One o.dst φ .normal (a.put o.dst v) w' → ∃ v', a.put o.dst v = a.put o.dst v' ∧ φ v' w' := by
    rintro v w' ⟨_, _, u, hu, hφ⟩
    cases hdst : o.dst with
    | none => exact ⟨u, rfl, hφ⟩
    | some t =>
      have hlt : t < a.tmps.size := by rw [ha.size]; exact hd t hdst
      have := hu t hdst
      rw [hdst] at this
      simp [Act.put, hlt] at this
      subst this
      exact ⟨v, rfl, hφ⟩
  unfold wpOp
  simp only [ho]
  unfold wpList at h1
  have kq : ∀ e a w, e ≠ Exit.normal → One o.dst φ e a w → Q e a w := fun e _ _ hne h => absurd h.1 hne
  split
  · rename_i hw
    rw [if_pos hw] at h1
    rcases h1 with h1 | ⟨h1, a', w', h2⟩
    · left
      unfold Oper.wp at h1 ⊢
      generalize (execOp a.eval o).run P w = r at *
      cases r with
      | ok n w' =>
        cases n <;> simp only [Oper.upon] at h1 ⊢ <;>
          first
            | exact key _ _ h1
            | (obtain ⟨_, hdf, _⟩ := h1
               exfalso
               revert hdf
               cases o.dst <;> simp [Act.put])
            | exact Calls.mono h1 (fun e w'' he => by
                cases e with
                | returned v => exact key _ _ he
                | panicked ch => exact kq _ _ _ (by simp) he
                | outgrown => exact absurd he (fun ⟨_, _, h⟩ => by have := h.1; cases this))
            | exact Rows.mono h1 (fun _ _ he => key _ _ he)
      | halt x w' => cases x <;> simp only [Oper.upon] at h1 ⊢ <;> first | exact kq _ _ _ (by simp) h1 | exact h1
    · exact absurd h2.1 (by simp)
  · rename_i hw
    rw [if_neg hw] at h1
    exact key _ _ h1

theorem mem_ready {ops : Array Oper} {listed : Array Bool} {i : Nat} (h : i ∈ Region.ready .any ops listed) : i < ops.size ∧ listed.getD i true = false ∧ ∀ j, before? ops j i = true → listed.getD j false = true := by
  simp only [Region.ready, List.mem_filter, List.mem_range, Bool.and_eq_true, Bool.not_eq_true'] at h
  refine ⟨h.1, h.2.1, fun j hj => ?_⟩
  have h2 := h.2.2
  unfold before? at hj
  cases ho : ops[i]? with
  | none => simp [ho] at h2
  | some o =>
    simp only [ho, Option.map_some, Option.getD_some] at h2 hj
    rw [List.any_eq_true] at hj
    rw [Array.all_eq_true'] at h2
    obtain ⟨e, he, hb⟩ := hj
    simp only [Bool.and_eq_true, beq_iff_eq] at hb
    have := h2 e (by simpa using he)
    rw [hb.1, hb.2] at this
    simpa using this
theorem ready_nil {ops : Array Oper} {listed : Array Bool} (hs : listed.size = ops.size) (hb : ∀ i, i < ops.size → ∀ o, ops[i]? = some o → ∀ e ∈ o.after, Region.binds .any e = true → e.on < i) (h : Region.ready .any ops listed = []) : ∀ i, i < ops.size → listed.getD i false = true := by
  intro i
  induction i using Nat.strongRecOn with
  | _ i ih =>
    intro hi
    by_cases hl : listed.getD i false = true
    · exact hl
    · exfalso
      have hm : i ∈ Region.ready .any ops listed := by
        simp only [Region.ready, List.mem_filter, List.mem_range, Bool.and_eq_true, Bool.not_eq_true']
        have hi' : i < listed.size := by omega
        refine ⟨hi, ?_, ?_⟩
        · simp [Array.getD_eq_getD_getElem?, hi'] at hl ⊢; exact hl
        · rw [Array.getElem?_eq_getElem hi]
          simp only [Option.map_some, Option.getD_some]
          rw [Array.all_eq_true']
          intro e he
          by_cases hbe : Region.binds .any e = true
          · have hlt := hb i hi _ (Array.getElem?_eq_getElem hi) e he hbe
            simp [hbe, ih e.on hlt (by omega)]
          · simp [hbe]
      rw [h] at hm
      cases hm

def envAfter (ops : Array Oper) (c : Nat → Value) : List Nat → Env → Env
  | [], E => E
  | i :: r, E => envAfter ops c r (putE E (dstOf ops i) (c i))
theorem envAfter_append (ops : Array Oper) (c : Nat → Value) (l m : List Nat) (E : Env) : envAfter ops c (l ++ m) E = envAfter ops c m (envAfter ops c l E) := by
  induction l generalizing E with
  | nil => rfl
  | cons i r ih => exact ih _
theorem envAfter_congr (ops : Array Oper) (c c' : Nat → Value) (l : List Nat) (E : Env) (h : ∀ i ∈ l, c i = c' i) : envAfter ops c l E = envAfter ops c' l E := by
  induction l generalizing E with
  | nil => rfl
  | cons i r ih =>
    simp only [envAfter]
    rw [h i (by simp)]
    exact ih _ (fun j hj => h j (by simp [hj]))
def Rep (ops : Array Oper) (E0 : Env) (c : Nat → Value) (done : List Nat) (E : Env) : Prop :=
  ∀ t v, E.lookup t = some v → (∃ i ∈ done, dstOf ops i = some t ∧ c i = v) ∨ ((∀ i ∈ done, dstOf ops i ≠ some t) ∧ E0.lookup t = some v)
theorem Rep.put {ops : Array Oper} {E0 E : Env} {c : Nat → Value} {done : List Nat} (h : Rep ops E0 c done E) (i : Nat) : Rep ops E0 c (done ++ [i]) (putE E (dstOf ops i) (c i)) := by
  intro t v ht
  cases hd : dstOf ops i with
  | none =>
    rw [hd] at ht
    rcases h t v ht with ⟨j, hj, h1⟩ | ⟨h1, h2⟩
    · exact .inl ⟨j, by simp [hj], h1⟩
    · refine .inr ⟨fun j hj => ?_, h2⟩
      rcases List.mem_append.1 hj with hj | hj
      · exact h1 j hj
      · have : j = i := by simpa using hj
        subst this; rw [hd]; simp
  | some d =>
    rw [hd] at ht
    simp only [putE, List.lookup] at ht
    by_cases e : t = d
    · subst e
      simp at ht
      exact .inl ⟨i, by simp, hd, ht⟩
    · have hne : (t == d) = false := by simpa using e
      simp only [hne] at ht
      rcases h t v ht with ⟨j, hj, h1⟩ | ⟨h1, h2⟩
      · exact .inl ⟨j, by simp [hj], h1⟩
      · refine .inr ⟨fun j hj => ?_, h2⟩
        rcases List.mem_append.1 hj with hj | hj
        · exact h1 j hj
        · have : j = i := by simpa using hj
          subst this; rw [hd]; intro hx; injection hx with hx; exact e hx.symm
theorem Rep.after {ops : Array Oper} {E0 E : Env} {c : Nat → Value} {done : List Nat} (h : Rep ops E0 c done E) (l : List Nat) : Rep ops E0 c (done ++ l) (envAfter ops c l E) := by
  induction l generalizing E done with
  | nil => simpa [envAfter] using h
  | cons i r ih =>
    have := ih (h.put i)
    simpa [envAfter, List.append_assoc] using this
theorem Rep.start (ops : Array Oper) (E0 : Env) (c : Nat → Value) : Rep ops E0 c [] E0 := fun _ _ h => .inr ⟨fun _ h => (by cases h), h⟩
theorem srcOk_spec {ops : Array Oper} : ∀ {ord done : List Nat}, srcOk ops done ord = true → ∀ pre i post, ord = pre ++ i :: post → ∀ t ∈ looks ops i, ∀ j, j < ops.size → dstOf ops j = some t → (if j ∈ done ∨ j ∈ pre then before? ops j i = true else before? ops i j = true)
  | [], _, _, pre, i, post, h, _, _, _, _, _ => by cases pre <;> cases h
  | k :: r, done, hs, pre, i, post, h, t, ht, j, hj, hd => by
    simp only [srcOk, Bool.and_eq_true] at hs
    cases pre with
    | nil =>
      injection h with h1 h2
      subst h1
      have := List.all_eq_true.1 hs.1 t ht
      have := List.all_eq_true.1 this j (by simpa using hj)
      simp only [hd, bne_self_eq_false, Bool.false_or] at this
      by_cases hm : j ∈ done <;> simp [hm] at this ⊢ <;> exact this
    | cons p pre =>
      injection h with h1 h2
      subst h1
      have := srcOk_spec hs.2 pre i post h2 t ht j hj hd
      by_cases hm : j ∈ done
      · simp [hm] at this ⊢; exact this
      · by_cases hk : j = k
        · subst hk; simp at this ⊢; exact this
        · simp [hm, hk] at this ⊢; exact this
theorem chainOk_spec {ops : Array Oper} : ∀ {R : List Nat}, chainOk ops R = true → ∀ pre a b post, R = pre ++ a :: b :: post → before? ops a b = true
  | [], _, pre, a, b, post, h => by cases pre <;> cases h
  | [x], _, pre, a, b, post, h => by
    cases pre with
    | nil => cases h
    | cons p pre => injection h with h1 h2; cases pre <;> cases h2
  | x :: y :: r, hc, pre, a, b, post, h => by
    simp only [chainOk, Bool.and_eq_true] at hc
    cases pre with
    | nil => injection h with h1 h2; injection h2 with h2 h3; subst h1; subst h2; exact hc.1
    | cons p pre => injection h with h1 h2; exact chainOk_spec hc.2 pre a b post h2
section
variable {P : Program} {ops : Array Oper} {Q : Exit → Act → World → Prop} {N : Nat} {K : World → Prop} {w0 : World} {E0 : Env}
theorem DQ_spec {R : List Nat} : ∀ {is : List Nat} {E : Env}, is.Nodup → DQ P ops Q N K w0 R is E → ∃ c : Nat → Value, DL P ops Q N K R (envAfter ops c is E) w0 ∧
    ∀ pre i post, is = pre ++ i :: post → ∀ o, ops[i]? = some o → ∀ w', K w' → WL P ops (One o.dst fun u w'' => u = c i ∧ Chg Nob w' w'') N [o] (restr ops i (envAfter ops c pre E)) w'
  | [], E, _, h => ⟨fun _ => undef, h, fun pre i post hx => by cases pre <;> cases hx⟩
  | i :: is, E, hn, h => by
    obtain ⟨v, h1, h2⟩ := h
    obtain ⟨c, h3, h4⟩ := DQ_spec (List.nodup_cons.1 hn).2 h2
    have hi := (List.nodup_cons.1 hn).1
    let c' : Nat → Value := fun j => if j = i then v else c j
    have hc : ∀ j, j ∈ is → c j = c' j := fun j hj => by
      have : j ≠ i := fun e => hi (e ▸ hj)
      simp [c', this]
    have hci : c' i = v := by simp [c']
    refine ⟨c', ?_, ?_⟩
    · show DL P ops Q N K R (envAfter ops c' is (putE E (dstOf ops i) (c' i))) w0
      rw [hci, ← envAfter_congr ops c c' is _ hc]
      exact h3
    · intro pre j post hx o ho w' hw
      cases pre with
      | nil =>
        injection hx with hx1 hx2
        subst hx1
        rw [hci]
        exact h1 o ho w' hw
      | cons p pre =>
        injection hx with hx1 hx2
        subst hx1
        have := h4 pre j post hx2 o ho w' hw
        have hj : j ∈ is := by rw [hx2]; simp
        rw [hc j hj, envAfter_congr ops c c' pre _ (fun k hk => hc k (by rw [hx2]; simp [hk]))] at this
        show WL P ops _ N [o] (restr ops j (envAfter ops c' pre (putE E (dstOf ops i) (c' i)))) w'
        rw [hci]
        exact this

/-- the state in the middle of the region -/
structure Mid (ops : Array Oper) (N : Nat) (E0 : Env) (listed : Array Bool) (a : Act) (vals : Nat → Value) : Prop where
  sz : listed.size = ops.size
  tsz : a.tmps.size = N
  dfs : a.defers = []
  done : ∀ i, i < ops.size → listed.getD i false = true → ∀ t, dstOf ops i = some t → a.tmps[t]? = some (vals i)
  old : ∀ t v, E0.lookup t = some v → (∀ i, i < ops.size → listed.getD i false = true → dstOf ops i ≠ some t) → a.tmps[t]? = some v
  clo : ∀ i, i < ops.size → listed.getD i false = true → ∀ j, before? ops j i = true → listed.getD j false = true
theorem Mid.holds {listed : Array Bool} {a : Act} {vals : Nat → Value} (m : Mid ops N E0 listed a vals) {pre post : List Nat} {i : Nat} {ord : List Nat} (hsrc : srcOk ops [] ord = true) (hord : ord = pre ++ i :: post) (hlt : ∀ k ∈ ord, k < ops.size)
    {E : Env} (hrep : Rep ops E0 vals pre E) (hr : ∀ j, before? ops j i = true → listed.getD j false = true) (hno : listed.getD i true = false) : Holds N (restr ops i E) a := by
  refine ⟨m.tsz, m.dfs, fun t v ht => ?_⟩
  obtain ⟨h1, h2⟩ := restr_lookup ht
  rcases hrep t v h2 with ⟨j, hj, hd, rfl⟩ | ⟨h3, h4⟩
  · have hjl : j < ops.size := hlt j (by rw [hord]; simp [hj])
    have := srcOk_spec hsrc pre i post hord t h1 j hjl hd
    simp only [hj, or_true, if_true] at this
    exact m.done j hjl (hr j this) t hd
  · refine m.old t v h4 fun j hj hl hd => ?_
    have hjp : j ∉ pre := fun hm => h3 j hm hd
    have := srcOk_spec hsrc pre i post hord t h1 j hj hd
    simp only [List.not_mem_nil, hjp, or_self, if_false] at this
    have h5 := m.clo j hj hl i this
    have hi : i < ops.size := hlt i (by rw [hord]; simp)
    have : i < listed.size := by rw [m.sz]; exact hi
    simp [Array.getD_eq_getD_getElem?, this] at h5 hno
    rw [h5] at hno
    cases hno
theorem Mid.put {listed : Array Bool} {a : Act} {vals : Nat → Value} (m : Mid ops N E0 listed a vals) {i : Nat} (hi : i < ops.size) (hdst : ∀ i j, i < ops.size → j < ops.size → i ≠ j → ∀ t, dstOf ops i = some t → dstOf ops j ≠ some t) (hN : ∀ t, dstOf ops i = some t → t < N)
    (hr : ∀ j, before? ops j i = true → listed.getD j false = true) (hno : listed.getD i true = false) (v : Value) :
    Mid ops N E0 (listed.setIfInBounds i true) (a.put (dstOf ops i) v) (fun j => if j = i then v else vals j) := by
  have hget : ∀ j, (listed.setIfInBounds i true).getD j false = if j = i then true else listed.getD j false := by
    intro j
    have hil : i < listed.size := by rw [m.sz]; exact hi
    simp only [Array.getD_eq_getD_getElem?, Array.getElem?_setIfInBounds]
    by_cases e : j = i
    · subst e; simp [hil]
    · have : ¬ i = j := fun x => e x.symm
      simp [this, e]
  refine ⟨by simp [m.sz], by cases h : dstOf ops i <;> simp [Act.put, m.tsz], by cases h : dstOf ops i <;> simp [Act.put, m.dfs], ?_, ?_, ?_⟩
  · intro j hj hl t hd
    by_cases e : j = i
    · subst e
      have hlt : t < a.tmps.size := by rw [m.tsz]; exact hN t hd
      simp [hd, Act.put, hlt]
    · rw [hget j, if_neg e] at hl
      have := m.done j hj hl t hd
      simp only [e, if_false]
      cases hdi : dstOf ops i with
      | none => simpa [Act.put] using this
      | some d =>
        have hne : d ≠ t := by
          rintro rfl
          exact hdst i j hi hj (fun x => e x.symm) d hdi hd
        simp [Act.put, Array.getElem?_setIfInBounds_ne hne, this]
  · intro t u ht hnot
    have h1 := m.old t u ht (fun j hj hl => by
      refine hnot j hj ?_
      rw [hget]
      split
      · rfl
      · exact hl)
    cases hdi : dstOf ops i with
    | none => simpa [Act.put] using h1
    | some d =>
      have hne : d ≠ t := by
        rintro rfl
        refine hnot i hi ?_ hdi
        rw [hget]; simp
      simp [Act.put, Array.getElem?_setIfInBounds_ne hne, h1]
  · intro j hj hl k hk
    rw [hget]
    split
    · rfl
    · by_cases e : j = i
      · subst e; exact hr k hk
      · rw [hget j, if_neg e] at hl
        exact m.clo j hj hl k hk

theorem dstOf_eq {ops : Array Oper} {i : Nat} {o : Oper} (h : ops[i]? = some o) : dstOf ops i = o.dst := by simp [dstOf, h]
theorem WC.drawK {id : Nat} (K : World → World → Prop) (C R : List Nat) (hm : P.follows .mixedOrders = true) (hok : drawOk ops C R = true) (hN : ((List.range ops.size).all fun i => (dstOf ops i).all fun t => Nat.blt t N) = true) {w : World} (hK0 : K w.drew w.drew) (hKp : ∀ wd a b, K wd a → Chg Nob a b → K wd b)
    (h0 : ∀ wd, Chg Nob w wd → wd.heap.size = w.heap.size → DQ P ops Q N (K wd) wd R C E0) : WC P (.region id ops true) Q N E0 w := fun a0 ha0 => by
  have h := h0 w.drew (Chg.drew w) rfl
  simp only [drawOk, Bool.and_eq_true, decide_eq_true_eq] at hok
  obtain ⟨⟨⟨⟨⟨⟨hpart, hlt0⟩, hdst0⟩, hback0⟩, hsrc⟩, hchain⟩, hnd⟩ := hok
  replace hnd := nodupB_spec hnd
  have hlt : ∀ k ∈ C ++ R, k < ops.size := fun k hk => by simpa using List.all_eq_true.1 hlt0 k hk
  have hdst : ∀ i j, i < ops.size → j < ops.size → i ≠ j → ∀ t, dstOf ops i = some t → dstOf ops j ≠ some t := by
    intro i j hi hj hne t h1 h2
    have := List.all_eq_true.1 (List.all_eq_true.1 hdst0 i (by simpa using hi)) j (by simpa using hj)
    simp [h1, h2, hne] at this
  have hback : ∀ i, i < ops.size → ∀ o, ops[i]? = some o → ∀ e ∈ o.after, Region.binds .any e = true → e.on < i := by
    intro i hi o ho e he hb
    have := List.all_eq_true.1 hback0 i (by simpa using hi)
    simp only [ho, Option.map_some, Option.getD_some] at this
    rw [List.all_eq_true] at this
    have := this e (by simpa using he)
    simpa [hb] using this
  have hNt : ∀ i, i < ops.size → ∀ t, dstOf ops i = some t → t < N := by
    intro i hi t ht
    have := List.all_eq_true.1 hN i (by simpa using hi)
    simpa [ht] using this
  have hin : ∀ i, i < ops.size → i ∈ C ∨ i ∈ R := fun i hi => by simpa using List.all_eq_true.1 hpart i (by simpa using hi)
  have hCn : C.Nodup := (List.nodup_append.1 hnd).1
  obtain ⟨c, hDL, hq⟩ := DQ_spec hCn h
  have hgs : ∀ (listed : Array Bool) (i j : Nat), i < listed.size → (listed.setIfInBounds i true).getD j false = if j = i then true else listed.getD j false := by
    intro listed i j hil
    simp only [Array.getD_eq_getD_getElem?, Array.getElem?_setIfInBounds]
    by_cases e : j = i
    · subst e; simp [hil]
    · have : ¬ i = j := fun x => e x.symm
      simp [this, e]
  have henv : ∀ (vals : Nat → Value) (rd : List Nat), (∀ i ∈ C, vals i = c i) → envAfter ops vals rd (envAfter ops c C E0) = envAfter ops vals (C ++ rd) E0 := by
    intro vals rd hC
    rw [envAfter_append, envAfter_congr ops vals c C E0 hC]
  have fin : ∀ (listed : Array Bool) (a : Act) (w1 wp : World) (vals : Nat → Value) (rd rs : List Nat), R = rd ++ rs → Mid ops N E0 listed a vals → (∀ i ∈ C, vals i = c i) → (∀ i ∈ rs, listed.getD i false = false) →
      Chg Nob wp w1 → DL P ops Q N (K w.drew) rs (envAfter ops vals rd (envAfter ops c C E0)) wp → (∀ i, i < ops.size → listed.getD i false = true) → Q .normal a w1 := by
    intro listed a w1 wp vals rd rs hR m hC hrs hpw hdl hall
    cases rs with
    | cons r rs =>
      have h1 := hall r (hlt r (by rw [hR]; simp))
      have h2 := hrs r (by simp)
      rw [h1] at h2; cases h2
    | nil =>
      refine hdl w1 hpw a ⟨m.tsz, m.dfs, fun t v ht => ?_⟩
      rw [henv vals rd hC] at ht
      rcases (Rep.start ops E0 vals).after (C ++ rd) t v ht with ⟨j, hj, hd, rfl⟩ | ⟨h1, h2⟩
      · have hjl := hlt j (by rw [hR]; simpa using hj)
        exact m.done j hjl (hall j hjl) t hd
      · refine m.old t v h2 fun j hj _ => h1 j ?_
        have := hin j hj
        rw [hR] at this
        simpa using this
  have key : ∀ (fuel : Nat) (listed : Array Bool) (a : Act) (w1 wp : World) (vals : Nat → Value) (rd rs : List Nat), R = rd ++ rs → Mid ops N E0 listed a vals → (∀ i ∈ C, vals i = c i) → (∀ i ∈ rd, listed.getD i false = true) → (∀ i ∈ rs, listed.getD i false = false) →
      K w.drew w1 → Chg Nob wp w1 → DL P ops Q N (K w.drew) rs (envAfter ops vals rd (envAfter ops c C E0)) wp → ((List.range ops.size).filter fun i => !listed.getD i false).length ≤ fuel → wpAny P .any ops Q fuel listed a w1 := by
    intro fuel
    induction fuel with
    | zero =>
      intro listed a w1 wp vals rd rs hR m hC hrd hrs hM hpw hdl hf
      have hall : ∀ i, i < ops.size → listed.getD i false = true := by
        intro i hi
        have h0 := List.length_eq_zero_iff.1 (Nat.le_zero.1 hf)
        have : i ∉ (List.range ops.size).filter fun i => !listed.getD i false := by rw [h0]; simp
        simpa [hi] using this
      refine ⟨?_, fin listed a w1 wp vals rd rs hR m hC hrs hpw hdl hall⟩
      refine List.eq_nil_iff_forall_not_mem.2 fun i hi => ?_
      obtain ⟨h1, h2, _⟩ := mem_ready hi
      have h3 := hall i h1
      have : i < listed.size := by rw [m.sz]; exact h1
      simp [Array.getD_eq_getD_getElem?, this] at h2 h3
      rw [h2] at h3; cases h3
    | succ fuel ih =>
      intro listed a w1 wp vals rd rs hR m hC hrd hrs hM hpw hdl hf
      refine ⟨fun hnil => fin listed a w1 wp vals rd rs hR m hC hrs hpw hdl (ready_nil m.sz hback hnil), fun i hi => ?_⟩
      obtain ⟨hilt, hno, hpre⟩ := mem_ready hi
      have hil : i < listed.size := by rw [m.sz]; exact hilt
      have hno' : listed.getD i false = false := by
        simp [Array.getD_eq_getD_getElem?, hil] at hno ⊢; exact hno
      have ho : ops[i]? = some ops[i] := Array.getElem?_eq_getElem hilt
      have hdo := dstOf_eq ho
      have hf' : ((List.range ops.size).filter fun j => !(listed.setIfInBounds i true).getD j false).length ≤ fuel := by
        have e1 : ((List.range ops.size).filter fun j => !(listed.setIfInBounds i true).getD j false) = ((List.range ops.size).filter fun j => !listed.getD j false).filter fun j => j != i := by
          rw [List.filter_filter]
          congr 1
          funext j
          rw [hgs listed i j hil]
          by_cases e : j = i <;> simp [e]
        rw [e1]
        have : (((List.range ops.size).filter fun j => !listed.getD j false).filter fun j => j != i).length < ((List.range ops.size).filter fun j => !listed.getD j false).length := by
          rw [List.length_filter_lt_length_iff_exists]
          exact ⟨i, List.mem_filter.2 ⟨by simpa using hilt, by rw [hno']; rfl⟩, by simp⟩
        omega
      by_cases hiC : i ∈ C
      · obtain ⟨pre, post, hsp⟩ := List.append_of_mem hiC
        have hiR : i ∉ R := fun hr => (List.nodup_append.1 hnd).2.2 i hiC i hr rfl
        have h1 := hq pre i post hsp _ ho w1 hM
        have hpc : ∀ k ∈ pre, vals k = c k := fun k hk => hC k (by rw [hsp]; simp [hk])
        have hrep : Rep ops E0 vals pre (envAfter ops c pre E0) := by
          have := (Rep.start ops E0 vals).after pre
          rw [envAfter_congr ops vals c pre E0 hpc] at this
          simpa using this
        have hh := m.holds hsrc (pre := pre) (post := post ++ R) (i := i) (by rw [hsp]; simp) hlt hrep hpre hno
        refine wpOp_mono ?_ (wpOp_of_WL ho hh (fun t ht => hNt i hilt t (by rw [hdo]; exact ht)) h1)
        rintro a' w' ⟨v, rfl, rfl, k⟩
        rw [← hdo]
        have hv : ∀ j, (if j = i then c i else vals j) = vals j := fun j => by
          by_cases e : j = i
          · subst e; simp [hC j hiC]
          · simp [e]
        have hm' := m.put hilt hdst (hNt i hilt) hpre hno (c i)
        simp only [hv] at hm'
        refine ih _ _ w' wp vals rd rs hR hm' hC (fun j hj => ?_) (fun j hj => ?_) (hKp _ _ _ hM k) (hpw.pure k) hdl hf'
        · rw [hgs listed i j hil]; split
          · rfl
          · exact hrd j hj
        · have : j ≠ i := by rintro rfl; exact hiR (by rw [hR]; simp [hj])
          rw [hgs listed i j hil, if_neg this]; exact hrs j hj
      · have hiR : i ∈ R := (hin i hilt).resolve_left hiC
        have hird : i ∉ rd := fun hx => by have := hrd i hx; rw [hno'] at this; cases this
        have hirs : i ∈ rs := by rw [hR] at hiR; exact (List.mem_append.1 hiR).resolve_left hird
        obtain ⟨pre, post, hsp⟩ := List.append_of_mem hirs
        have hpn : pre = [] := by
          rcases List.eq_nil_or_concat pre with h0 | ⟨p0, p, hp⟩
          · exact h0
          · exfalso
            rw [hp] at hsp
            have hb := chainOk_spec hchain (rd ++ p0) p i post (by rw [hR, hsp]; simp)
            have h1 := hpre p hb
            have h2 := hrs p (by rw [hsp]; simp)
            rw [h1] at h2; cases h2
        subst hpn
        rw [List.nil_append] at hsp
        subst hsp
        have h1 := hdl w1 hpw _ ho
        rw [henv vals rd hC] at h1
        have hrep : Rep ops E0 vals (C ++ rd) (envAfter ops vals (C ++ rd) E0) := by simpa using (Rep.start ops E0 vals).after (C ++ rd)
        have hh := m.holds hsrc (pre := C ++ rd) (post := post) (i := i) (by rw [hR]; simp) hlt hrep hpre hno
        refine wpOp_mono ?_ (wpOp_of_WL ho hh (fun t ht => hNt i hilt t (by rw [hdo]; exact ht)) h1)
        rintro a' w' ⟨v, rfl, hM', hdl'⟩
        have hm' := m.put hilt hdst (hNt i hilt) hpre hno v
        rw [← hdo]
        have hC' : ∀ j ∈ C, (if j = i then v else vals j) = c j := fun j hj => by
          have : j ≠ i := by rintro rfl; exact hiC hj
          rw [if_neg this]; exact hC j hj
        have hcr : ∀ j ∈ C ++ rd, vals j = (if j = i then v else vals j) := fun j hj => by
          have : j ≠ i := by rintro rfl; exact (List.mem_append.1 hj).elim hiC hird
          rw [if_neg this]
        refine ih _ _ w' w' (fun j => if j = i then v else vals j) (rd ++ [i]) post (by rw [hR]; simp) hm' hC' (fun j hj => ?_) (fun j hj => ?_) hM' (Chg.refl _ _) ?_ hf'
        · rw [hgs listed i j hil]; split
          · rfl
          · rename_i hne
            rcases List.mem_append.1 hj with hj | hj
            · exact hrd j hj
            · exact absurd (by simpa using hj) hne
        · have : j ≠ i := by
            rintro rfl
            have h5 : R.Nodup := (List.nodup_append.1 hnd).2.1
            rw [hR] at h5
            have := (List.nodup_append.1 h5).2.1
            exact (List.nodup_cons.1 this).1 hj
          rw [hgs listed i j hil, if_neg this]; exact hrs j (by simp [hj])
        · rw [henv _ (rd ++ [i]) hC', ← List.append_assoc, envAfter_append, ← envAfter_congr ops vals _ (C ++ rd) E0 hcr]
          simp only [envAfter, if_true]
          rw [hdo]
          exact hdl'
  refine wp_region_any hm ?_
  refine key ops.size _ a0 w.drew w.drew c [] R rfl ?_ (fun _ _ => rfl) (fun _ h => by cases h) (fun i hi => ?_) hK0 (Chg.refl _ _) hDL ?_
  · refine ⟨by simp, ha0.size, ha0.defs, fun i hi hl => ?_, fun t v ht _ => ha0.env t v ht, fun i hi hl => ?_⟩
    · simp [Array.getD_eq_getD_getElem?, hi] at hl
    · simp [Array.getD_eq_getD_getElem?, hi] at hl
  · have hi' := hlt i (by simp [hi])
    simp [Array.getD_eq_getD_getElem?, hi']
  · refine Nat.le_trans (List.length_filter_le _ _) (by simp)
theorem WC.draw {id : Nat} (M : Nat → Prop) (C R : List Nat) (hm : P.follows .mixedOrders = true) (hok : drawOk ops C R = true) (hN : ((List.range ops.size).all fun i => (dstOf ops i).all fun t => Nat.blt t N) = true) {w : World}
    (h0 : ∀ wd, Chg Nob w wd → wd.heap.size = w.heap.size → DQ P ops Q N (Chg M wd) wd R C E0) : WC P (.region id ops true) Q N E0 w :=
  WC.drawK (Chg M) C R hm hok hN (Chg.refl _ _) (fun _ _ _ h k => h.pure k) h0
/-- with something that stays true all along -/
theorem WC.drawJ {id : Nat} (M : Nat → Prop) (J : World → Prop) (hJp : ∀ a b, J a → Chg Nob a b → J b) (C R : List Nat) (hm : P.follows .mixedOrders = true) (hok : drawOk ops C R = true) (hN : ((List.range ops.size).all fun i => (dstOf ops i).all fun t => Nat.blt t N) = true) {w : World} (hJ : J w)
    (h0 : ∀ wd, Chg Nob w wd → wd.heap.size = w.heap.size → DQ P ops Q N (fun w' => Chg M wd w' ∧ J w') wd R C E0) : WC P (.region id ops true) Q N E0 w :=
  WC.drawK (fun wd w' => Chg M wd w' ∧ J w') C R hm hok hN ⟨Chg.refl _ _, hJp _ _ hJ (Chg.drew w)⟩ (fun _ _ _ h k => ⟨h.1.pure k, hJp _ _ h.2 k⟩) h0
end

section
variable {P : Program} {ops : Array Oper} {Q : Exit → Act → World → Prop} {N : Nat} {M : Nat → Prop} {K : World → Prop} {w0 w : World} {E E' : Env} {R is : List Nat} {i : Nat} {o : Oper}
theorem WX.one {d : Nat} {v : Value} {φ : Value → World → Prop} (h : φ v w) : WX (One (some d) φ) .normal N ((d, v) :: E) w :=
  fun a ha => ⟨rfl, ha.defs, v, fun t ht => by injection ht with ht; subst ht; exact ha.env _ _ (by simp), h⟩
theorem WX.one0 {v : Value} {φ : Value → World → Prop} (h : φ v w) : WX (One none φ) .normal N E w :=
  fun a ha => ⟨rfl, ha.defs, v, fun t ht => (by cases ht), h⟩
theorem sub_restr (hs : Sub E' E) (hk : (E'.all fun p => (looks ops i).contains p.1) = true) : Sub E' (restr ops i E) := by
  induction E' with
  | nil => trivial
  | cons p r ih =>
    obtain ⟨t, v⟩ := p
    simp only [Sub, List.all_cons, Bool.and_eq_true] at hs hk ⊢
    refine ⟨?_, ih hs.2 hk.2⟩
    have h1 := hs.1
    clear ih hs
    unfold restr
    induction E with
    | nil => simp at h1
    | cons q s ih2 =>
      obtain ⟨t2, v2⟩ := q
      simp only [List.lookup] at h1
      by_cases e : t = t2
      · subst e
        rw [List.filter_cons_of_pos (by simpa using hk.1)]
        simpa [List.lookup] using h1
      · have hne : (t == t2) = false := by simpa using e
        simp only [hne] at h1
        by_cases hc : (looks ops i).contains t2 = true
        · rw [List.filter_cons_of_pos (by simpa using hc)]
          simp only [List.lookup, hne]
          exact ih2 h1
        · rw [List.filter_cons_of_neg (by simpa using hc)]
          exact ih2 h1
theorem WL.sub {l : List Oper} (hs : Sub E' E) (h : WL P ops Q N l E' w) : WL P ops Q N l E w := fun a ha => h a (ha.sub hs)
theorem DQ.step {v : Value} (E' : Env) (ho : ops[i]? = some o) (hs : Sub E' E) (hk : (E'.all fun p => (looks ops i).contains p.1) = true)
    (h1 : ∀ w', K w' → WL P ops (One o.dst fun u w'' => u = v ∧ Chg Nob w' w'') N [o] E' w') (h2 : DQ P ops Q N K w0 R is (putE E o.dst v)) : DQ P ops Q N K w0 R (i :: is) E :=
  ⟨v, fun o' ho' w' hw => by rw [ho] at ho'; injection ho' with ho'; subst ho'; exact (h1 w' hw).sub (sub_restr hs hk), by rw [dstOf_eq ho]; exact h2⟩
theorem DQ.split {b : Bool} (E' : Env) (ho : ops[i]? = some o) (hs : Sub E' E) (hk : (E'.all fun p => (looks ops i).contains p.1) = true)
    (h1 : ∀ w', K w' → WL P ops (One o.dst fun u w'' => u = .bool b ∧ Chg Nob w' w'') N [o] E' w') (ht : b = true → DQ P ops Q N K w0 R is (putE E o.dst (.bool true))) (hf : b = false → DQ P ops Q N K w0 R is (putE E o.dst (.bool false))) : DQ P ops Q N K w0 R (i :: is) E :=
  DQ.step E' ho hs hk h1 (by
    cases b
    · exact hf rfl
    · exact ht rfl)
theorem DQ.done (h : Chg M w0 w0 → DL P ops Q N (Chg M w0) R E w0) : DQ P ops Q N (Chg M w0) w0 R [] E := h (Chg.refl _ _)
theorem DQ.doneJ {J : World → Prop} (h : Chg M w0 w0 → DL P ops Q N (fun w' => Chg M w0 w' ∧ J w') R E w0) : DQ P ops Q N (fun w' => Chg M w0 w' ∧ J w') w0 R [] E := h (Chg.refl _ _)
theorem DQ.doneG {S : Nat → Prop} {a : Option Addr} (h : Grow S w0 a w0 a → DL P ops Q N (Chg (fun b => Eqb a b ∧ S b) w0) R E w0) : DQ P ops Q N (Chg (fun b => Eqb a b ∧ S b) w0) w0 R [] E := h (Grow.refl _ _ _)
theorem DL.step (E' : Env) (ho : ops[i]? = some o) (hs : Sub E' E) (hk : (E'.all fun p => (looks ops i).contains p.1) = true)
    (h1 : ∀ w', Chg Nob w w' → WL P ops (One o.dst fun v w'' => K w'' ∧ DL P ops Q N K is (putE E o.dst v) w'') N [o] E' w') : DL P ops Q N K (i :: is) E w :=
  fun w' hw o' ho' => by rw [ho] at ho'; injection ho' with ho'; subst ho'; exact (h1 w' hw).sub (sub_restr hs hk)
theorem DL.done (h : ∀ w', Chg Nob w w' → WX Q .normal N E w') : DL P ops Q N K [] E w := h
end
end Go.HL
