import Derived.Test.YtjdbjdgobhjbkaaHd
namespace Go.HL
open Go.RowKit

/-! kinds of elements -/
structure Enc (α : Type) where
  sz : Nat
  f : α → List Value
  len : ∀ x, (f x).length = sz
  one : ∀ x, ∀ u ∈ f x, u.oneCell' = true
  pos : 0 < sz
def eb : Enc UInt8 := ⟨1, fun b => [v8 b], fun _ => rfl, by simp [Value.oneCell'], by decide⟩
def ei : Enc Int := ⟨1, fun b => [vi b], fun _ => rfl, by simp [Value.oneCell'], by decide⟩
def es : Enc ByteArray := ⟨1, fun b => [.string b], fun _ => rfl, by simp [Value.oneCell'], by decide⟩
def ebool : Enc Bool := ⟨1, fun b => [.bool b], fun _ => rfl, by simp [Value.oneCell'], by decide⟩
def e32 : Enc UInt32 := ⟨1, fun b => [v32 b], fun _ => rfl, by simp [Value.oneCell'], by decide⟩
def e64 : Enc UInt64 := ⟨1, fun b => [v64 b], fun _ => rfl, by simp [Value.oneCell'], by decide⟩
def Enc.all {α : Type} (e : Enc α) (xs : List α) : List Value := xs.flatMap e.f
section enc
variable {α : Type} {e : Enc α}
theorem Enc.all_len (e : Enc α) (xs : List α) : (e.all xs).length = xs.length * e.sz := by
  induction xs with
  | nil => simp [Enc.all]
  | cons x r ih => simp only [Enc.all, List.flatMap_cons, List.length_append, e.len, List.length_cons] at ih ⊢; rw [ih, Nat.add_mul]; omega
theorem Enc.all_one (e : Enc α) (xs : List α) : ∀ u ∈ e.all xs, u.oneCell' = true := by
  intro u hu
  obtain ⟨x, _, hx⟩ := List.mem_flatMap.1 hu
  exact e.one x u hx
theorem Enc.all_append (e : Enc α) (xs ys : List α) : e.all (xs ++ ys) = e.all xs ++ e.all ys := by simp [Enc.all]
theorem Enc.all_at (e : Enc α) {xs : List α} {j : Nat} {x : α} (hx : xs[j]? = some x) {q : Nat} (hq : q < e.sz) : (e.all xs)[j * e.sz + q]? = (e.f x)[q]? := by
  induction xs generalizing j with
  | nil => simp at hx
  | cons y r ih =>
    simp only [Enc.all, List.flatMap_cons]
    cases j with
    | zero =>
      simp at hx
      subst hx
      rw [List.getElem?_append_left (by rw [e.len]; omega)]
      simp
    | succ j =>
      simp at hx
      rw [List.getElem?_append_right (by rw [e.len, Nat.add_mul]; omega), e.len]
      have h := ih hx
      simp only [Enc.all] at h
      rw [← h]
      congr 1
      rw [Nat.add_mul]
      omega
theorem Enc.all_drop (e : Enc α) (xs : List α) (l : Nat) : (e.all xs).drop (l * e.sz) = e.all (xs.drop l) := by
  induction xs generalizing l with
  | nil => simp [Enc.all]
  | cons y r ih =>
    cases l with
    | zero => simp
    | succ l =>
      have h := ih l
      simp only [Enc.all, List.flatMap_cons, List.drop_succ_cons] at h ⊢
      rw [← h, Nat.add_mul, Nat.one_mul, Nat.add_comm, ← List.drop_drop]
      congr 1
      rw [List.drop_append, e.len]
      simp [List.drop_eq_nil_of_le (Nat.le_of_eq (e.len y))]
theorem Enc.all_take (e : Enc α) (xs : List α) (l : Nat) : (e.all xs).take (l * e.sz) = e.all (xs.take l) := by
  induction xs generalizing l with
  | nil => simp [Enc.all]
  | cons y r ih =>
    cases l with
    | zero => simp [Enc.all]
    | succ l =>
      have h := ih l
      simp only [Enc.all, List.flatMap_cons, List.take_succ_cons] at h ⊢
      rw [← h, List.take_append, e.len, Nat.add_mul, Nat.one_mul, Nat.add_sub_cancel]
      congr 1
      exact List.take_of_length_le (by rw [e.len]; omega)
end enc

/-- a slice that is read: its block is of S; its elements -/
structure RSl {α : Type} (S : Nat → Prop) (w : World) (e : Enc α) (ao : Option Addr) (c : Nat) (xs : List α) : Prop where
  at_ : xs ≠ [] → At S ao
  cap : xs.length ≤ c
  sl : Sl w ao xs.length e.sz (e.all xs)
/-- a row of the call's own, with its elements -/
structure Row {α : Type} (S : Nat → Prop) (w : World) (T : TypeId) (e : Enc α) (ao : Option Addr) (c : Nat) (xs : List α) : Prop where
  at_ : At S ao
  own : Own w T e.sz ao xs.length c (e.all xs)
def Eqb (ao : Option Addr) (b : Nat) : Prop := ∃ a, ao = some a ∧ b = a.block
theorem At.eqb {S : Nat → Prop} {ao : Option Addr} {b : Nat} (h : At S ao) (k : Eqb ao b) : S b := by
  obtain ⟨a, e, rfl⟩ := k
  exact h a e
/-- a row has grown, and nothing else has turned -/
structure Grow (S : Nat → Prop) (w : World) (ao : Option Addr) (w' : World) (ao' : Option Addr) : Prop where
  chg : Chg (fun b => Eqb ao b ∧ S b) w w'
  fr : ao' = ao ∨ At (w.heap.size ≤ ·) ao'
theorem Grow.refl (S : Nat → Prop) (w : World) (ao : Option Addr) : Grow S w ao w ao := ⟨Chg.refl _ _, .inl rfl⟩
theorem Grow.trans {S : Nat → Prop} {w w1 w2 : World} {ao a1 a2 : Option Addr} (h : Grow S w ao w1 a1) (k : Grow S w1 a1 w2 a2) : Grow S w ao w2 a2 := by
  refine ⟨h.chg.trans k.chg fun x hx hm => ?_, ?_⟩
  · rcases h.fr with rfl | h1
    · exact hm
    · have := h1.eqb hm.1; omega
  · rcases k.fr with rfl | h1
    · exact h.fr
    · exact .inr (h1.mono fun b hb => Nat.le_trans h.chg.size hb)
theorem Grow.pure {S : Nat → Prop} {w w1 w2 : World} {ao a1 : Option Addr} (h : Grow S w ao w1 a1) (k : Chg Nob w1 w2) : Grow S w ao w2 a1 := ⟨h.chg.pure k, h.fr⟩
section typed
variable {α : Type} {e : Enc α} {S M : Nat → Prop} {w w' : World} {ao : Option Addr} {c : Nat} {xs : List α} {T : TypeId}
theorem RSl.chg (h : RSl S w e ao c xs) (k : Chg M w w') (hd : ∀ b, b < w.heap.size → S b → M b → False) : RSl S w' e ao c xs :=
  ⟨h.at_, h.cap, h.sl.1, fun j u hj => by
    obtain ⟨b, off, ea, hc⟩ := h.sl.2 j u hj
    refine ⟨b, off, ea, k.cell hc (fun hm => ?_)⟩
    have hne : xs ≠ [] := by intro hx; subst hx; simp [Enc.all] at hj
    exact hd b (World.block_lt_of_cell? w _ hc) (h.at_ hne _ ea) hm⟩
theorem RSl.pure (h : RSl S w e ao c xs) (k : Chg Nob w w') : RSl S w' e ao c xs := h.chg k (fun _ _ _ x => x)
theorem RSl.mono {S' : Nat → Prop} (h : RSl S w e ao c xs) (k : ∀ b, S b → S' b) : RSl S' w e ao c xs := ⟨fun hx => (h.at_ hx).mono k, h.cap, h.sl⟩
theorem RSl.nil (S : Nat → Prop) (w : World) (e : Enc α) (ao : Option Addr) (c : Nat) : RSl S w e ao c [] := ⟨fun h => absurd rfl h, by simp, Sl.nil _ _ _⟩
/-- its block is there -/
theorem RSl.lt (h : RSl S w e ao c xs) : RSl (fun b => S b ∧ b < w.heap.size) w e ao c xs := by
  refine ⟨fun hx a ea => ⟨h.at_ hx a ea, ?_⟩, h.cap, h.sl⟩
  obtain ⟨x, r, rfl⟩ := List.exists_cons_of_ne_nil hx
  have hl : 0 < (e.all (x :: r)).length := by rw [Enc.all_len]; exact Nat.mul_pos (by simp) e.pos
  obtain ⟨b, off, hx, hc⟩ := h.sl.2 0 _ (List.getElem?_eq_getElem hl)
  rw [ea] at hx
  injection hx with hx
  subst hx
  exact World.block_lt_of_cell? w _ hc
theorem RSl.old (h : RSl S w e ao c xs) : RSl (fun b => b < w.heap.size) w e ao c xs := h.lt.mono (fun _ h => h.2)
theorem Row.chg (h : Row S w T e ao c xs) (k : Chg M w w') (hd : ∀ b, b < w.heap.size → S b → M b → False) : Row S w' T e ao c xs :=
  ⟨h.at_, h.own.chg k (fun a ea hm => hd _ (h.own.lt a ea) (h.at_ a ea) hm)⟩
theorem Row.pure (h : Row S w T e ao c xs) (k : Chg Nob w w') : Row S w' T e ao c xs := h.chg k (fun _ _ _ x => x)
theorem Row.mono {S' : Nat → Prop} (h : Row S w T e ao c xs) (k : ∀ b, S b → S' b) : Row S' w T e ao c xs := ⟨h.at_.mono k, h.own⟩
theorem Row.rsl (h : Row S w T e ao c xs) : RSl S w e ao c xs := ⟨fun _ => h.at_, h.own.cap, h.own.sl⟩
theorem Row.nil (S : Nat → Prop) (w : World) (T : TypeId) (e : Enc α) : Row S w T e none 0 [] := ⟨At.none S, Own.nil _ _ _⟩
theorem Row.lt (h : Row S w T e ao c xs) : Row (fun b => S b ∧ b < w.heap.size) w T e ao c xs := ⟨fun a ea => ⟨h.at_ a ea, h.own.lt a ea⟩, h.own⟩
theorem RSl.none_nil (h : RSl S w e none c xs) : xs = [] := by
  cases xs with
  | nil => rfl
  | cons x r =>
    have hl : 0 < (e.all (x :: r)).length := by rw [Enc.all_len]; exact Nat.mul_pos (by simp) e.pos
    obtain ⟨b, off, hx, _⟩ := h.sl.2 0 _ (List.getElem?_eq_getElem hl)
    cases hx
theorem Blk.pure {b : Nat} {cs : List Value} (h : Blk w b T cs) (k : Chg Nob w w') : Blk w' b T cs := Blk.chg h k (fun x => x)
theorem Chg.chg {M' : Nat → Prop} {a b c : World} (h : Chg M a b) (k : Chg M' b c) (hM : ∀ x, x < a.heap.size → M' x → M x) : Chg M a c := h.trans k hM
end typed

section
variable {P : Program} {ops : Array Oper} {Q : Exit → Act → World → Prop} {N : Nat} {E : Env} {w : World} {rest : List Oper}
  {d : Nat} {ty : TypeId} {pos : String} {af : Array Edge} {α : Type} {e : Enc α} {S : Nat → Prop}

/-- the place of an element that is read -/
theorem WL.indexT {t T : TypeId} {x y : Operand} {ao : Option Addr} {c : Nat} {k : IntKind} {i : Int} {xs : List α} {j : Nat} {z : α} (ht : P.underlying t = some (.slice T)) (hs : ∀ w, (sizeOf T).run P w = .ok e.sz w) (hr : RSl S w e ao c xs)
    (hx : ev E x = some (.slice ao xs.length c)) (hy : ev E y = some (.int k i)) (hz : xs[j]? = some z ∧ i = (j : Int)) (hd : Nat.blt d N = true)
    (h : ∀ b o, (∀ q v, (e.f z)[q]? = some v → w.cell? ⟨b, o + q, none⟩ = some v) → WL P ops Q N rest ((d, .pointer (some ⟨b, o, none⟩)) :: E) w) : WL P ops Q N (⟨some d, .indexAddr t x y, ty, pos, af, none⟩ :: rest) E w := by
  have hj : j < xs.length := (List.getElem?_eq_some_iff.1 hz.1).1
  refine WL.indexSl ht hs e.pos hr.sl hx hy j hz.2 hj hd fun b o _ hc => h b o fun q v hv => ?_
  have hq : q < e.sz := by
    have := (List.getElem?_eq_some_iff.1 hv).1
    rwa [e.len] at this
  exact hc q v hq (by rw [e.all_at hz.1 hq]; exact hv)

theorem RSl.place {ao : Option Addr} {c : Nat} {xs : List α} {j : Nat} {z : α} (hr : RSl S w e ao c xs) (hz : xs[j]? = some z) : ∃ b off, ao = some ⟨b, off, none⟩ := by
  have hj : j < xs.length := (List.getElem?_eq_some_iff.1 hz).1
  have hl : 0 < (e.all xs).length := by rw [Enc.all_len]; exact Nat.mul_pos (by omega) e.pos
  obtain ⟨b, off, hx, _⟩ := hr.sl.2 0 _ (List.getElem?_eq_getElem hl)
  exact ⟨b, off, hx⟩
theorem RSl.cellsAt {b off : Nat} {c : Nat} {xs : List α} {j : Nat} {z : α} (hr : RSl S w e (some ⟨b, off, none⟩) c xs) (hz : xs[j]? = some z) : ∀ q v, (e.f z)[q]? = some v → w.cell? ⟨b, off + j * e.sz + q, none⟩ = some v := fun q v hv => by
  have hq : q < e.sz := by
    have := (List.getElem?_eq_some_iff.1 hv).1
    rwa [e.len] at this
  obtain ⟨b', off', e', hc⟩ := hr.sl.2 _ v ((e.all_at hz hq).trans hv)
  injection e' with e'
  injection e' with e1 e2
  subst e1; subst e2
  rw [Nat.add_assoc]; exact hc
/-- the same with its place written out -/
theorem WL.indexC {t T : TypeId} {x y : Operand} {b off : Nat} {c : Nat} {k : IntKind} {i : Int} {xs : List α} {j : Nat} {z : α} (_ : RSl S w e (some ⟨b, off, none⟩) c xs) (ht : P.underlying t = some (.slice T)) (hs : ∀ w, (sizeOf T).run P w = .ok e.sz w)
    (hx : ev E x = some (.slice (some ⟨b, off, none⟩) xs.length c)) (hy : ev E y = some (.int k i)) (hz : xs[j]? = some z ∧ i = (j : Int)) (hd : Nat.blt d N = true)
    (h : WL P ops Q N rest ((d, .pointer (some ⟨b, off + j * e.sz, none⟩)) :: E) w) : WL P ops Q N (⟨some d, .indexAddr t x y, ty, pos, af, none⟩ :: rest) E w :=
  WL.index ht hs hx hy hz.2 (List.getElem?_eq_some_iff.1 hz.1).1 hd h
/-- append to a row of the call's own -/
theorem WL.append {t tx T : TypeId} {s x : Operand} {ao : Option Addr} {c bytes : Nat} {xs ys : List α} {z v : Value} (hinfo : (P.info? T).map (fun i => (i.zero, i.size, i.bytes)) = some (some z, e.sz, bytes)) (hzs : z.cells.size = e.sz)
    (ht : P.underlying t = some (.slice T)) (hs : ev E s = some (.slice ao xs.length c)) (hx : ev E x = some v) (ho : Row S w T e ao c xs) (hsrc : Src P e.sz tx v ys.length (e.all ys) w)
    (hb : (xs.length + ys.length) * bytes ≤ 140737488355328 ∧ xs.length + ys.length ≤ 9223372036854775807) (hS : ∀ b, w.heap.size ≤ b → S b) (hd : Nat.blt d N = true)
    (h : ∀ ao2 c2 w', Row S w' T e ao2 c2 (xs ++ ys) → Grow S w ao w' ao2 → (ao2 = none → xs ++ ys = []) → WL P ops Q N rest ((d, .slice ao2 (xs ++ ys).length c2) :: E) w') :
    WL P ops Q N (⟨some d, .call ⟨.builtin .append, #[s, x], #[t, tx]⟩, ty, pos, af, none⟩ :: rest) E w := by
  obtain ⟨i, hi, h1, h2, h3⟩ := info_parts hinfo
  obtain ⟨ao', c', w', hr, how, hc, hor, hno⟩ := run_append_hl (P := P) w t tx ty T i z e.sz bytes ht hi h1 h2 h3 hzs ao xs.length c (e.all xs) ho.own v ys.length (e.all ys) hsrc (by simpa [maxLen] using hb.2) hb.1
  refine WL.run _ w' (fun a ha => by simp [execOp, resolve, invoke, builtin, ev_eval ha hs, ev_eval ha hx, hr]; rfl) hd ?_
  rw [← List.length_append]
  refine h ao' c' w' ⟨?_, by rw [List.length_append, Enc.all_append]; exact how⟩ ⟨hc.mono fun b _ hb => ⟨hb.1, ho.at_.eqb hb.1⟩, hor⟩ (fun hn => ?_)
  · rcases hor with rfl | h5
    · exact ho.at_
    · exact h5.mono hS
  · obtain ⟨rfl, h6⟩ := hno hn
    have h7 := ho.rsl.none_nil
    subst h7
    simpa using h6
theorem RSl.src {tx T' : TypeId} {w : World} {ao : Option Addr} {c : Nat} {ys : List α} (h : RSl S w e ao c ys) (hk : P.underlying tx = some (.slice T')) : Src P e.sz tx (.slice ao ys.length c) ys.length (e.all ys) w :=
  Src.ofSl hk h.sl (e.all_one ys) (fun hn => by subst hn; simp [h.none_nil])
theorem src_string {tx : TypeId} {w : World} (s : ByteArray) (hk : P.underlying tx = some .string) : Src P eb.sz tx (.string s) s.data.toList.length (eb.all s.data.toList) w := by
  have h := Go.Src.ofString (P := P) w hk s
  have e1 : eb.all s.data.toList = byteCells s := by
    unfold Enc.all byteCells eb
    induction s.data.toList with
    | nil => rfl
    | cons x r ih => simp [List.flatMap_cons, ih]
  have e2 : s.data.toList.length = s.size := by simp
  rw [e1, e2]
  exact h

/-! a new row out of written-out elements -/
theorem fold_set (vs : List Value) : ∀ (k : Nat) (A : Array Value) (off : Nat), off + k + vs.length ≤ A.size →
    (vs.zipIdx k).foldl (fun (cs : Array Value) (p : Value × Nat) => cs.setIfInBounds (off + p.2) p.1) A = (A.toList.take (off + k) ++ vs ++ A.toList.drop (off + k + vs.length)).toArray := by
  induction vs with
  | nil => intro k A off _; simp
  | cons v r ih =>
    intro k A off h
    simp only [List.zipIdx_cons, List.foldl_cons]
    rw [ih (k + 1) _ off (by simp at h ⊢; omega)]
    have ho : off + k < A.size := by simp at h; omega
    apply Array.ext'
    simp only [Array.toList_setIfInBounds, List.toList_toArray]
    apply List.ext_getElem?
    intro j
    have hlen : A.toList.length = A.size := Array.length_toList
    simp only [List.append_assoc, List.getElem?_append, List.length_take, List.length_set, List.getElem?_take, List.getElem?_set, List.getElem?_drop, hlen, List.length_append, List.cons_append, List.length_cons, List.getElem?_cons]
    have e1 : min (off + (k + 1)) A.size = off + k + 1 := by omega
    have e2 : min (off + k) A.size = off + k := by omega
    simp only [e1, e2]
    by_cases hj : j < off + k
    · have : ¬ off + k = j := by omega
      simp [hj, this, show j < off + k + 1 from by omega, show j < off + (k + 1) from by omega]
    · by_cases hj2 : j = off + k
      · subst hj2; simp [ho, show off + k < off + (k + 1) from by omega]
      · have h3 : ¬ j < off + k + 1 := by omega
        have h4 : ¬ j - (off + k) = 0 := by omega
        simp only [hj, h3, if_false, h4, show j - (off + k + 1) = j - (off + k) - 1 from by omega]
        by_cases hj3 : j - (off + k) - 1 < r.length
        · simp [hj3]
        · have : ¬ off + k = off + (k + 1) + r.length + (j - (off + k) - 1 - r.length) := by omega
          simp only [hj3, if_false, this]
          congr 1
          omega
def enum : Nat → List Value → List (Nat × Value)
  | _, [] => []
  | k, v :: r => (k, v) :: enum (k + 1) r
theorem fill_enum (sz : Nat) : ∀ (vs : List Value) (k : Nat) (A : Array Value), (∀ v ∈ vs, v.cells.size = sz) → A.size = (k + vs.length) * sz →
    Instr.fill (fun i => some (i * sz, sz)) A (enum k vs) = some (A.toList.take (k * sz) ++ vs.flatMap (·.cells.toList)).toArray
  | [], k, A, _, hA => by
    simp only [enum, Instr.fill, List.flatMap_nil, List.append_nil, List.length_nil, Nat.add_zero] at hA ⊢
    rw [List.take_of_length_le (by simp; omega)]
  | v :: r, k, A, hv, hA => by
    have h1 := hv v (by simp)
    have h2 : k * sz + v.cells.size ≤ A.size := by
      rw [hA, h1, List.length_cons, show k + (r.length + 1) = (k + 1) + r.length from by omega, Nat.add_mul, Nat.add_mul, Nat.one_mul]
      omega
    simp only [enum, Instr.fill]
    rw [if_neg (by simp [h1]; rw [h1] at h2; omega)]
    have h3 := fold_set v.cells.toList 0 A (k * sz) (by simpa using h2)
    have h4 : v.cells.zipIdx.foldl (fun cs x => match x with | (c, j) => cs.setIfInBounds (k * sz + j) c) A = (A.toList.take (k * sz) ++ v.cells.toList ++ A.toList.drop (k * sz + v.cells.toList.length)).toArray := by
      rw [← Array.foldl_toList, Array.toList_zipIdx]
      simpa using h3
    rw [h4, fill_enum sz r (k + 1) _ (fun u hu => hv u (List.mem_cons_of_mem _ hu)) ?_]
    · congr 2
      rw [List.flatMap_cons, ← List.append_assoc]
      congr 1
      simp only [List.toList_toArray, Array.length_toList, h1]
      rw [Nat.add_mul, Nat.one_mul, List.take_append_of_le_length (by simp; rw [h1] at *; omega)]
      rw [List.take_of_length_le (by simp [h1]; omega)]
    · simp only [List.size_toArray, List.length_append, List.length_take, List.length_drop, Array.length_toList, h1]
      rw [h1] at h2
      rw [hA, List.length_cons, show k + (r.length + 1) = k + 1 + r.length from by omega] at *
      omega
def evp (E : Env) : Nat → List (Nat × Operand) → Option (List Value)
  | _, [] => some []
  | k, (i, x) :: r => if i = k then (ev E x).bind fun v => (evp E (k + 1) r).map (v :: ·) else none
theorem evp_eval {a : Act} (ha : Holds N E a) : ∀ {k : Nat} {ps : List (Nat × Operand)} {vs : List Value}, evp E k ps = some vs → ps.map (fun p => (p.1, a.eval p.2)) = enum k vs ∧ vs.length = ps.length
  | k, [], vs, h => by simp [evp] at h; subst h; simp [enum]
  | k, (i, x) :: r, vs, h => by
    simp only [evp] at h
    split at h
    · rename_i hi
      simp only [Option.bind_eq_some_iff, Option.map_eq_some_iff] at h
      obtain ⟨v, hv, us, hu, rfl⟩ := h
      obtain ⟨h1, h2⟩ := evp_eval ha hu
      simp [ev_eval ha hv, h1, hi, enum, h2]
    · cases h
theorem WL.build {t T : TypeId} {n : Nat} {ps : List (Nat × Operand)} {vs : List Value} {z : Value} (xs : List α) (ht : P.underlying t = some (.slice T)) (hs : ∀ w, (sizeOf T).run P w = .ok e.sz w) (hz : ∀ w, (zeroValue T).run P w = .ok z w)
    (hx : evp E 0 ps = some vs) (hn : ps.length = n) (hv : vs.flatMap (·.cells.toList) = e.all xs) (hv1 : ∀ v ∈ vs, v.cells.size = e.sz) (hb : n * e.sz ≤ 16777216) (hd : Nat.blt d N = true)
    (h : ∀ ao w', Row (w.heap.size ≤ ·) w' T e ao n xs → xs.length = n → w'.heap.size = w.heap.size + 1 → Chg Nob w w' → WL P ops Q N rest ((d, .slice ao xs.length n) :: E) w') :
    WL P ops Q N (⟨some d, .buildSlice t n ps.toArray, ty, pos, af, none⟩ :: rest) E w := by
  have hlen : xs.length = n := by
    have h1 : (vs.flatMap (·.cells.toList)).length = vs.length * e.sz := by
      clear hv hx
      induction vs with
      | nil => simp
      | cons v r ih =>
        simp only [List.flatMap_cons, List.length_append, List.length_cons, Array.length_toList]
        rw [ih (fun u hu => hv1 u (List.mem_cons_of_mem _ hu)), hv1 v (by simp), Nat.add_mul]
        omega
    have h2 : vs.length = ps.length := by
      clear h h1 hv hv1 hb hn
      revert vs
      generalize 0 = k
      induction ps generalizing k with
      | nil => intro vs h; simp [evp] at h; subst h; rfl
      | cons p r ih =>
        intro vs h
        obtain ⟨i, x⟩ := p
        simp only [evp] at h
        split at h
        · simp only [Option.bind_eq_some_iff, Option.map_eq_some_iff] at h
          obtain ⟨v, _, us, hu, rfl⟩ := h
          simp [ih _ hu]
        · cases h
    rw [hv, Enc.all_len, h2, hn] at h1
    exact Nat.eq_of_mul_eq_mul_right e.pos h1
  refine WL.run (.slice (some ⟨w.heap.size, 0, none⟩) xs.length n) (w.alloc (.cells (e.all xs).toArray T)) (fun a ha => ?_) hd (h _ _ ?_ hlen (by simp) (Chg.alloc _ _))
  · obtain ⟨he, hl⟩ := evp_eval ha hx
    have hfill : Instr.fill (fun i => some (i * e.sz, e.sz)) ((Array.range (n * e.sz)).map ((if n * e.sz = 0 then #[] else z.cells)[· % (if n * e.sz = 0 then #[] else z.cells).size]!)) (enum 0 vs) = some (e.all xs).toArray := by
      rw [fill_enum e.sz vs 0 _ hv1 (by simp [hl, hn])]
      simp [hv]
    have hne : ¬ n * e.sz > 2 ^ 24 := by omega
    simp only [execOp, Instr.buildSlice, List.map_toArray, he, run_underlying ht]
    by_cases h0 : n * e.sz = 0
    · rw [if_pos h0] at hfill
      simp [run_underlying ht, hs, h0, newRow, hlen] at hfill ⊢
      simp [hfill]
    · rw [if_neg h0] at hfill
      simp [run_underlying ht, hs, hz, h0, hne, newRow, hlen] at hfill ⊢
      simp [hfill]
  · refine ⟨fun a ea => by injection ea with ea; subst ea; exact Nat.le_refl _, ?_⟩
    refine ⟨Enc.all_len _ _, by omega, .inr ⟨w.heap.size, _, (0, 0), rfl, heap_alloc_new w _, fun j _ hh => by omega, ?_, ?_, ?_⟩⟩
    · have : n ≤ n * e.sz := Nat.le_mul_of_pos_right _ e.pos
      simp only [maxLen]; omega
    · simp [Enc.all_len, hlen]
    · simp only [List.toList_toArray]
      exact List.take_of_length_le (by rw [Enc.all_len]; omega)
end
end Go.HL
