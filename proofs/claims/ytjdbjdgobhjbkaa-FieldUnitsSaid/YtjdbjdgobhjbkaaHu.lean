import Derived.Test.YtjdbjdgobhjbkaaHt
namespace Go.HL
open Go.RowKit
/-! kinds of blocks -/
def kb (w : World) (b : Nat) : Option (Option TypeId) := (w.heap[b]?).map fun o => match o with
  | .cells _ e _ => some e
  | _ => none
theorem Blk.kb {w : World} {b : Nat} {e : TypeId} {cs : List Value} (h : Blk w b e cs) : kb w b = some (some e) := by
  unfold Blk at h
  simp [Go.HL.kb, h]
theorem Mp.kb {K V : Type} {kv : K → Value} {vv : V → Value} {w : World} {m : Nat} {l : List (K × V)} (h : Mp kv vv w m l) : kb w m = some none := by
  obtain ⟨es, clk, h1, _⟩ := h
  simp [Go.HL.kb, h1]
theorem Own.kb {w : World} {e : TypeId} {sz : Nat} {ao : Option Addr} {n c : Nat} {cs : List Value} (h : Own w e sz ao n c cs) : At (fun b => kb w b = some (some e)) ao := fun a ea => by
  rcases h.2.2 with ⟨rfl, _⟩ | ⟨g, cur, fr, rfl, hg, _⟩
  · cases ea
  · injection ea with ea
    subst ea
    simp [Go.HL.kb, hg]
theorem Row.chgK {α : Type} {S M : Nat → Prop} {w w' : World} {T : TypeId} {e : Enc α} {ao : Option Addr} {c : Nat} {xs : List α} (h : Row S w T e ao c xs) (k : Chg M w w') (hd : ∀ b, b < w.heap.size → M b → kb w b ≠ some (some T)) : Row S w' T e ao c xs :=
  ⟨h.at_, h.own.chg k (fun a ea hm => hd _ (h.own.lt a ea) hm (h.own.kb a ea))⟩
theorem Row.kb {α : Type} {S : Nat → Prop} {w : World} {T : TypeId} {e : Enc α} {ao : Option Addr} {c : Nat} {xs : List α} (h : Row S w T e ao c xs) : Row (fun b => S b ∧ kb w b = some (some T)) w T e ao c xs := ⟨fun a ea => ⟨h.at_ a ea, h.own.kb a ea⟩, h.own⟩
/-! parts of a row of the call's own are written -/
theorem splice_take {α : Type} {L vs : List α} {o n : Nat} (h1 : o + vs.length ≤ n) (h2 : n ≤ L.length) : (L.take o ++ vs ++ L.drop (o + vs.length)).take n = (L.take n).take o ++ vs ++ (L.take n).drop (o + vs.length) := by
  apply List.ext_getElem?
  intro j
  simp only [List.append_assoc, List.getElem?_take, List.getElem?_append, List.length_take, List.getElem?_drop]
  rw [show min o L.length = o from by omega, show min o (min n L.length) = o from by omega]
  by_cases hj : j < n
  · simp only [hj, if_true]
    by_cases h3 : j < o
    · simp [h3, hj]
    · by_cases h4 : j - o < vs.length
      · simp [h3, h4]
      · simp [h3, h4, show o + vs.length + (j - o - vs.length) < n from by omega]
  · simp [hj, show ¬ j < o from by omega, show ¬ j - o < vs.length from by omega]
    intro h5
    exfalso
    omega
section
variable {α : Type} {e : Enc α} {S : Nat → Prop} {w : World} {T : TypeId} {g c : Nat} {xs ys : List α}
theorem Enc.all_set (e : Enc α) {xs : List α} {j : Nat} (hj : j < xs.length) (z : α) : e.all (xs.set j z) = (e.all xs).take (j * e.sz) ++ e.f z ++ (e.all xs).drop (j * e.sz + (e.f z).length) := by
  rw [List.set_eq_take_append_cons_drop, if_pos hj, Enc.all_append, e.len, Enc.all_take, show j * e.sz + e.sz = (j + 1) * e.sz from by rw [Nat.add_mul, Nat.one_mul], Enc.all_drop, List.append_assoc]
  rfl
theorem Row.splice (hr : Row S w T e (some ⟨g, 0, none⟩) c xs) {o : Nat} {vs : List Value} (ho : o + vs.length ≤ xs.length * e.sz) (hl : ys.length = xs.length) (he : (e.all xs).take o ++ vs ++ (e.all xs).drop (o + vs.length) = e.all ys) :
    Row S (w.setCells g o vs) T e (some ⟨g, 0, none⟩) c ys ∧ (∀ j, j < vs.length → (w.cell? ⟨g, o + j, none⟩).isSome = true) ∧ (∀ j, j < vs.length → w.frozen? ⟨g, o + j, none⟩ = false) := by
  obtain ⟨hat, hlen, hcap, hc | ⟨g', cur, fr, hg', hg, hfr, hmax, hsz, htk⟩⟩ := hr
  · cases hc.1
  · injection hg' with hg'
    injection hg' with hg' _ _
    subst hg'
    have hcs : xs.length * e.sz ≤ c * e.sz := Nat.mul_le_mul_right _ hcap
    have hs2 := setCells_same g T fr vs o w cur hg (by omega)
    refine ⟨⟨hat, Enc.all_len _ _, by omega, .inr ⟨g, _, fr, rfl, hs2, ?_, hmax, ?_, ?_⟩⟩, fun j hj => ?_, fun j hj => ?_⟩
    · intro j hj
      refine hfr j ?_
      simp only [List.size_toArray, List.length_append, List.length_take, List.length_drop, Array.length_toList] at hj
      omega
    · simp only [List.size_toArray, List.length_append, List.length_take, List.length_drop, Array.length_toList]
      omega
    · have hcl : cur.toList.length = cur.size := Array.length_toList
      rw [List.toList_toArray, hl, splice_take ho (by omega), htk]
      exact he
    · rw [cell_of_row w g _ cur T fr hg, Array.getElem?_eq_getElem (by omega)]
      rfl
    · have := hfr (o + j) (by omega)
      simp only [World.frozen?, hg]
      simpa using this
theorem Row.take (hr : Row S w T e (some ⟨g, 0, none⟩) c xs) (i : Nat) (hi : i ≤ xs.length) : Row S w T e (some ⟨g, 0, none⟩) c (xs.take i) := by
  obtain ⟨hat, hlen, hcap, hc | ⟨g', cur, fr, hg', hg, hfr, hmax, hsz, htk⟩⟩ := hr
  · cases hc.1
  · refine ⟨hat, Enc.all_len _ _, by simp; omega, .inr ⟨g', cur, fr, hg', hg, hfr, hmax, hsz, ?_⟩⟩
    rw [← Enc.all_take, ← htk, List.take_take, List.length_take, Nat.min_eq_left hi, Nat.min_eq_left (Nat.mul_le_mul_right _ hi)]
end
section
variable {P : Program} {ops : Array Oper} {Q : Exit → Act → World → Prop} {N : Nat} {E : Env} {w : World} {rest : List Oper}
  {d : Nat} {ty : TypeId} {pos : String} {af : Array Edge} {α : Type} {e : Enc α} {S : Nat → Prop} {t tb T : TypeId} {x y : Operand} {g o c : Nat} {xs ys : List α}
theorem Holds.dup {a : Act} (h : Holds N E a) {t : Nat} {v : Value} (hx : ev E (.tmp t) = some v) : Holds N ((t, v) :: E) a := ⟨h.size, h.defs, fun s u hu => by
  by_cases e : s = t
  · subst e
    simp at hu
    subst hu
    exact h.env _ _ hx
  · have hne : (s == t) = false := by simpa using e
    simp only [List.lookup, hne] at hu
    exact h.env s u hu⟩
/-- a bool that isn't known: both ways -/
theorem WL.caseB {l : List Oper} {t : Nat} {b : Bool} (hx : ev E (.tmp t) = some (.bool b)) (hT : b = true → WL P ops Q N l ((t, .bool true) :: E) w) (hF : b = false → WL P ops Q N l ((t, .bool false) :: E) w) : WL P ops Q N l E w := by
  cases b
  · exact fun a ha => hF rfl a (ha.dup hx)
  · exact fun a ha => hT rfl a (ha.dup hx)
theorem WL.runN {op : Op} (v : Value) (w' : World) (hrun : ∀ a, Holds N E a → (execOp a.eval ⟨none, op, ty, pos, af, none⟩).run P w = .ok (.value v) w') (h : WL P ops Q N rest E w') : WL P ops Q N (⟨none, op, ty, pos, af, none⟩ :: rest) E w := fun a ha => by
  refine wpList_plain rfl fun K hK => ?_
  unfold Oper.wp
  rw [hrun a ha]
  exact hK _ _ (h _ ha)
theorem setCells_sz (vs : List Value) : ∀ (o : Nat) (w : World), (w.setCells g o vs).heap.size = w.heap.size := by
  induction vs with
  | nil => intro o w; rfl
  | cons v r ih => intro o w; rw [World.setCells, ih]; simp
/-- several cells of a row of the call's own are written -/
theorem WL.storeE {vs : List Value} {k : Nat} (hs : ∀ w, (sizeOf t).run P w = .ok k w) (hr : Row S w T e (some ⟨g, 0, none⟩) c xs) (hx : ev E x = some (.pointer (some ⟨g, o, none⟩))) (hy : ev E y = some (.agg vs.toArray)) (hk : vs.length = k) (h1 : ∀ u ∈ vs, u.oneCell' = true)
    (ho : o + vs.length ≤ xs.length * e.sz) (hl : ys.length = xs.length) (he : (e.all xs).take o ++ vs ++ (e.all xs).drop (o + vs.length) = e.all ys)
    (h : ∀ w', w'.heap.size = w.heap.size → Row S w' T e (some ⟨g, 0, none⟩) c ys → Chg (· = g) w w' → WL P ops Q N rest E w') :
    WL P ops Q N (⟨none, .store t x y, ty, pos, af, none⟩ :: rest) E w := by
  obtain ⟨h2, h3, h4⟩ := hr.splice ho hl he
  refine WL.run0 (w.setCells g o vs) (fun a hh => ?_) (h _ (setCells_sz _ _ _) h2 (setCells_chg g vs o w))
  have hst := run_storeCells_cells (P := P) g o vs 0 w (by simpa using h3) (by simpa using h4) h1
  simp only [Nat.add_zero] at hst
  simp [execOp, ev_eval hh hx, ev_eval hh hy, Instr.storeAt, Instr.sureAddr, storeVar, hs, Value.cells, hk, hst]
/-- one cell of an element -/
theorem WL.storeF {v : Value} (hs : ∀ w, (sizeOf t).run P w = .ok 1 w) (hr : Row S w T e (some ⟨g, 0, none⟩) c xs) (hx : ev E x = some (.pointer (some ⟨g, o, none⟩))) (hy : ev E y = some v) (h1 : v.oneCell' = true)
    (ho : o + 1 ≤ xs.length * e.sz) (hl : ys.length = xs.length) (he : (e.all xs).take o ++ [v] ++ (e.all xs).drop (o + 1) = e.all ys)
    (h : ∀ w', w'.heap.size = w.heap.size → Row S w' T e (some ⟨g, 0, none⟩) c ys → Chg (· = g) w w' → WL P ops Q N rest E w') :
    WL P ops Q N (⟨none, .store t x y, ty, pos, af, none⟩ :: rest) E w := by
  obtain ⟨h2, h3, h4⟩ := hr.splice (vs := [v]) ho hl he
  refine WL.run0 (w.setCells g o [v]) (fun a hh => ?_) (h _ (setCells_sz _ _ _) h2 (setCells_chg g [v] o w))
  have hst := run_storeCells_cells (P := P) g o [v] 0 w (by simpa using h3) (by simpa using h4) (by simpa using h1)
  simp only [Nat.add_zero] at hst
  have hc1 : v.cells = #[v] := by cases v <;> simp_all [Value.oneCell', Value.cells]
  simp [execOp, ev_eval hh hx, ev_eval hh hy, Instr.storeAt, Instr.sureAddr, storeVar, hs, hc1, hst]
theorem zeroCells_list (z : Array Value) (n : Nat) : (Builtin.zeroCells z n).toList.length = n * z.size ∧ ∀ u ∈ (Builtin.zeroCells z n).toList, u ∈ z.toList := by
  refine ⟨by rw [Array.length_toList, size_zeroCells], fun u hu => ?_⟩
  simp only [Builtin.zeroCells, Array.mem_toList_iff, Array.mem_map, Array.mem_range] at hu
  obtain ⟨i, hi, rfl⟩ := hu
  have hz : 0 < z.size := by
    rcases Nat.eq_zero_or_pos z.size with h | h
    · rw [h, Nat.mul_zero] at hi; omega
    · exact h
  rw [getElem!_pos z (i % z.size) (Nat.mod_lt _ hz), Array.mem_toList_iff]
  exact Array.getElem_mem _
/-- what lies behind is cleared -/
theorem WL.clearTail {z : Value} {i m : Nat} (ht : P.underlying t = some (.slice T)) (hz : ∀ w, (zeroValue T).run P w = .ok z w) (hzs : z.cells.size = e.sz) (hz1 : ∀ u ∈ z.cells.toList, u.oneCell' = true) (hr : Row S w T e (some ⟨g, 0, none⟩) c xs) (hi : i + m = xs.length)
    (hx : ev E x = some (.slice (cutAt (some ⟨g, 0, none⟩) c i e.sz) m (c - i)))
    (h : ∀ w', w'.heap.size = w.heap.size → Row S w' T e (some ⟨g, 0, none⟩) c (xs.take i) → Chg (· = g) w w' → WL P ops Q N rest E w') :
    WL P ops Q N (⟨none, .call ⟨.builtin .clear, #[x], #[t]⟩, ty, pos, af, none⟩ :: rest) E w := by
  rcases Nat.eq_zero_or_pos m with hm | hm
  · subst hm
    have hxs : xs.take i = xs := List.take_of_length_le (by omega)
    refine WL.runN (.tuple #[]) w (fun a ha => ?_) (h w rfl (by rw [hxs]; exact hr) ((Chg.refl Nob w).mono (fun _ _ f => f.elim)))
    have hcl : (Builtin.clear_ #[t] ty #[.slice (cutAt (some ⟨g, 0, none⟩) c i e.sz) 0 (c - i)]).run P w = .ok (.tuple #[]) w := by
      cases cutAt (some ⟨g, 0, none⟩) c i e.sz <;> simp [Builtin.clear_, run_underlying ht]
    simp [execOp, resolve, invoke, builtin, ev_eval ha hx, hcl]
  · have hcap := hr.own.cap
    have hne : ¬ c = i := by omega
    have hcut : cutAt (some (⟨g, 0, none⟩ : Addr)) c i e.sz = some ⟨g, i * e.sz, none⟩ := by simp [cutAt, hne, Addr.add_lit]
    rw [hcut] at hx
    obtain ⟨hl, hu⟩ := zeroCells_list z.cells m
    obtain ⟨vs, hvs⟩ : ∃ vs, vs = (Builtin.zeroCells z.cells m).toList := ⟨_, rfl⟩
    rw [← hvs] at hl hu
    rw [hzs] at hl
    obtain ⟨hat, hlen, hcp, hc0 | ⟨g', cur, fr, hg', hg, hfr, hmax, hsz, htk⟩⟩ := hr
    · cases hc0.1
    · injection hg' with hg'
      injection hg' with hg' _ _
      subst hg'
      have e1 : i * e.sz + m * e.sz = xs.length * e.sz := by rw [← Nat.add_mul, hi]
      have hcs : xs.length * e.sz ≤ c * e.sz := Nat.mul_le_mul_right _ hcap
      have hs2 := setCells_same g T fr vs (i * e.sz) w cur hg (by omega)
      have hst := run_storeCells_cells (P := P) g (i * e.sz) vs 0 w (fun j hj => by
        rw [Nat.add_zero, cell_of_row w g _ cur T fr hg, Array.getElem?_eq_getElem (by omega)]
        rfl) (fun j hj => by
        have := hfr (i * e.sz + 0 + j) (by omega)
        simp only [World.frozen?, hg]
        simpa using this) (fun u h5 => hz1 u (hu u h5))
      simp only [Nat.add_zero] at hst
      refine WL.runN (.tuple #[]) (w.setCells g (i * e.sz) vs) (fun a ha => ?_) (h _ (setCells_sz _ _ _) ⟨hat, Enc.all_len _ _, by simp; omega, .inr ⟨g, _, fr, rfl, hs2, ?_, hmax, ?_, ?_⟩⟩ (setCells_chg g vs _ w))
      · obtain ⟨q, rfl⟩ : ∃ q, m = q + 1 := ⟨m - 1, by omega⟩
        have hcl : (Builtin.clear_ #[t] ty #[.slice (some ⟨g, i * e.sz, none⟩) (q + 1) (c - i)]).run P w = .ok (.tuple #[]) (w.setCells g (i * e.sz) vs) := by
          simp [Builtin.clear_, run_underlying ht, hz, ← hvs, hst]
        simp [execOp, resolve, invoke, builtin, ev_eval ha hx, hcl]
      · intro j hj
        refine hfr j ?_
        simp only [List.size_toArray, List.length_append, List.length_take, List.length_drop, Array.length_toList] at hj
        omega
      · simp only [List.size_toArray, List.length_append, List.length_take, List.length_drop, Array.length_toList]
        omega
      · rw [List.toList_toArray, ← Enc.all_take, ← htk, List.take_take, List.length_take, Nat.min_eq_left (show i ≤ xs.length by omega), Nat.min_eq_left (Nat.mul_le_mul_right _ (show i ≤ xs.length by omega)), List.append_assoc, List.take_append_of_le_length (by rw [List.length_take, Array.length_toList]; omega), List.take_take, Nat.min_self]
/-- the head of a row of the call's own -/
theorem WL.sliceRow {hi : Operand} {i n : Nat} {j : IntKind} (ht : P.underlying t = some (.slice T)) (hs : ∀ w, (sizeOf T).run P w = .ok e.sz w) (hx : ev E x = some (.slice (some ⟨g, 0, none⟩) n c)) (hhi : ev E hi = some (.int j (i : Int))) (hi' : i ≤ c) (hd : Nat.blt d N = true)
    (h : WL P ops Q N rest ((d, .slice (some ⟨g, 0, none⟩) i c) :: E) w) : WL P ops Q N (⟨some d, .slice t x none (some hi) none, ty, pos, af, none⟩ :: rest) E w := by
  refine WL.run _ w (fun a ha => ?_) hd h
  simp only [execOp, ev_eval ha hx, Option.map_none, Option.map_some, ev_eval ha hhi]
  have := run_sliceAt w ht hs (some ⟨g, 0, none⟩) n c 0 i .i64 j none (some (.int j (i : Int))) (.inr ⟨rfl, rfl⟩) (.inl ⟨rfl, hi'⟩) (Nat.zero_le _)
  have hc : cutAt (some (⟨g, 0, none⟩ : Addr)) c 0 e.sz = some ⟨g, 0, none⟩ := by
    unfold cutAt
    split <;> simp [Addr.add_lit]
  rw [hc] at this
  simp [this]
theorem WL.makeFun {f : FuncId} {v : Value} (hx : ev E x = some v) (hd : Nat.blt d N = true) (h : WL P ops Q N rest ((d, .func (.func f) #[] #[v]) :: E) w) :
    WL P ops Q N (⟨some d, .makeFunc (.func f) #[] #[x], ty, pos, af, none⟩ :: rest) E w :=
  WL.run _ w (fun a ha => by simp [execOp, ev_eval ha hx, Instr.makeFunc]) hd h
theorem WL.ptrNil {ao : Option Addr} (ht : P.underlying t = some (.pointer (P.pointee t))) (hx : ev E x = some (.pointer ao)) (hy : ev E y = some (.pointer none)) (hd : Nat.blt d N = true) (h : WL P ops Q N rest ((d, .bool ao.isNone) :: E) w) :
    WL P ops Q N (⟨some d, .binOp .eql t x y tb, ty, pos, af, none⟩ :: rest) E w :=
  WL.run _ w (fun a ha => by simp [execOp, ev_eval ha hx, ev_eval ha hy, eqGuard, binOp, run_equal_pointer_nil (P := P) w t ao ht]) hd h
theorem WL.ptrSome {ao : Option Addr} (ht : P.underlying t = some (.pointer (P.pointee t))) (hx : ev E x = some (.pointer ao)) (hy : ev E y = some (.pointer none)) (hd : Nat.blt d N = true) (h : WL P ops Q N rest ((d, .bool ao.isSome) :: E) w) :
    WL P ops Q N (⟨some d, .binOp .neq t x y tb, ty, pos, af, none⟩ :: rest) E w :=
  WL.run _ w (fun a ha => by
    have : (!ao.isNone) = ao.isSome := by cases ao <;> rfl
    simp [execOp, ev_eval ha hx, ev_eval ha hy, eqGuard, binOp, run_equal_pointer_nil (P := P) w t ao ht, this]) hd h
theorem WL.mdel0 {K V : Type} [DecidableEq K] {kv : K → Value} {vv : V → Value} {U : TypeId} {m : Nat} {l : List (K × V)} {k : K} {ats : Array TypeId} (hk : KeyOk P T kv) (ht : P.underlying t = some (.map T U)) (hm : Mp kv vv w m l) (hx : ev E x = some (.map (some m))) (hy : ev E y = some (kv k)) (hat : ats[0]? = some t)
    (h : ∀ w', w'.heap.size = w.heap.size → Mp kv vv w' m (Go.HL.mdel l k) → Chg (· = m) w w' → WL P ops Q N rest E w') : WL P ops Q N (⟨none, .call ⟨.builtin .delete, #[x, y], ats⟩, ty, pos, af, none⟩ :: rest) E w := by
  obtain ⟨es, clk, h1, h2⟩ := hm
  have hlt := (Array.getElem?_eq_some_iff.1 h1).1
  have hf := run_findKey hk w k es.toList l h2
  cases hq : fnd l k 0 with
  | none =>
    obtain ⟨_, _, h3⟩ := fnd_none hq
    rw [hq] at hf
    refine WL.runN (.tuple #[]) { w with heap := w.heap.setIfInBounds m (.map es clk) } (fun a ha => ?_) (h _ (by simp) ⟨_, _, setBlk_get _ hlt, by rw [h3]; exact h2⟩ (Chg.setBlk _ _ _))
    simp [execOp, resolve, invoke, builtin, ev_eval ha hx, ev_eval ha hy, Builtin.delete_, hat, run_underlying ht, MapKept.run_getObj_map h1, hk.chk, hf, MapKept.run_setObj_map _ h1]
  | some r =>
    obtain ⟨j, u⟩ := r
    obtain ⟨q, h3, h4, _, _, h5⟩ := fnd_some hq
    rw [Nat.zero_add] at h3
    subst h3
    rw [hq] at hf
    refine WL.runN (.tuple #[]) { w with heap := w.heap.setIfInBounds m (.map (es.eraseIdxIfInBounds j) clk) } (fun a ha => ?_) (h _ (by simp) ⟨_, _, setBlk_get _ hlt, ?_⟩ (Chg.setBlk _ _ _))
    · simp [execOp, resolve, invoke, builtin, ev_eval ha hx, ev_eval ha hy, Builtin.delete_, hat, run_underlying ht, MapKept.run_getObj_map h1, hk.chk, hf, MapKept.run_setObj_map _ h1]
    · rw [h5]
      have hlen : es.toList.length = l.length := by simpa using congrArg List.length h2
      have hjl : j < l.length := (List.getElem?_eq_some_iff.1 h4).1
      have hje : j < es.size := by rw [← Array.length_toList, hlen]; exact hjl
      rw [Array.eraseIdxIfInBounds, dif_pos hje, Array.toList_eraseIdx, List.eraseIdx_eq_take_drop_succ, List.eraseIdx_eq_take_drop_succ, List.map_append, List.map_append, List.map_take, List.map_take, List.map_drop, List.map_drop, h2]
end
end Go.HL
