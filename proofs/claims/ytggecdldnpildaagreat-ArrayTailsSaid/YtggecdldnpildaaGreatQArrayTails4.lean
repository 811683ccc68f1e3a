import Derived.Lib.AppendZeros
import Derived.Test.YtggecdldnpildaaGreatQArrayTails3
namespace Go.HL
open Go.RowKit
/-! kinds of blocks -/
def kb (w : World) (b : Nat) : Option (Option TypeId) := (w.heap[b]?).map fun o => match o with
  | .cells _ e _ => some e
  | _ => none
theorem Blk.kb {w : World} {b : Nat} {e : TypeId} {cs : List Value} (h : Blk w b e cs) : kb w b = some (some e) := by
  unfold Blk at h
  simp [Go.HL.kb, h]
theorem Mp.kb {K V : Type} {kv : K → Value} {vv : V → Value} {w : World} {m : Nat} {l : List (K × V)} (h : Mp kv vv w m l) : kb w m = some none := by
  obtain ⟨es, clk, h1, _⟩ := h
  simp [Go.HL.kb, h1]
theorem Own.kb {w : World} {e : TypeId} {sz : Nat} {ao : Option Addr} {n c : Nat} {cs : List Value} (h : Own w e sz ao n c cs) : At (fun b => kb w b = some (some e)) ao := fun a ea => by
  rcases h.2.2 with ⟨rfl, _⟩ | ⟨g, cur, fr, rfl, hg, _⟩
  · cases ea
  · injection ea with ea
    subst ea
    simp [Go.HL.kb, hg]
theorem Row.chgK {α : Type} {S M : Nat → Prop} {w w' : World} {T : TypeId} {e : Enc α} {ao : Option Addr} {c : Nat} {xs : List α} (h : Row S w T e ao c xs) (k : Chg M w w') (hd : ∀ b, b < w.heap.size → M b → kb w b ≠ some (some T)) : Row S w' T e ao c xs :=
  ⟨h.at_, h.own.chg k (fun a ea hm => hd _ (h.own.lt a ea) hm (h.own.kb a ea))⟩
theorem Row.kb {α : Type} {S : Nat → Prop} {w : World} {T : TypeId} {e : Enc α} {ao : Option Addr} {c : Nat} {xs : List α} (h : Row S w T e ao c xs) : Row (fun b => S b ∧ kb w b = some (some T)) w T e ao c xs := ⟨fun a ea => ⟨h.at_ a ea, h.own.kb a ea⟩, h.own⟩
/-! parts of a row of the call's own are written -/
theorem splice_take {α : Type} {L vs : List α} {o n : Nat} (h1 : o + vs.length ≤ n) (h2 : n ≤ L.length) : (L.take o ++ vs ++ L.drop (o + vs.length)).take n = (L.take n).take o ++ vs ++ (L.take n).drop (o + vs.length) := by
  apply List.ext_getElem?
  intro j
  simp only [List.append_assoc, List.getElem?_take, List.getElem?_append, List.length_take, List.getElem?_drop]
  rw [show min o L.length = o from by omega, show min o (min n L.length) = o from by omega]
  by_cases hj : j < n
  · simp only [hj, if_true]
    by_cases h3 : j < o
    · simp [h3, hj]
    · by_cases h4 : j - o < vs.length
      · simp [h3, h4]
      · simp [h3, h4, show o + vs.length + (j - o - vs.length) < n from by omega]
  · simp [hj, show ¬ j < o from by omega, show ¬ j - o < vs.length from by omega]
    intro h5
    exfalso
    omega
section
variable {α : Type} {e : Enc α} {S : Nat → Prop} {w : World} {T : TypeId} {g c : Nat} {xs ys : List α}
theorem Enc.all_set (e : Enc α) {xs : List α} {j : Nat} (hj : j < xs.length) (z : α) : e.all (xs.set j z) = (e.all xs).take (j * e.sz) ++ e.f z ++ (e.all xs).drop (j * e.sz + (e.f z).length) := by
  rw [List.set_eq_take_append_cons_drop, if_pos hj, Enc.all_append, e.len, Enc.all_take, show j * e.sz + e.sz = (j + 1) * e.sz from by rw [Nat.add_mul, Nat.one_mul], Enc.all_drop, List.append_assoc]
  rfl
theorem Row.splice (hr : Row S w T e (some ⟨g, 0, none⟩) c xs) {o : Nat} {vs : List Value} (ho : o + vs.length ≤ xs.length * e.sz) (hl : ys.length = xs.length) (he : (e.all xs).take o ++ vs ++ (e.all xs).drop (o + vs.length) = e.all ys) :
    Row S (w.setCells g o vs) T e (some ⟨g, 0, none⟩) c ys ∧ (∀ j, j < vs.length → (w.cell? ⟨g, o + j, none⟩).isSome = true) ∧ (∀ j, j < vs.length → w.frozen? ⟨g, o + j, none⟩ = false) := by
  obtain ⟨hat, hlen, hcap, hc | ⟨g', cur, fr, hg', hg, hfr, hmax, hsz, htk⟩⟩ := hr
  · cases hc.1
  · injection hg' with hg'
    injection hg' with hg' _ _
    subst hg'
    have hcs : xs.length * e.sz ≤ c * e.sz := Nat.mul_le_mul_right _ hcap
    have hs2 := setCells_same g T fr vs o w cur hg (by omega)
    refine ⟨⟨hat, Enc.all_len _ _, by omega, .inr ⟨g, _, fr, rfl, hs2, ?_, hmax, ?_, ?_⟩⟩, fun j hj => ?_, fun j hj => ?_⟩
    · intro j hj
      refine hfr j ?_
      simp only [List.size_toArray, List.length_append, List.length_take, List.length_drop, Array.length_toList] at hj
      omega
    · simp only [List.size_toArray, List.length_append, List.length_take, List.length_drop, Array.length_toList]
      omega
    · have hcl : cur.toList.length = cur.size := Array.length_toList
      rw [List.toList_toArray, hl, splice_take ho (by omega), htk]
      exact he
    · rw [cell_of_row w g _ cur T fr hg, Array.getElem?_eq_getElem (by omega)]
      rfl
    · have := hfr (o + j) (by omega)
      simp only [World.frozen?, hg]
      simpa using this
theorem Row.take (hr : Row S w T e (some ⟨g, 0, none⟩) c xs) (i : Nat) (hi : i ≤ xs.length) : Row S w T e (some ⟨g, 0, none⟩) c (xs.take i) := by
  obtain ⟨hat, hlen, hcap, hc | ⟨g', cur, fr, hg', hg, hfr, hmax, hsz, htk⟩⟩ := hr
  · cases hc.1
  · refine ⟨hat, Enc.all_len _ _, by simp; omega, .inr ⟨g', cur, fr, hg', hg, hfr, hmax, hsz, ?_⟩⟩
    rw [← Enc.all_take, ← htk, List.take_take, List.length_take, Nat.min_eq_left hi, Nat.min_eq_left (Nat.mul_le_mul_right _ hi)]
end
section
variable {P : Program} {ops : Array Oper} {Q : Exit → Act → World → Prop} {N : Nat} {E : Env} {w : World} {rest : List Oper}
  {d : Nat} {ty : TypeId} {pos : String} {af : Array Edge} {α : Type} {e : Enc α} {S : Nat → Prop} {t tb T : TypeId} {x y : Operand} {g o c : Nat} {xs ys : List α}
theorem Holds.dup {a : Act} (h : Holds N E a) {t : Nat} {v : Value} (hx : ev E (.tmp t) = some v) : Holds N ((t, v) :: E) a := ⟨h.size, h.defs, fun s u hu => by
  by_cases e : s = t
  · subst e
    simp at hu
    subst hu
    exact h.env _ _ hx
  · have hne : (s == t) = false := by simpa using e
    simp only [List.lookup, hne] at hu
    exact h.env s u hu⟩
/-- a bool that isn't known: both ways -/
theorem WL.caseB {l : List Oper} {t : Nat} {b : Bool} (hx : ev E (.tmp t) = some (.bool b)) (hT : b = true → WL P ops Q N l ((t, .bool true) :: E) w) (hF : b = false → WL P ops Q N l ((t, .bool false) :: E) w) : WL P ops Q N l E w := by
  cases b
  · exact fun a ha => hF rfl a (ha.dup hx)
  · exact fun a ha => hT rfl a (ha.dup hx)
theorem WL.runN {op : Op} (v : Value) (w' : World) (hrun : ∀ a, Holds N E a → (execOp a.eval ⟨none, op, ty, pos, af, none⟩).run P w = .ok (.value v) w') (h : WL P ops Q N rest E w') : WL P ops Q N (⟨none, op, ty, pos, af, none⟩ :: rest) E w := fun a ha => by
  refine wpList_plain rfl fun K hK => ?_
  unfold Oper.wp
  rw [hrun a ha]
  exact hK _ _ (h _ ha)
theorem setCells_sz (vs : List Value) : ∀ (o : Nat) (w : World), (w.setCells g o vs).heap.size = w.heap.size := by
  induction vs with
  | nil => intro o w; rfl
  | cons v r ih => intro o w; rw [World.setCells, ih]; simp
/-- several cells of a row of the call's own are written -/
theorem WL.storeE {vs : List Value} {k : Nat} (hs : ∀ w, (sizeOf t).run P w = .ok k w) (hr : Row S w T e (some ⟨g, 0, none⟩) c xs) (hx : ev E x = some (.pointer (some ⟨g, o, none⟩))) (hy : ev E y = some (.agg vs.toArray)) (hk : vs.length = k) (h1 : ∀ u ∈ vs, u.oneCell' = true)
    (ho : o + vs.length ≤ xs.length * e.sz) (hl : ys.length = xs.length) (he : (e.all xs).take o ++ vs ++ (e.all xs).drop (o + vs.length) = e.all ys)
    (h : ∀ w', w'.heap.size = w.heap.size → Row S w' T e (some ⟨g, 0, none⟩) c ys → Chg (· = g) w w' → WL P ops Q N rest E w') :
    WL P ops Q N (⟨none, .store t x y, ty, pos, af, none⟩ :: rest) E w := by
  obtain ⟨h2, h3, h4⟩ := hr.splice ho hl he
  refine WL.run0 (w.setCells g o vs) (fun a hh => ?_) (h _ (setCells_sz _ _ _) h2 (setCells_chg g vs o w))
  have hst := run_storeCells_cells (P := P) g o vs 0 w (by simpa using h3) (by simpa using h4) h1
  simp only [Nat.add_zero] at hst
  simp [execOp, ev_eval hh hx, ev_eval hh hy, Instr.storeAt, Instr.sureAddr, storeVar, hs, Value.cells, hk, hst]
/-- one cell of an element -/
theorem WL.storeF {v : Value} (hs : ∀ w, (sizeOf t).run P w = .ok 1 w) (hr : Row S w T e (some ⟨g, 0, none⟩) c xs) (hx : ev E x = some (.pointer (some ⟨g, o, none⟩))) (hy : ev E y = some v) (h1 : v.oneCell' = true)
    (ho : o + 1 ≤ xs.length * e.sz) (hl : ys.length = xs.length) (he : (e.all xs).take o ++ [v] ++ (e.all xs).drop (o + 1) = e.all ys)
    (h : ∀ w', w'.heap.size = w.heap.size → Row S w' T e (some ⟨g, 0, none⟩) c ys → Chg (· = g) w w' → WL P ops Q N rest E w') :
    WL P ops Q N (⟨none, .store t x y, ty, pos, af, none⟩ :: rest) E w := by
  obtain ⟨h2, h3, h4⟩ := hr.splice (vs := [v]) ho hl he
  refine WL.run0 (w.setCells g o [v]) (fun a hh => ?_) (h _ (setCells_sz _ _ _) h2 (setCells_chg g [v] o w))
  have hst := run_storeCells_cells (P := P) g o [v] 0 w (by simpa using h3) (by simpa using h4) (by simpa using h1)
  simp only [Nat.add_zero] at hst
  have hc1 : v.cells = #[v] := by cases v <;> simp_all [Value.oneCell', Value.cells]
  simp [execOp, ev_eval hh hx, ev_eval hh hy, Instr.storeAt, Instr.sureAddr, storeVar, hs, hc1, hst]
theorem zeroCells_list (z : Array Value) (n : Nat) : (Builtin.zeroCells z n).toList.length = n * z.size ∧ ∀ u ∈ (Builtin.zeroCells z n).toList, u ∈ z.toList := by
  refine ⟨by rw [Array.length_toList, size_zeroCells], fun u hu => ?_⟩
  simp only [Builtin.zeroCells, Array.mem_toList_iff, Array.mem_map, Array.mem_range] at hu
  obtain ⟨i, hi, rfl⟩ := hu
  have hz : 0 < z.size := by
    rcases Nat.eq_zero_or_pos z.size with h | h
    · rw [h, Nat.mul_zero] at hi; omega
    · exact h
  rw [getElem!_pos z (i % z.size) (Nat.mod_lt _ hz), Array.mem_toList_iff]
  exact Array.getElem_mem _
/-- what lies behind is cleared -/
theorem WL.clearTail {z : Value} {i m : Nat} (ht : P.underlying t = some (.slice T)) (hz : ∀ w, (zeroValue T).run P w = .ok z w) (hzs : z.cells.size = e.sz) (hz1 : ∀ u ∈ z.cells.toList, u.oneCell' = true) (hr : Row S w T e (some ⟨g, 0, none⟩) c xs) (hi : i + m = xs.length)
    (hx : ev E x = some (.slice (cutAt (some ⟨g, 0, none⟩) c i e.sz) m (c - i)))
    (h : ∀ w', w'.heap.size = w.heap.size → Row S w' T e (some ⟨g, 0, none⟩) c (xs.take i) → Chg (· = g) w w' → WL P ops Q N rest E w') :
    WL P ops Q N (⟨none, .call ⟨.builtin .clear, #[x], #[t]⟩, ty, pos, af, none⟩ :: rest) E w := by
  rcases Nat.eq_zero_or_pos m with hm | hm
  · subst hm
    have hxs : xs.take i = xs := List.take_of_length_le (by omega)
    refine WL.runN (.tuple #[]) w (fun a ha => ?_) (h w rfl (by rw [hxs]; exact hr) ((Chg.refl Nob w).mono (fun _ _ f => f.elim)))
    have hcl : (Builtin.clear_ #[t] ty #[.slice (cutAt (some ⟨g, 0, none⟩) c i e.sz) 0 (c - i)]).run P w = .ok (.tuple #[]) w := by
      cases cutAt (some ⟨g, 0, none⟩) c i e.sz <;> simp [Builtin.clear_, run_underlying ht]
    simp [execOp, resolve, invoke, builtin, ev_eval ha hx, hcl]
  · have hcap := hr.own.cap
    have hne : ¬ c = i := by omega
    have hcut : cutAt (some (⟨g, 0, none⟩ : Addr)) c i e.sz = some ⟨g, i * e.sz, none⟩ := by simp [cutAt, hne, Addr.add_lit]
    rw [hcut] at hx
    obtain ⟨hl, hu⟩ := zeroCells_list z.cells m
    obtain ⟨vs, hvs⟩ : ∃ vs, vs = (Builtin.zeroCells z.cells m).toList := ⟨_, rfl⟩
    rw [← hvs] at hl hu
    rw [hzs] at hl
    obtain ⟨hat, hlen, hcp, hc0 | ⟨g', cur, fr, hg', hg, hfr, hmax, hsz, htk⟩⟩ := hr
    · cases hc0.1
    · injection hg' with hg'
      injection hg' with hg' _ _
      subst hg'
      have e1 : i * e.sz + m * e.sz = xs.length * e.sz := by rw [← Nat.add_mul, hi]
      have hcs : xs.length * e.sz ≤ c * e.sz := Nat.mul_le_mul_right _ hcap
      have hs2 := setCells_same g T fr vs (i * e.sz) w cur hg (by omega)
      have hst := run_storeCells_cells (P := P) g (i * e.sz) vs 0 w (fun j hj => by
        rw [Nat.add_zero, cell_of_row w g _ cur T fr hg, Array.getElem?_eq_getElem (by omega)]
        rfl) (fun j hj => by
        have := hfr (i * e.sz + 0 + j) (by omega)
        simp only [World.frozen?, hg]
        simpa using this) (fun u h5 => hz1 u (hu u h5))
      simp only [Nat.add_zero] at hst
      refine WL.runN (.tuple #[]) (w.setCells g (i * e.sz) vs) (fun a ha => ?_) (h _ (setCells_sz _ _ _) ⟨hat, Enc.all_len _ _, by simp; omega, .inr ⟨g, _, fr, rfl, hs2, ?_, hmax, ?_, ?_⟩⟩ (setCells_chg g vs _ w))
      · obtain ⟨q, rfl⟩ : ∃ q, m = q + 1 := ⟨m - 1, by omega⟩
        have hcl : (Builtin.clear_ #[t] ty #[.slice (some ⟨g, i * e.sz, none⟩) (q + 1) (c - i)]).run P w = .ok (.tuple #[]) (w.setCells g (i * e.sz) vs) := by
          simp [Builtin.clear_, run_underlying ht, hz, ← hvs, hst]
        simp [execOp, resolve, invoke, builtin, ev_eval ha hx, hcl]
      · intro j hj
        refine hfr j ?_
        simp only [List.size_toArray, List.length_append, List.length_take, List.length_drop, Array.length_toList] at hj
        omega
      · simp only [List.size_toArray, List.length_append, List.length_take, List.length_drop, Array.length_toList]
        omega
      · rw [List.toList_toArray, ← Enc.all_take, ← htk, List.take_take, List.length_take, Nat.min_eq_left (show i ≤ xs.length by omega), Nat.min_eq_left (Nat.mul_le_mul_right _ (show i ≤ xs.length by omega)), List.append_assoc, List.take_append_of_le_length (by rw [List.length_take, Array.length_toList]; omega), List.take_take, Nat.min_self]
/-- the head of a row of the call's own -/
theorem WL.sliceRow {hi : Operand} {i n : Nat} {j : IntKind} (ht : P.underlying t = some (.slice T)) (hs : ∀ w, (sizeOf T).run P w = .ok e.sz w) (hx : ev E x = some (.slice (some ⟨g, 0, none⟩) n c)) (hhi : ev E hi = some (.int j (i : Int))) (hi' : i ≤ c) (hd : Nat.blt d N = true)
    (h : WL P ops Q N rest ((d, .slice (some ⟨g, 0, none⟩) i c) :: E) w) : WL P ops Q N (⟨some d, .slice t x none (some hi) none, ty, pos, af, none⟩ :: rest) E w := by
  refine WL.run _ w (fun a ha => ?_) hd h
  simp only [execOp, ev_eval ha hx, Option.map_none, Option.map_some, ev_eval ha hhi]
  have := run_sliceAt w ht hs (some ⟨g, 0, none⟩) n c 0 i .i64 j none (some (.int j (i : Int))) (.inr ⟨rfl, rfl⟩) (.inl ⟨rfl, hi'⟩) (Nat.zero_le _)
  have hc : cutAt (some (⟨g, 0, none⟩ : Addr)) c 0 e.sz = some ⟨g, 0, none⟩ := by
    unfold cutAt
    split <;> simp [Addr.add_lit]
  rw [hc] at this
  simp [this]
theorem WL.makeFun {f : FuncId} {v : Value} (hx : ev E x = some v) (hd : Nat.blt d N = true) (h : WL P ops Q N rest ((d, .func (.func f) #[] #[v]) :: E) w) :
    WL P ops Q N (⟨some d, .makeFunc (.func f) #[] #[x], ty, pos, af, none⟩ :: rest) E w :=
  WL.run _ w (fun a ha => by simp [execOp, ev_eval ha hx, Instr.makeFunc]) hd h
theorem WL.ptrNil {ao : Option Addr} (ht : P.underlying t = some (.pointer (P.pointee t))) (hx : ev E x = some (.pointer ao)) (hy : ev E y = some (.pointer none)) (hd : Nat.blt d N = true) (h : WL P ops Q N rest ((d, .bool ao.isNone) :: E) w) :
    WL P ops Q N (⟨some d, .binOp .eql t x y tb, ty, pos, af, none⟩ :: rest) E w :=
  WL.run _ w (fun a ha => by simp [execOp, ev_eval ha hx, ev_eval ha hy, eqGuard, binOp, run_equal_pointer_nil (P := P) w t ao ht]) hd h
theorem WL.ptrSome {ao : Option Addr} (ht : P.underlying t = some (.pointer (P.pointee t))) (hx : ev E x = some (.pointer ao)) (hy : ev E y = some (.pointer none)) (hd : Nat.blt d N = true) (h : WL P ops Q N rest ((d, .bool ao.isSome) :: E) w) :
    WL P ops Q N (⟨some d, .binOp .neq t x y tb, ty, pos, af, none⟩ :: rest) E w :=
  WL.run _ w (fun a ha => by
    have : (!ao.isNone) = ao.isSome := by cases ao <;> rfl
    simp [execOp, ev_eval ha hx, ev_eval ha hy, eqGuard, binOp, run_equal_pointer_nil (P := P) w t ao ht, this]) hd h
end
end Go.HL
namespace Go.HL
open Go.RowKit
/-! comparisons whose answer is known -/
section
variable {P : Program} {ops : Array Oper} {Q : Exit → Act → World → Prop} {N : Nat} {E : Env} {w : World} {rest : List Oper} {d : Nat} {ty : TypeId} {pos : String} {af : Array Edge} {t tb : TypeId} {x y : Operand} {k : IntKind} {m n : Int} {s u : ByteArray}
theorem WL.eqlT (hx : ev E x = some (.int k m)) (hy : ev E y = some (.int k n)) (hd : Nat.blt d N = true) (e : m = n) (h : WL P ops Q N rest ((d, .bool true) :: E) w) : WL P ops Q N (⟨some d, .binOp .eql t x y tb, ty, pos, af, none⟩ :: rest) E w :=
  WL.eql? hx hy hd (fun _ => h) (fun c => by exfalso; first | exact c e | exact e c | omega)
theorem WL.eqlF (hx : ev E x = some (.int k m)) (hy : ev E y = some (.int k n)) (hd : Nat.blt d N = true) (e : m ≠ n) (h : WL P ops Q N rest ((d, .bool false) :: E) w) : WL P ops Q N (⟨some d, .binOp .eql t x y tb, ty, pos, af, none⟩ :: rest) E w :=
  WL.eql? hx hy hd (fun c => by exfalso; first | exact c e | exact e c | omega) (fun _ => h)
theorem WL.neqT (hx : ev E x = some (.int k m)) (hy : ev E y = some (.int k n)) (hd : Nat.blt d N = true) (e : m ≠ n) (h : WL P ops Q N rest ((d, .bool true) :: E) w) : WL P ops Q N (⟨some d, .binOp .neq t x y tb, ty, pos, af, none⟩ :: rest) E w :=
  WL.neq? hx hy hd (fun _ => h) (fun c => by exfalso; first | exact c e | exact e c | omega)
theorem WL.neqF (hx : ev E x = some (.int k m)) (hy : ev E y = some (.int k n)) (hd : Nat.blt d N = true) (e : m = n) (h : WL P ops Q N rest ((d, .bool false) :: E) w) : WL P ops Q N (⟨some d, .binOp .neq t x y tb, ty, pos, af, none⟩ :: rest) E w :=
  WL.neq? hx hy hd (fun c => by exfalso; first | exact c e | exact e c | omega) (fun _ => h)
theorem WL.lssT (hx : ev E x = some (.int k m)) (hy : ev E y = some (.int k n)) (hd : Nat.blt d N = true) (e : m < n) (h : WL P ops Q N rest ((d, .bool true) :: E) w) : WL P ops Q N (⟨some d, .binOp .lss t x y tb, ty, pos, af, none⟩ :: rest) E w :=
  WL.lss? hx hy hd (fun _ => h) (fun c => by exfalso; first | exact c e | exact e c | omega)
theorem WL.lssF (hx : ev E x = some (.int k m)) (hy : ev E y = some (.int k n)) (hd : Nat.blt d N = true) (e : n ≤ m) (h : WL P ops Q N rest ((d, .bool false) :: E) w) : WL P ops Q N (⟨some d, .binOp .lss t x y tb, ty, pos, af, none⟩ :: rest) E w :=
  WL.lss? hx hy hd (fun c => by exfalso; first | exact c e | exact e c | omega) (fun _ => h)
theorem WL.gtrT (hx : ev E x = some (.int k m)) (hy : ev E y = some (.int k n)) (hd : Nat.blt d N = true) (e : n < m) (h : WL P ops Q N rest ((d, .bool true) :: E) w) : WL P ops Q N (⟨some d, .binOp .gtr t x y tb, ty, pos, af, none⟩ :: rest) E w :=
  WL.gtr? hx hy hd (fun _ => h) (fun c => by exfalso; first | exact c e | exact e c | omega)
theorem WL.gtrF (hx : ev E x = some (.int k m)) (hy : ev E y = some (.int k n)) (hd : Nat.blt d N = true) (e : m ≤ n) (h : WL P ops Q N rest ((d, .bool false) :: E) w) : WL P ops Q N (⟨some d, .binOp .gtr t x y tb, ty, pos, af, none⟩ :: rest) E w :=
  WL.gtr? hx hy hd (fun c => by exfalso; first | exact c e | exact e c | omega) (fun _ => h)
theorem WL.geqF (hx : ev E x = some (.int k m)) (hy : ev E y = some (.int k n)) (hd : Nat.blt d N = true) (e : m < n) (h : WL P ops Q N rest ((d, .bool false) :: E) w) : WL P ops Q N (⟨some d, .binOp .geq t x y tb, ty, pos, af, none⟩ :: rest) E w :=
  WL.geq? hx hy hd (fun c => by exfalso; first | exact c e | exact e c | omega) (fun _ => h)
theorem WL.seqlT (hx : ev E x = some (.string s)) (hy : ev E y = some (.string u)) (hd : Nat.blt d N = true) (e : s = u) (h : WL P ops Q N rest ((d, .bool true) :: E) w) : WL P ops Q N (⟨some d, .binOp .eql t x y tb, ty, pos, af, none⟩ :: rest) E w :=
  WL.seql? hx hy hd (fun _ => h) (fun c => by exfalso; first | exact c e | exact e c)
theorem WL.sneqT (hx : ev E x = some (.string s)) (hy : ev E y = some (.string u)) (hd : Nat.blt d N = true) (e : s ≠ u) (h : WL P ops Q N rest ((d, .bool true) :: E) w) : WL P ops Q N (⟨some d, .binOp .neq t x y tb, ty, pos, af, none⟩ :: rest) E w :=
  WL.sneq? hx hy hd (fun _ => h) (fun c => by exfalso; first | exact c e | exact e c)
theorem WL.sneqF (hx : ev E x = some (.string s)) (hy : ev E y = some (.string u)) (hd : Nat.blt d N = true) (e : s = u) (h : WL P ops Q N rest ((d, .bool false) :: E) w) : WL P ops Q N (⟨some d, .binOp .neq t x y tb, ty, pos, af, none⟩ :: rest) E w :=
  WL.sneq? hx hy hd (fun c => by exfalso; first | exact c e | exact e c) (fun _ => h)
end
end Go.HL
namespace Go.HL
open Go.RowKit
/-! regions that draw their order: quiet operations that hang on loud ones -/
section
variable (P : Program) (ops : Array Oper) (Q : Exit → Act → World → Prop) (N : Nat) (M : Nat → Prop)
def DPQ (w0 : World) (next : Env → Prop) : List Nat → Env → Prop
  | [], E => next E
  | i :: is, E => ∃ v, (∀ o, ops[i]? = some o → ∀ w', Chg M w0 w' → WL P ops (One o.dst fun u w'' => u = v ∧ Chg Nob w' w'') N [o] (restr ops i E) w') ∧ DPQ w0 next is (putE E (dstOf ops i) v)
def DPR : List (Nat × List Nat) → Env → World → Prop
  | [], E, w => ∀ w', Chg Nob w w' → WX Q .normal N E w'
  | (r, C) :: t, E, w => ∀ w', Chg Nob w w' → ∀ o, ops[r]? = some o → WL P ops (One o.dst fun v w'' => Chg M w' w'' ∧ DPQ P ops N M w'' (fun E2 => DPR t E2 w'') C (putE E o.dst v)) N [o] (restr ops r E) w'
end
section
variable {P : Program} {ops : Array Oper} {Q : Exit → Act → World → Prop} {N : Nat} {M : Nat → Prop} {w0 : World} {E0 : Env}
end
section
variable {P : Program} {ops : Array Oper} {Q : Exit → Act → World → Prop} {N : Nat} {M : Nat → Prop} {w0 w : World} {E E' : Env} {is : List Nat} {i r : Nat} {o : Oper} {next : Env → Prop} {C : List Nat} {t : List (Nat × List Nat)}
theorem DPQ.step {v : Value} (E' : Env) (ho : ops[i]? = some o) (hs : Sub E' E) (hk : (E'.all fun p => (looks ops i).contains p.1) = true)
    (h1 : ∀ w', Chg M w0 w' → WL P ops (One o.dst fun u w'' => u = v ∧ Chg Nob w' w'') N [o] E' w') (h2 : DPQ P ops N M w0 next is (putE E o.dst v)) : DPQ P ops N M w0 next (i :: is) E :=
  ⟨v, fun o' ho' w' hw => by rw [ho] at ho'; injection ho' with ho'; subst ho'; exact (h1 w' hw).sub (sub_restr hs hk), by rw [dstOf_eq ho]; exact h2⟩
theorem DPQ.split {b : Bool} (E' : Env) (ho : ops[i]? = some o) (hs : Sub E' E) (hk : (E'.all fun p => (looks ops i).contains p.1) = true)
    (h1 : ∀ w', Chg M w0 w' → WL P ops (One o.dst fun u w'' => u = .bool b ∧ Chg Nob w' w'') N [o] E' w') (ht : b = true → DPQ P ops N M w0 next is (putE E o.dst (.bool true))) (hf : b = false → DPQ P ops N M w0 next is (putE E o.dst (.bool false))) : DPQ P ops N M w0 next (i :: is) E :=
  DPQ.step E' ho hs hk h1 (by
    cases b
    · exact hf rfl
    · exact ht rfl)
theorem DPQ.done (h : next E) : DPQ P ops N M w0 next [] E := h
theorem DPR.step (E' : Env) (ho : ops[r]? = some o) (hs : Sub E' E) (hk : (E'.all fun p => (looks ops r).contains p.1) = true)
    (h1 : ∀ w', Chg Nob w w' → WL P ops (One o.dst fun v w'' => Chg M w' w'' ∧ DPQ P ops N M w'' (fun E2 => DPR P ops Q N M t E2 w'') C (putE E o.dst v)) N [o] E' w') : DPR P ops Q N M ((r, C) :: t) E w :=
  fun w' hw o' ho' => by rw [ho] at ho'; injection ho' with ho'; subst ho'; exact (h1 w' hw).sub (sub_restr hs hk)
theorem DPR.done (h : ∀ w', Chg Nob w w' → WX Q .normal N E w') : DPR P ops Q N M [] E w := h
end
end Go.HL
namespace Go.HL
open Go.RowKit
section
variable {P : Program} {N : Nat} {E : Env} {w : World} {fn : Func} {R : Ending → World → Prop}
end
section
variable {P : Program} {ops : Array Oper} {Q : Exit → Act → World → Prop} {N : Nat} {E : Env} {w : World} {rest : List Oper}
  {d : Nat} {ty : TypeId} {pos : String} {af : Array Edge} {α : Type} {e : Enc α} {S : Nat → Prop} {t tx T : TypeId} {s x : Operand} {g i c bytes : Nat} {xs ys : List α} {z v : Value}
/-- a part of a slice, up to its room -/
theorem WL.sliceN {lo hi : Option Operand} {ao : Option Addr} {n l h : Nat} {k j : IntKind} {sz : Nat} (ht : P.underlying t = some (.slice T)) (hs : ∀ w, (sizeOf T).run P w = .ok sz w) (hx : ev E x = some (.slice ao n c))
    (hlo : lo.map (ev E) = some (some (.int k (l : Int))) ∨ lo = none ∧ l = 0) (hhi : hi.map (ev E) = some (some (.int j (h : Int))) ∧ h ≤ c ∨ hi = none ∧ h = n) (hl : l ≤ h) (hd : Nat.blt d N = true)
    (k' : WL P ops Q N rest ((d, .slice (cutAt ao c l sz) (h - l) (c - l)) :: E) w) : WL P ops Q N (⟨some d, .slice t x lo hi none, ty, pos, af, none⟩ :: rest) E w := by
  refine WL.run _ w (fun a ha => ?_) hd k'
  have hlo' : lo.map a.eval = some (.int k (l : Int)) ∨ lo.map a.eval = none ∧ l = 0 := by
    rcases hlo with h2 | ⟨rfl, h2⟩
    · cases lo with
      | none => cases h2
      | some y => simp at h2; left; simp [ev_eval ha h2]
    · right; exact ⟨rfl, h2⟩
  have hhi' : hi.map a.eval = some (.int j (h : Int)) ∧ h ≤ c ∨ hi.map a.eval = none ∧ h = n := by
    rcases hhi with ⟨h2, h3⟩ | ⟨rfl, h2⟩
    · cases hi with
      | none => cases h2
      | some y => simp at h2; left; exact ⟨by simp [ev_eval ha h2], h3⟩
    · right; exact ⟨rfl, h2⟩
  simp only [execOp, ev_eval ha hx, Option.map_none]
  simp [run_sliceAt w ht hs ao n c l h k j _ _ hlo' hhi' hl]
end
end Go.HL
namespace Go.HL
open Go.RowKit
/-! what follows a piece of code is shown once -/
def CutPost {σ : Type} (N : Nat) (Ef : σ → Env) (I : σ → World → Prop) : Exit → Act → World → Prop := fun x a w => x = .normal ∧ ∃ s, Holds N (Ef s) a ∧ I s w
section
variable {P : Program} {Q : Exit → Act → World → Prop} {N : Nat} {E : Env} {w : World} {σ : Type} {Ef : σ → Env} {I : σ → World → Prop} {c : Code}
theorem WC.cutR (Ef : σ → Env) (I : σ → World → Prop) (htail : ∀ s w', I s w' → WX Q .normal N (Ef s) w') (hbody : WC P c (CutPost N Ef I) N E w) : WC P c Q N E w := fun a ha => by
  refine Code.wp_mono ?_ (hbody a ha)
  rintro x a' w' ⟨rfl, s, hs, hI⟩
  exact htail s w' hI a' hs
theorem WX.cut (s : σ) (hs : Sub (Ef s) E) (hI : I s w) : WX (CutPost N Ef I) .normal N E w := fun _ ha => ⟨rfl, s, ha.sub hs, hI⟩
end
end Go.HL
namespace Go.HL
open Go.RowKit
/-! rows that are written, whatever they hold -/
/-- blocks of cells stay such, of the same size -/
def ShK (w w' : World) : Prop := ∀ (g : Nat) (cur : Array Value) (T : TypeId) (fr : Nat × Nat), w.heap[g]? = some (.cells cur T fr) → ∃ cur2 : Array Value, w'.heap[g]? = some (.cells cur2 T fr) ∧ cur2.size = cur.size
theorem ShK.refl (w : World) : ShK w w := fun _ cur _ _ h => ⟨cur, h, rfl⟩
theorem ShK.trans {a b c : World} (h : ShK a b) (k : ShK b c) : ShK a c := fun g cur T fr hg => by
  obtain ⟨c1, h1, e1⟩ := h g cur T fr hg
  obtain ⟨c2, h2, e2⟩ := k g c1 T fr h1
  exact ⟨c2, h2, e2.trans e1⟩
theorem Chg.shk {w w' : World} (h : Chg Nob w w') : ShK w w' := fun g cur T fr hg => ⟨cur, h.obj hg (fun x => x), rfl⟩
theorem ShK.set {w w' : World} {g : Nat} {cur cur2 : Array Value} {T : TypeId} {fr : Nat × Nat} (k : Chg (· = g) w w') (hg : w.heap[g]? = some (.cells cur T fr)) (hg2 : w'.heap[g]? = some (.cells cur2 T fr)) (hs : cur2.size = cur.size) : ShK w w' := fun b c1 T1 f1 hb => by
  by_cases e : b = g
  · subst e
    rw [hg] at hb
    injection hb with hb
    injection hb with e1 e2 e3
    subst e1; subst e2; subst e3
    exact ⟨cur2, hg2, hs⟩
  · exact ⟨c1, k.obj hb e, rfl⟩
/-- n elements at the head of a block of S may be written -/
def Wt (S : Nat → Prop) (w : World) (T : TypeId) (sz : Nat) (ao : Option Addr) (n : Nat) : Prop :=
  n = 0 ∨ ∃ (g : Nat) (cur : Array Value) (fr : Nat × Nat), ao = some ⟨g, 0, none⟩ ∧ S g ∧ w.heap[g]? = some (.cells cur T fr) ∧ (∀ j, j < cur.size → ¬ (fr.1 ≤ j ∧ j < fr.2)) ∧ n * sz ≤ cur.size
theorem Wt.keep {S : Nat → Prop} {w w' : World} {T : TypeId} {sz : Nat} {ao : Option Addr} {n : Nat} (h : Wt S w T sz ao n) (k : ShK w w') : Wt S w' T sz ao n := by
  rcases h with h | ⟨g, cur, fr, h1, h2, h3, h4, h5⟩
  · exact .inl h
  · obtain ⟨c2, h6, h7⟩ := k _ _ _ _ h3
    exact .inr ⟨g, c2, fr, h1, h2, h6, by rw [h7]; exact h4, by omega⟩
theorem Wt.mono {S S' : Nat → Prop} {w : World} {T : TypeId} {sz : Nat} {ao : Option Addr} {n : Nat} (h : Wt S w T sz ao n) (k : ∀ b, S b → S' b) : Wt S' w T sz ao n := by
  rcases h with h | ⟨g, cur, fr, h1, h2, h3⟩
  · exact .inl h
  · exact .inr ⟨g, cur, fr, h1, k _ h2, h3⟩
theorem Wt.chg {S M : Nat → Prop} {w w' : World} {T : TypeId} {sz : Nat} {ao : Option Addr} {n : Nat} (h : Wt S w T sz ao n) (k : Chg M w w') (hd : ∀ b, b < w.heap.size → S b → M b → False) : Wt S w' T sz ao n := by
  rcases h with h | ⟨g, cur, fr, h1, h2, h3, h4⟩
  · exact .inl h
  · exact .inr ⟨g, cur, fr, h1, h2, k.obj h3 (fun hm => hd g (Array.getElem?_eq_some_iff.1 h3).1 h2 hm), h4⟩
theorem Wt.lt {S : Nat → Prop} {w : World} {T : TypeId} {sz : Nat} {ao : Option Addr} {n : Nat} (h : Wt S w T sz ao n) : Wt (fun b => S b ∧ b < w.heap.size) w T sz ao n := by
  rcases h with h | ⟨g, cur, fr, h1, h2, h3, h4⟩
  · exact .inl h
  · exact .inr ⟨g, cur, fr, h1, ⟨h2, (Array.getElem?_eq_some_iff.1 h3).1⟩, h3, h4⟩
theorem Wt.pure {S : Nat → Prop} {w w' : World} {T : TypeId} {sz : Nat} {ao : Option Addr} {n : Nat} (h : Wt S w T sz ao n) (k : Chg Nob w w') : Wt S w' T sz ao n := h.keep k.shk
theorem Row.wt {α : Type} {e : Enc α} {S : Nat → Prop} {w : World} {T : TypeId} {ao : Option Addr} {c : Nat} {xs : List α} (h : Row S w T e ao c xs) : Wt S w T e.sz ao xs.length := by
  have hcap := h.own.cap
  rcases h.own.2.2 with ⟨rfl, rfl⟩ | ⟨g, cur, fr, rfl, hg, hfr, _, hsz, _⟩
  · exact .inl (by omega)
  · exact .inr ⟨g, cur, fr, rfl, h.at_ _ rfl, hg, hfr, by rw [hsz]; exact Nat.mul_le_mul_right _ hcap⟩
section
variable {P : Program} {ops : Array Oper} {Q : Exit → Act → World → Prop} {N : Nat} {E : Env} {w : World} {rest : List Oper} {ty : TypeId} {pos : String} {af : Array Edge}
end
end Go.HL
namespace Go.HL
open Go.RowKit
/-! what follows a piece of code is shown once; other ways out of it go on by themselves -/
def CutG {σ : Type} (Q : Exit → Act → World → Prop) (N : Nat) (Ef : σ → Env) (I : σ → World → Prop) : Exit → Act → World → Prop := fun x a w => (x = .normal ∧ ∃ s, Holds N (Ef s) a ∧ I s w) ∨ Q x a w
section
variable {P : Program} {Q : Exit → Act → World → Prop} {N : Nat} {E : Env} {w : World} {σ : Type} {Ef : σ → Env} {I : σ → World → Prop} {c : Code}
theorem WC.cutG (Ef : σ → Env) (I : σ → World → Prop) (htail : ∀ s w', I s w' → WX Q .normal N (Ef s) w') (hbody : WC P c (CutG Q N Ef I) N E w) : WC P c Q N E w := fun a ha => by
  refine Code.wp_mono ?_ (hbody a ha)
  rintro x a' w' (⟨rfl, s, hs, hI⟩ | h)
  · exact htail s w' hI a' hs
  · exact h
theorem WX.cutN (s : σ) (hs : Sub (Ef s) E) (hI : I s w) : WX (CutG Q N Ef I) .normal N E w := fun _ ha => .inl ⟨rfl, s, ha.sub hs, hI⟩
theorem WX.pass {x : Exit} (h : WX Q x N E w) : WX (CutG Q N Ef I) x N E w := fun a ha => .inr (h a ha)
end
/-- a row of the call's own, where another one has grown -/
def ApG (x y : Option Addr) : Prop := ∀ a b, x = some a → y = some b → a.block ≠ b.block
theorem ApG.symm {x y : Option Addr} (h : ApG x y) : ApG y x := fun a b ha hb e => h b a hb ha e.symm
theorem ApG.none (x : Option Addr) : ApG x none := fun _ _ _ h => by cases h
theorem ApG.eqb {a b : Option Addr} {x : Nat} (h : ApG a b) (h1 : Eqb a x) (h2 : Eqb b x) : False := by
  obtain ⟨p, rfl, e1⟩ := h1
  obtain ⟨q, rfl, e2⟩ := h2
  exact h p q rfl rfl (e1.symm.trans e2)
theorem ApG.grow {S' : Nat → Prop} {w w' : World} {a b b' : Option Addr} (h : ApG a b) (ha : At (· < w.heap.size) a) (g : Grow S' w b w' b') : ApG a b' := by
  rcases g.fr with e | e
  · rw [e]; exact h
  · intro p q hp hq e2
    have h1 := ha p hp
    have h2 := e q hq
    omega
end Go.HL
namespace Go.HL
open Go.RowKit
section
variable {P : Program} {ops : Array Oper} {Q : Exit → Act → World → Prop} {N : Nat} {E : Env} {w : World} {rest : List Oper} {ty : TypeId} {pos : String} {af : Array Edge} {d : Nat} {α : Type} {e : Enc α} {t T tx : TypeId}
/-- noughts are appended to what is nil: room is made -/
theorem WL.appendZ {s x : Operand} {bytes n : Nat} {k kn : IntKind} {z : Value} (hinfo : (P.info? T).map (fun i => (i.zero, i.size, i.bytes)) = some (some z, e.sz, bytes)) (hzs : z.cells.size = e.sz)
    (ht : P.underlying t = some (.slice T)) (htx : P.underlying tx = some (.int kn)) (hs : ev E s = some (.slice none 0 0)) (hx : ev E x = some (.int k (n : Int))) (hn : 0 < n ∧ n ≤ 9223372036854775807 ∧ n * bytes ≤ 140737488355328) (hd : Nat.blt d N = true)
    (h : ∀ g c w', Row (fun b => b = g) w' T e (some ⟨g, 0, none⟩) c ([] : List α) → n ≤ c → Chg Nob w w' → g = w.heap.size → WL P ops Q N rest ((d, .slice (some ⟨g, 0, none⟩) n c) :: E) w') :
    WL P ops Q N (⟨some d, .call ⟨.builtin .append, #[s, x], #[t, tx]⟩, ty, pos, af, none⟩ :: rest) E w := by
  obtain ⟨i, hi, h1, h2, h3⟩ := info_parts hinfo
  have hr := Lib.run_append_nil_zeros (P := P) w t tx ty T i z k kn ht htx hi h1 n hn.1 (by rw [h2]; exact e.pos) (by omega) (by rw [h3]; omega)
  have hge := grownCap_ge w n 0 T
  have hcm : grownCap w n 0 T ≤ maxLen := grownCap_le_maxLen w n 0 T (by simpa [maxLen] using hn.2.1)
  obtain ⟨cap, hcap⟩ : ∃ cap, cap = grownCap w n 0 T := ⟨_, rfl⟩
  rw [← hcap] at hr hge hcm
  obtain ⟨W', hW'⟩ : ∃ W', W' = w.drew.alloc (.cells (Builtin.zeroCells z.cells n ++ Builtin.zeroCells z.cells (cap - n)) T) := ⟨_, rfl⟩
  rw [← hW'] at hr
  refine WL.run (.slice (some ⟨w.heap.size, 0, none⟩) n cap) W' (fun a ha => by simp [execOp, resolve, invoke, builtin, ev_eval ha hs, ev_eval ha hx, hr]) hd ?_
  subst hW'
  refine h w.heap.size cap _ ⟨fun a ea => by injection ea with ea; subst ea; rfl, by simp [Enc.all], Nat.zero_le _, .inr ⟨w.heap.size, _, (0, 0), rfl, heap_alloc_new w.drew _, fun j _ hh => by omega, hcm, ?_, ?_⟩⟩ hge ⟨rfl, rfl, rfl, by simp, fun k hk _ => Below.heap_alloc w.drew _ k hk⟩ rfl
  · simp only [Array.size_append, size_zeroCells, hzs, ← Nat.add_mul]
    congr 1
    omega
  · simp [Enc.all]
end
end Go.HL
namespace Go.HL
open Go.RowKit
/-- rows of the call's own, gathered one behind the other, each in a block of its own -/
structure AR (L N n1 : Nat) (w : World) (T U : TypeId) (ao : Option Addr) (c : Nat) (gs : List Nat) (rs : List Rw) : Prop where
  outer : Row (fun x => N ≤ x ∧ x < n1) w T erow ao c rs
  inner : ∀ (i g : Nat) (r : Rw), gs[i]? = some g → rs[i]? = some r → r.ao = some ⟨g, 0, none⟩ ∧ Row (fun b => b = g) w U eb (some ⟨g, 0, none⟩) r.cap r.xs ∧ g < n1 ∧ ¬ Eqb ao g
  len : gs.length = rs.length
  apart : ∀ (i j g : Nat), gs[i]? = some g → gs[j]? = some g → i = j
  low : ∀ (i g : Nat), gs[i]? = some g → L ≤ g
section
variable {L N n1 : Nat} {w w' : World} {T U : TypeId} {ao : Option Addr} {c : Nat} {gs : List Nat} {rs : List Rw} {M : Nat → Prop}
theorem AR.nil (L N n1 : Nat) (w : World) (T U : TypeId) : AR L N n1 w T U none 0 [] [] :=
  ⟨Row.nil _ _ _ _, fun i g r h => by simp at h, rfl, fun i j g h => by simp at h, fun i g h => by simp at h⟩
theorem AR.chg (h : AR L N n1 w T U ao c gs rs) (k : Chg M w w') (hd : ∀ x, x < n1 → M x → False) : AR L N n1 w' T U ao c gs rs :=
  ⟨h.outer.chg k (fun b _ hs hm => hd b hs.2 hm), fun i g r hg hr => by
    obtain ⟨h1, h2, h3, h4⟩ := h.inner i g r hg hr
    exact ⟨h1, h2.chg k (fun b _ hs hm => hd b (by have h5 : b = g := hs; omega) hm), h3, h4⟩, h.len, h.apart, h.low⟩
theorem AR.pure (h : AR L N n1 w T U ao c gs rs) (k : Chg Nob w w') : AR L N n1 w' T U ao c gs rs := h.chg k (fun _ _ x => x)
theorem get_snoc {α : Type} {l : List α} {a b : α} {i : Nat} (h : (l ++ [a])[i]? = some b) : l[i]? = some b ∨ i = l.length ∧ b = a := by
  rcases Nat.lt_or_ge i l.length with h2 | h2
  · rw [List.getElem?_append_left h2] at h; exact .inl h
  · rw [List.getElem?_append_right h2] at h
    have h3 := (List.getElem?_eq_some_iff.1 h).1
    simp at h3
    have h4 : i - l.length = 0 := by omega
    rw [h4] at h
    simp at h
    exact .inr ⟨by omega, h.symm⟩
/-- one more, which was made after all others -/
theorem AR.snoc (h : AR L N n1 w T U ao c gs rs) {g cr : Nat} {xs : List UInt8} (hg : n1 ≤ g) (hL : L ≤ g) (hr : Row (fun b => b = g) w U eb (some ⟨g, 0, none⟩) cr xs) (hs : n1 ≤ w.heap.size) {ao2 : Option Addr} {c2 : Nat} (ho : Row (fun x => N ≤ x) w' T erow ao2 c2 (rs ++ [⟨some ⟨g, 0, none⟩, cr, xs⟩])) (gw : Grow (fun x => N ≤ x) w ao w' ao2) :
    AR L N w'.heap.size w' T U ao2 c2 (gs ++ [g]) (rs ++ [⟨some ⟨g, 0, none⟩, cr, xs⟩]) := by
  have zs := gw.chg.size
  have hgl : g < w.heap.size := hr.own.lt _ rfl
  have hat : ∀ x, Eqb ao x → x < n1 := fun x e => (h.outer.at_.eqb e).2
  have hnew : ∀ x, x < w.heap.size → Eqb ao2 x → Eqb ao x := by
    intro x hx e
    rcases gw.fr with e1 | e1
    · rw [← e1]; exact e
    · have := e1.eqb e
      omega
  refine ⟨ho.lt, fun i g' r hg' hr' => ?_, by simp [h.len], fun i j g' h1 h2 => ?_, fun i g' h1 => ?_⟩
  · rcases get_snoc hg' with h1 | ⟨h1, h1'⟩
    · have hil := (List.getElem?_eq_some_iff.1 h1).1
      rw [List.getElem?_append_left (by rw [← h.len]; exact hil)] at hr'
      obtain ⟨h2, h3, h4, h5⟩ := h.inner i g' r h1 hr'
      exact ⟨h2, h3.chg gw.chg (fun b _ hb hm => h5 ((show b = g' from hb) ▸ hm.1)), by omega, fun e => h5 (hnew g' (by omega) e)⟩
    · subst h1; subst h1'
      rw [List.getElem?_append_right (by rw [h.len]; exact Nat.le_refl _), h.len, Nat.sub_self] at hr'
      simp at hr'
      subst hr'
      exact ⟨rfl, hr.chg gw.chg (fun b _ hb hm => by have h6 : b = g' := hb; have := hat b hm.1; omega), by omega, fun e => by have := hat g' (hnew g' hgl e); omega⟩
  · rcases get_snoc h1 with h3 | ⟨h3, h3'⟩ <;> rcases get_snoc h2 with h4 | ⟨h4, h4'⟩
    · exact h.apart i j g' h3 h4
    · have hil := (List.getElem?_eq_some_iff.1 h3).1
      obtain ⟨r, hr0⟩ : ∃ r, rs[i]? = some r := ⟨_, List.getElem?_eq_getElem (by rw [← h.len]; exact hil)⟩
      have := (h.inner i g' r h3 hr0).2.2.1
      omega
    · have hil := (List.getElem?_eq_some_iff.1 h4).1
      obtain ⟨r, hr0⟩ : ∃ r, rs[j]? = some r := ⟨_, List.getElem?_eq_getElem (by rw [← h.len]; exact hil)⟩
      have := (h.inner j g' r h4 hr0).2.2.1
      omega
    · omega
  · rcases get_snoc h1 with h3 | ⟨h3, h3'⟩
    · exact h.low i g' h3
    · omega
/-- one row has turned -/
theorem AR.upd (h : AR L N n1 w T U ao c gs rs) {r g : Nat} {q : Rw} {x' : List UInt8} (hg : gs[r]? = some g) (hx : rs[r]? = some q) (hl : x'.length = q.xs.length) (k : Chg (fun b => b = g) w w') (hr : Row (fun b => b = g) w' U eb (some ⟨g, 0, none⟩) q.cap x') :
    AR L N n1 w' T U ao c gs (rs.set r ⟨q.ao, q.cap, x'⟩) := by
  obtain ⟨h1, h2, h3, h4⟩ := h.inner r g q hg hx
  have hrl : r < rs.length := (List.getElem?_eq_some_iff.1 hx).1
  have hgo : ∀ x, x = g → N ≤ x ∧ x < n1 → Eqb ao x → False := fun x e _ hq => h4 (e ▸ hq)
  refine ⟨?_, fun i g' r' hg' hr' => ?_, by rw [List.length_set]; exact h.len, h.apart, h.low⟩
  · have hat : Row (fun x => (N ≤ x ∧ x < n1) ∧ ¬ x = g) w T erow ao c rs := ⟨fun a ea => ⟨h.outer.at_ a ea, fun e => h4 ⟨a, ea, e.symm⟩⟩, h.outer.own⟩
    have ho := hat.chg k (fun b _ hs hm => hs.2 hm)
    have e1 : erow.all (rs.set r ⟨q.ao, q.cap, x'⟩) = erow.all rs := by
      have : ∀ (ys : List Rw) (r : Nat), ys[r]? = some q → erow.all (ys.set r ⟨q.ao, q.cap, x'⟩) = erow.all ys := by
        intro ys
        induction ys with
        | nil => intro r hr; simp at hr
        | cons y ys ih =>
          intro r hr
          cases r with
          | zero =>
            simp at hr
            subst hr
            simp [Enc.all, erow, hl]
          | succ r =>
            have := ih r (by simpa using hr)
            simp only [Enc.all] at this
            simp [Enc.all, this]
      exact this rs r hx
    exact ⟨fun a ea => (ho.at_ a ea).1, by rw [e1, List.length_set]; exact ho.own⟩
  · by_cases hir : i = r
    · subst hir
      rw [hg] at hg'
      injection hg' with hg'
      subst hg'
      rw [List.getElem?_set_self hrl] at hr'
      injection hr' with hr'
      subst hr'
      exact ⟨h1, hr, h3, h4⟩
    · rw [List.getElem?_set_ne (fun e => hir e.symm)] at hr'
      obtain ⟨i1, i2, i3, i4⟩ := h.inner i g' r' hg' hr'
      refine ⟨i1, i2.chg k (fun b _ hb hm => ?_), i3, i4⟩
      have e1 : b = g' := hb
      have e2 : b = g := hm
      exact hir (h.apart i r g (by rw [← e2, e1]; exact hg') hg)
/-- as rows that are read -/
theorem AR.read (h : AR L N n1 w T U ao c gs rs) : RS (fun _ => True) w ao c rs := by
  refine ⟨h.outer.rsl.mono (fun _ _ => trivial), fun r hr => ?_⟩
  obtain ⟨i, hi⟩ := List.getElem?_of_mem hr
  have hil := (List.getElem?_eq_some_iff.1 hi).1
  obtain ⟨g, hg⟩ : ∃ g, gs[i]? = some g := ⟨_, List.getElem?_eq_getElem (by rw [h.len]; exact hil)⟩
  obtain ⟨h1, h2, _⟩ := h.inner i g r hg hi
  rw [h1]
  exact h2.rsl.mono (fun _ _ => trivial)
end
end Go.HL
namespace Go.HL
open Go.RowKit
theorem get_app {α : Type} {l m : List α} {b : α} {i : Nat} (h : (l ++ m)[i]? = some b) : i < l.length ∧ l[i]? = some b ∨ l.length ≤ i ∧ m[i - l.length]? = some b := by
  rcases Nat.lt_or_ge i l.length with h2 | h2
  · rw [List.getElem?_append_left h2] at h; exact .inl ⟨h2, h⟩
  · rw [List.getElem?_append_right h2] at h; exact .inr ⟨h2, h⟩
/-- three more, which were made ahead of all others -/
theorem AR.app {L N n1 : Nat} {w w' : World} {T U : TypeId} {ao ao2 : Option Addr} {c c2 go k n : Nat} {gs gs' : List Nat} {rs : List Rw} {ys : List (List UInt8)} (h : AR L N n1 w T U ao c gs rs) (hp : OR w T U go k gs' n ys []) (hLN : N ≤ L)
    (hlt : ∀ (i g : Nat), gs'[i]? = some g → g < N) (hNn : N ≤ n1) (hs : n1 ≤ w.heap.size) (ho : Row (fun x => N ≤ x) w' T erow ao2 c2 (rs ++ orows gs' n ys)) (gw : Grow (fun x => N ≤ x) w ao w' ao2) :
    AR 0 N w'.heap.size w' T U ao2 c2 (gs ++ gs') (rs ++ orows gs' n ys) := by
  have zs := gw.chg.size
  have hat : ∀ x, Eqb ao x → N ≤ x ∧ x < n1 := fun x e => h.outer.at_.eqb e
  have hnew : ∀ x, x < w.heap.size → Eqb ao2 x → Eqb ao x := by
    intro x hx e
    rcases gw.fr with e1 | e1
    · rw [← e1]; exact e
    · have := e1.eqb e
      omega
  have hol := orows_len (n := n) hp.len
  refine ⟨ho.lt, fun i g' r hg' hr' => ?_, by rw [List.length_append, List.length_append, h.len, hol], fun i j g' h1 h2 => ?_, fun i g' h1 => Nat.zero_le _⟩
  · rcases get_app hg' with ⟨h0, h1⟩ | ⟨h0, h1⟩
    · rw [List.getElem?_append_left (by rw [← h.len]; exact h0)] at hr'
      obtain ⟨h2, h3, h4, h5⟩ := h.inner i g' r h1 hr'
      exact ⟨h2, h3.chg gw.chg (fun b _ hb hm => h5 ((show b = g' from hb) ▸ hm.1)), by omega, fun e => h5 (hnew g' (by omega) e)⟩
    · rw [List.getElem?_append_right (by rw [← h.len]; exact h0), ← h.len] at hr'
      have hil := (List.getElem?_eq_some_iff.1 h1).1
      obtain ⟨y, hy⟩ : ∃ y, ys[i - gs.length]? = some y := ⟨_, List.getElem?_eq_getElem (by rw [← hp.len]; exact hil)⟩
      have hrow := hp.inner _ g' y h1 hy
      rw [orows, List.getElem?_zipWith, h1, hy] at hr'
      injection hr' with hr'
      subst hr'
      have hg'N := hlt _ g' h1
      exact ⟨rfl, hrow.chg gw.chg (fun b _ hb hm => by have h6 : b = g' := hb; have := hat b hm.1; omega), by omega, fun e => by have := hat g' (hnew g' (by omega) e); omega⟩
  · rcases get_app h1 with ⟨h3, h3'⟩ | ⟨h3, h3'⟩ <;> rcases get_app h2 with ⟨h4, h4'⟩ | ⟨h4, h4'⟩
    · exact h.apart i j g' h3' h4'
    · have := h.low i g' h3'
      have := hlt _ g' h4'
      omega
    · have := h.low j g' h4'
      have := hlt _ g' h3'
      omega
    · have := hp.apart _ _ g' h3' h4'
      omega
end Go.HL
namespace Go.Proofs.YtggecdldnpildaaGreat
open Go.RowKit Go.HL
set_option maxRecDepth 100000

/-! rows joined; a row times an element; a row plus a multiple of another -/
theorem grow_calls {w : World} (n : Nat) (hn : 1 ≤ n ∧ n ≤ 100000) : Calls Tryz.prog 110 [.slice none 0 0, vi (n : Int)].toArray w (Ret fun v w' => (∃ g c, v = .slice (some ⟨g, 0, none⟩) 0 c ∧ Row (fun b => b = g) w' 5 eb (some ⟨g, 0, none⟩) c [] ∧ w.heap.size ≤ g) ∧ Chg Nob w w') := by
  have hw := Chg.refl Nob w
  refine Calls.of_WC Tryz.func110 rfl Tryz.ntmps110 (by simp) ?_
  refine WC.seq (WC.region (WL.assign rfl rfl (WL.nil (WX.then_normal (WC.seq (WC.seq (WC.region (?_))))))))
  refine WL.move rfl rfl (?_)
  refine WL.lssF rfl rfl rfl (by omega) ?_
  refine WL.nil (WX.then_normal (WC.cond_false rfl (WC.skip (WX.then_normal (WC.seq (WC.seq (WC.region (?_))))))))
  refine WL.move rfl rfl (WL.move rfl rfl (?_))
  refine WL.cap Tryz.underlying26 rfl rfl ?_
  refine WL.move rfl rfl (WL.len Tryz.underlying26 rfl rfl (WL.sub64 rfl rfl (by omega) rfl (WL.sub64 rfl rfl (by omega) rfl (WL.assign rfl rfl (WL.nil (WX.then_normal (WC.seq (?_))))))))
  refine WC.region (WL.move rfl rfl (?_))
  refine WL.gtrT rfl rfl rfl (by omega) ?_
  refine WL.nil (WX.then_normal (WC.cond_true rfl (WC.region (WL.move rfl rfl (WL.move rfl rfl (?_))))))
  refine WL.cap Tryz.underlying26 rfl rfl ?_
  refine WL.sliceN (l := 0) (h := 0) (k := .i64) Tryz.underlying26 Tryz.sizeOf5 rfl (.inr ⟨rfl, rfl⟩) (.inl ⟨rfl, Nat.le_refl _⟩) (Nat.le_refl _) rfl ?_
  refine WL.move rfl rfl (?_)
  refine WL.appendZ (e := eb) (n := n) info_5 rfl Tryz.underlying26 Tryz.underlying3 rfl (by show some (vi ((n : Int) - (((0 : Nat) : Int) - ((0 : Nat) : Int)))) = some (vi (n : Int)); rw [show (n : Int) - (((0 : Nat) : Int) - ((0 : Nat) : Int)) = (n : Int) by omega]) ⟨by omega, by omega, by omega⟩ rfl ?_
  intro g c w3 hr hc k3 eg
  have zs_k3 := k3.size
  replace hw := hw.pure k3
  refine WL.move rfl rfl (WL.len Tryz.underlying26 rfl rfl (?_))
  refine WL.sliceN (l := 0) (h := 0) (k := .i64) Tryz.underlying26 Tryz.sizeOf5 rfl (.inr ⟨rfl, rfl⟩) (.inl ⟨rfl, Nat.zero_le _⟩) (Nat.le_refl _) rfl ?_
  refine WL.assign rfl rfl (WL.nil (WX.then_normal (WC.seq (WC.region (WL.move rfl rfl (WL.assign rfl rfl (WL.nil (?_))))))))
  refine WX.then_normal (WC.ret (?_))
  refine WX.ret1 (.inl rfl) Tryz.results110 rfl ?_
  refine ⟨_, rfl, ⟨g, c, ?_, hr, by have := hw.size; omega⟩, hw⟩
  have e1 : cutAt (some (⟨g, 0, none⟩ : Addr)) c 0 1 = some ⟨g, 0, none⟩ := by unfold cutAt; split <;> simp [Addr.add_lit]
  simp [e1]
theorem concat_calls {S : Nat → Prop} {w : World} {ao : Option Addr} {c : Nat} {r1 r2 : Rw} (h : RS S w ao c [r1, r2]) (h1 : 1 ≤ r1.xs.length ∧ r1.xs.length ≤ 10000) (h2 : r2.xs.length ≤ 10000) :
    Calls Tryz.prog 105 [.slice ao 2 c].toArray w (Ret fun v w' => (∃ g c2, v = .slice (some ⟨g, 0, none⟩) (r1.xs ++ r2.xs).length c2 ∧ Row (fun b => b = g) w' 5 eb (some ⟨g, 0, none⟩) c2 (r1.xs ++ r2.xs) ∧ w.heap.size ≤ g) ∧ Chg Nob w w') := by
  have hw := Chg.refl Nob w
  replace h := h.old
  obtain ⟨sm, hsm⟩ : ∃ sm : Nat → Nat, sm = fun i => if i = 0 then 0 else if i = 1 then r1.xs.length else r1.xs.length + r2.xs.length := ⟨_, rfl⟩
  obtain ⟨jn, hjn⟩ : ∃ jn : Nat → List UInt8, jn = fun i => if i = 0 then [] else if i = 1 then r1.xs else r1.xs ++ r2.xs := ⟨_, rfl⟩
  have hs0 : sm 0 = 0 := by rw [hsm]; rfl
  have hs2 : sm 2 = r1.xs.length + r2.xs.length := by rw [hsm]; rfl
  have hst : ∀ i r, i < 2 → [r1, r2][i]? = some r → sm (i + 1) = sm i + r.xs.length ∧ r.xs.length ≤ 10000 ∧ sm i ≤ 10000 ∧ jn (i + 1) = jn i ++ r.xs ∧ (jn i).length ≤ 10000 ∧ 1 ≤ (jn i ++ r.xs).length := fun i r hi hr => by
    have h3 : i = 0 ∨ i = 1 := by omega
    rcases h3 with rfl | rfl
    · injection hr with hr
      subst hr
      rw [hsm, hjn]
      exact ⟨by simp, by omega, by simp, by simp, by simp, by simp; omega⟩
    · injection hr with hr
      subst hr
      rw [hsm, hjn]
      exact ⟨by simp, by omega, by simp; omega, by simp, by simp; omega, by simp; omega⟩
  refine Calls.of_WC Tryz.func105 rfl Tryz.ntmps105 (by simp) ?_
  refine WC.seq (WC.region (WL.assign rfl rfl (WL.nil (WX.then_normal (WC.seq (WC.region (WL.assign rfl rfl (?_))))))))
  refine WL.nil (WX.then_normal (WC.seq (WC.seq (WC.region (WL.move rfl rfl (WL.len Tryz.underlying87 rfl rfl (WL.move rfl rfl (?_))))))))
  refine WL.nil (WX.then_normal (WC.block (?_)))
  refine WC.loop (σ := Nat) (fun i => [(0, .slice ao 2 c), (3, vi (sm i : Int)), (9, .slice ao 2 c), (10, vi 2), (11, vi (i : Int))]) (fun i w' => i ≤ 2 ∧ RS (· < w.heap.size) w' ao c [r1, r2] ∧ Chg Nob w w') (fun i => 2 - i) 0 ⟨rfl, by rw [hs0]; rfl, rfl, rfl, rfl, trivial⟩ ⟨Nat.zero_le _, h, hw⟩ ?_
  clear h hw
  rintro i w1 ⟨hi, h, hw⟩
  refine WC.seq (WC.region (?_))
  refine WL.lss? rfl rfl rfl (fun h12 => ?_) (fun h12 => ?_)
  ·
    refine WL.nil (WX.then_normal (WC.seq (WC.cond_true rfl (WC.skip (WX.then_normal (WC.seq (WC.block (?_))))))))
    refine WC.seq (WC.region (?_))
    obtain ⟨r, hr⟩ : ∃ r, [r1, r2][i]? = some r := ⟨_, List.getElem?_eq_getElem (by simp; omega)⟩
    obtain ⟨e1, e2, e3, -, -, -⟩ := hst i r (by omega) hr
    refine WL.indexT (e := erow) Tryz.underlying87 Tryz.sizeOf26 h.outer rfl rfl ⟨hr, rfl⟩ rfl ?_
    intro bb oo hcc
    refine WL.load Tryz.isAgg26 rfl (hcc 0 _ rfl) rfl ?_
    refine WL.assign rfl rfl (WL.nil (WX.then_normal (WC.seq (WC.region (WL.move rfl rfl (WL.move rfl rfl (WL.len Tryz.underlying26 rfl rfl (?_))))))))
    refine WL.add64 rfl rfl (by omega) rfl (WL.assign rfl rfl (WL.nil (WX.then_normal (WC.seq (WC.region (WL.move rfl rfl (?_)))))))
    refine WL.lssF rfl rfl rfl (by omega) ?_
    refine WL.nil (WX.then_normal (WC.cond_false rfl (WC.skip (WX.block_normal (WX.then_normal (WC.region (WL.add64 rfl rfl (by omega) rfl (?_))))))))
    refine WL.move rfl rfl (WL.nil (?_))
    exact WX.loop_next (i + 1) ⟨rfl, by simp [List.lookup, ev, e1], rfl, rfl, rfl, trivial⟩ ⟨by omega, h, hw⟩ (by omega)
  ·
    refine WL.nil (WX.then_normal (WC.seq (WC.cond_false rfl (WC.exit (WX.then_exit (WX.then_exit (WX.block_here (?_))))))))
    refine WX.then_normal (WC.seq (WC.region (WL.move rfl rfl (?_))))
    have hi2 : i = 2 := by omega
    subst hi2
    rw [hs2]
    have zw1 := hw.size
    refine WL.call eg_110 rfl rfl (grow_calls (r1.xs.length + r2.xs.length) ⟨by omega, by omega⟩) ?_
    rintro v w2 ⟨⟨g, cg, rfl, hg, hge⟩, k2⟩
    have zs_k2 := k2.size
    replace h := h.pure k2
    replace hw := hw.pure k2
    refine WL.assign rfl rfl (WL.nil (WX.then_normal (WC.seq (WC.seq (WC.region (WL.move rfl rfl (WL.len Tryz.underlying87 rfl rfl (?_))))))))
    refine WL.move rfl rfl (WL.nil (WX.then_normal (WC.block (?_))))
    have hj0 : jn 0 = [] := by rw [hjn]; rfl
    refine WC.loop (σ := Nat × Nat × Nat) (fun q => [(0, .slice ao 2 c), (6, .slice (some ⟨q.2.1, 0, none⟩) (jn q.1).length q.2.2), (25, .slice ao 2 c), (26, vi 2), (27, vi (q.1 : Int))]) (fun q w' => q.1 ≤ 2 ∧ RS (· < w.heap.size) w' ao c [r1, r2] ∧ Row (fun b => b = q.2.1) w' 5 eb (some ⟨q.2.1, 0, none⟩) q.2.2 (jn q.1) ∧ w.heap.size ≤ q.2.1 ∧ Chg Nob w w') (fun q => 2 - q.1) (0, g, cg) ⟨rfl, by rw [hj0]; rfl, rfl, rfl, rfl, trivial⟩ ⟨Nat.zero_le _, h, by rw [hj0]; exact hg, by show w.heap.size ≤ g; have := hw.size; omega, hw⟩ ?_
    clear h hw hg
    rintro ⟨i, g, cg⟩ w1 ⟨hi, h, hg, hge, hw⟩
    simp only at hi hg hge
    dsimp only
    refine WC.seq (WC.region (?_))
    refine WL.lss? rfl rfl rfl (fun h28 => ?_) (fun h28 => ?_)
    ·
      refine WL.nil (WX.then_normal (WC.seq (WC.cond_true rfl (WC.skip (WX.then_normal (WC.seq (WC.block (?_))))))))
      refine WC.seq (WC.region (?_))
      obtain ⟨r, hr⟩ : ∃ r, [r1, r2][i]? = some r := ⟨_, List.getElem?_eq_getElem (by simp; omega)⟩
      obtain ⟨-, e2, -, e4, e5, e6⟩ := hst i r (by omega) hr
      refine WL.indexT (e := erow) Tryz.underlying87 Tryz.sizeOf26 h.outer rfl rfl ⟨hr, rfl⟩ rfl ?_
      intro bb oo hcc
      refine WL.load Tryz.isAgg26 rfl (hcc 0 _ rfl) rfl ?_
      refine WL.assign rfl rfl (WL.nil (WX.then_normal (WC.region (WL.move rfl rfl (WL.move rfl rfl (?_))))))
      refine WL.append (e := eb) info_5 rfl Tryz.underlying26 rfl rfl (hg.mono (S' := fun b => w.heap.size ≤ b) (fun b hb => by have : b = g := hb; omega)) ((h.at hr).src Tryz.underlying26) (by constructor <;> omega) (fun b hb => by have := hw.size; omega) rfl ?_
      intro a2 c2 w5 hg2 gg nn
      replace h := h.chg gg.chg (fun b _ h2 h3 => by have := h3.2; omega)
      replace hw := hw.chg gg.chg (fun b h2 h3 => by have := h3.2; omega)
      obtain ⟨g2, rfl⟩ : ∃ g2, a2 = some ⟨g2, 0, none⟩ := by
        rcases gg.fr with e | e
        ·
          exact ⟨g, e⟩
        ·
          rcases hg2.own.2.2 with ⟨rfl, hc0⟩ | ⟨g2, _, _, rfl, _⟩
          ·
            rw [nn rfl] at e6
            exact absurd e6 (by decide)
          ·
            exact ⟨g2, rfl⟩
      have hg3 : Row (fun b => b = g2) _ 5 eb (some ⟨g2, 0, none⟩) c2 (jn i ++ r.xs) := ⟨fun a ea => by injection ea with ea; rw [← ea], hg2.own⟩
      have hge2 : w.heap.size ≤ g2 := hg2.at_ _ rfl
      refine WL.assign rfl rfl (WL.nil (WX.block_normal (WX.then_normal (WC.region (WL.add64 rfl rfl (by omega) rfl (WL.move rfl rfl (WL.nil (?_))))))))
      exact WX.loop_next (i + 1, g2, c2) ⟨rfl, by rw [e4]; rfl, rfl, rfl, rfl, trivial⟩ ⟨by show i + 1 ≤ 2; omega, h, by show Row _ _ _ _ _ _ (jn (i + 1)); rw [e4]; exact hg3, hge2, hw⟩ (by show 2 - (i + 1) < 2 - i; omega)
    ·
      refine WL.nil (WX.then_normal (WC.seq (WC.cond_false rfl (WC.exit (WX.then_exit (WX.then_exit (WX.block_here (?_))))))))
      refine WX.then_normal (WC.seq (WC.region (WL.move rfl rfl (WL.assign rfl rfl (WL.nil (WX.then_normal (WC.ret (?_))))))))
      refine WX.ret1 (.inl rfl) Tryz.results105 rfl ?_
      have hi2 : i = 2 := by omega
      subst hi2
      have e2 : jn 2 = r1.xs ++ r2.xs := by rw [hjn]; rfl
      rw [e2] at hg ⊢
      exact ⟨_, rfl, ⟨g, cg, rfl, hg, hge⟩, hw⟩
theorem scale_calls {w : World} {gf g c : Nat} {xs : List UInt8} (hR : Blk w gf 146 FR) (hr : Row (fun b => b = g) w 5 eb (some ⟨g, 0, none⟩) c xs) (hne : g ≠ gf) (hl : xs.length ≤ 100000) (s : UInt8) :
    Calls Tryz.prog 108 [.pointer (some ⟨gf, 0, none⟩), .slice (some ⟨g, 0, none⟩) xs.length c, v8 s].toArray w (Ret fun v w' => v = .tuple #[] ∧ (∃ ys : List UInt8, ys.length = xs.length ∧ (∀ j, ys.getD j 0 = mul (xs.getD j 0) s) ∧ Row (fun b => b = g) w' 5 eb (some ⟨g, 0, none⟩) c ys) ∧ Chg (fun b => b = g) w w') := by
  have hw := Chg.refl (fun b => b = g) w
  refine Calls.of_WC Tryz.func108 rfl Tryz.ntmps108 (by simp) ?_
  refine WC.seq (WC.region (WL.move rfl rfl (WL.len Tryz.underlying26 rfl rfl (WL.move rfl rfl (WL.nil (WX.then_normal (WC.block (?_))))))))
  refine WC.loop (σ := Nat × List UInt8) (fun q => [(0, .pointer (some ⟨gf, 0, none⟩)), (1, .slice (some ⟨g, 0, none⟩) xs.length c), (2, v8 s), (8, vi xs.length), (9, vi (q.1 : Int))]) (fun q w' => q.1 ≤ xs.length ∧ (q.2.length = xs.length ∧ ∀ j, q.2.getD j 0 = if j < q.1 then mul (xs.getD j 0) s else xs.getD j 0) ∧ Blk w' gf 146 FR ∧ Row (fun b => b = g) w' 5 eb (some ⟨g, 0, none⟩) c q.2 ∧ Chg (fun b => b = g) w w') (fun q => xs.length - q.1) (0, xs) ⟨rfl, rfl, rfl, rfl, rfl, trivial⟩ ⟨Nat.zero_le _, ⟨rfl, fun j => by rw [if_neg (Nat.not_lt_zero j)]⟩, hR, hr, hw⟩ ?_
  clear hR hr hw
  rintro ⟨i, ys⟩ w1 ⟨hi, ⟨hyl, hyv⟩, hR, hr, hw⟩
  simp only at hi hyl hyv hr
  dsimp only
  refine WC.seq (WC.region (?_))
  refine WL.lss? rfl rfl rfl (fun h10 => ?_) (fun h10 => ?_)
  ·
    refine WL.nil (WX.then_normal (WC.seq (WC.cond_true rfl (WC.skip (WX.then_normal (WC.seq (WC.block (?_))))))))
    refine WC.seq (WC.region (WL.move rfl rfl (WL.assign rfl rfl (WL.nil (WX.then_normal (WC.region (WL.move rfl rfl (?_))))))))
    refine WL.move rfl rfl (WL.move rfl rfl (WL.move rfl rfl (WL.move rfl rfl (?_))))
    obtain ⟨y, hy⟩ : ∃ y, ys[i]? = some y := ⟨_, List.getElem?_eq_getElem (by omega)⟩
    refine WL.indexT (e := eb) Tryz.underlying26 Tryz.sizeOf5 hr.rsl (by show some (Value.slice _ xs.length c) = _; rw [hyl]) rfl ⟨hy, rfl⟩ rfl ?_
    intro bb oo hcc
    refine WL.load Tryz.isAgg5 rfl (hcc 0 _ rfl) rfl ?_
    refine WL.move rfl rfl (?_)
    refine WL.call eg_102 rfl rfl (mulR_calls hR y s) ?_
    rintro v w2 ⟨rfl, k2⟩
    have zs_k2 := k2.size
    replace hR := hR.pure k2
    replace hr := hr.pure k2
    replace hw := hw.pure k2
    refine WL.index (j := i) (sz := 1) Tryz.underlying26 Tryz.sizeOf5 rfl rfl rfl (by omega) rfl ?_
    refine WL.storeRow (z := mul y s) i Tryz.sizeOf5 hr rfl rfl rfl (by show 0 + i * 1 = i; omega) (by omega) rfl ?_
    intro w3 z3 hr3 k3
    replace hR := hR.chg k3 (fun e => hne e.symm)
    replace hw := hw.chg k3 (fun x _ h => h)
    refine WL.nil (WX.block_normal (WX.then_normal (WC.region (WL.add64 rfl rfl (by omega) rfl (WL.move rfl rfl (WL.nil (?_)))))))
    refine WX.loop_next (i + 1, ys.set i (mul y s)) ⟨rfl, rfl, rfl, rfl, rfl, trivial⟩ ⟨by show i + 1 ≤ _; omega, ⟨by show (ys.set i _).length = _; rw [List.length_set]; exact hyl, fun j => ?_⟩, hR, hr3, hw⟩ (by show xs.length - (i + 1) < xs.length - i; omega)
    show (ys.set i (mul y s)).getD j 0 = if j < i + 1 then _ else _
    rw [List.getD_eq_getElem?_getD, List.getElem?_set]
    by_cases e : i = j
    ·
      subst e
      have h1 := hyv i
      rw [if_neg (Nat.lt_irrefl i), List.getD_eq_getElem?_getD, hy] at h1
      rw [if_pos rfl, if_pos (by omega), if_pos (by omega), ← h1]
      rfl
    ·
      rw [if_neg e, ← List.getD_eq_getElem?_getD, hyv j]
      by_cases e2 : j < i
      ·
        rw [if_pos e2, if_pos (by omega)]
      ·
        rw [if_neg e2, if_neg (by omega)]
  ·
    refine WL.nil (WX.then_normal (WC.seq (WC.cond_false rfl (WC.exit (WX.then_exit (WX.then_exit (WX.block_here (?_))))))))
    refine WX.ret0 (.inr rfl) Tryz.results108 ?_
    have hi2 : i = xs.length := by omega
    subst hi2
    refine ⟨_, rfl, rfl, ⟨ys, hyl, fun j => ?_, hr⟩, hw⟩
    rw [hyv j]
    by_cases e : j < xs.length
    ·
      rw [if_pos e]
    ·
      rw [if_neg e]
      have e3 : xs.getD j 0 = 0 := by rw [List.getD_eq_getElem?_getD, List.getElem?_eq_none (by omega)]; rfl
      rw [e3, mul_zero_l]
theorem fadd_calls {w : World} {gf g c cr : Nat} {ar : Option Addr} {xs rs : List UInt8} (hR : Blk w gf 146 FR) (hr : Row (fun b => b = g) w 5 eb (some ⟨g, 0, none⟩) c xs) (hs : RSl (fun b => b ≠ g) w eb ar cr rs) (hrl : rs.length = xs.length) (hne : g ≠ gf) (hl : xs.length ≤ 100000) (s : UInt8) :
    Calls Tryz.prog 109 [.pointer (some ⟨gf, 0, none⟩), .slice (some ⟨g, 0, none⟩) xs.length c, .slice ar rs.length cr, v8 s].toArray w (Ret fun v w' => v = .tuple #[] ∧ (∃ ys : List UInt8, ys.length = xs.length ∧ (∀ j, ys.getD j 0 = xs.getD j 0 ^^^ mul (rs.getD j 0) s) ∧ Row (fun b => b = g) w' 5 eb (some ⟨g, 0, none⟩) c ys) ∧ Chg (fun b => b = g) w w') := by
  have hw := Chg.refl (fun b => b = g) w
  refine Calls.of_WC Tryz.func109 rfl Tryz.ntmps109 (by simp) ?_
  refine WC.seq (WC.region (WL.move rfl rfl (WL.len Tryz.underlying26 rfl rfl (WL.move rfl rfl (WL.nil (WX.then_normal (WC.block (?_))))))))
  refine WC.loop (σ := Nat × List UInt8) (fun q => [(0, .pointer (some ⟨gf, 0, none⟩)), (1, .slice (some ⟨g, 0, none⟩) xs.length c), (2, .slice ar rs.length cr), (3, v8 s), (10, vi xs.length), (11, vi (q.1 : Int))]) (fun q w' => q.1 ≤ xs.length ∧ (q.2.length = xs.length ∧ ∀ j, q.2.getD j 0 = if j < q.1 then xs.getD j 0 ^^^ mul (rs.getD j 0) s else xs.getD j 0) ∧ Blk w' gf 146 FR ∧ Row (fun b => b = g) w' 5 eb (some ⟨g, 0, none⟩) c q.2 ∧ RSl (fun b => b ≠ g) w' eb ar cr rs ∧ Chg (fun b => b = g) w w') (fun q => xs.length - q.1) (0, xs) ⟨rfl, rfl, rfl, rfl, rfl, rfl, trivial⟩ ⟨Nat.zero_le _, ⟨rfl, fun j => by rw [if_neg (Nat.not_lt_zero j)]⟩, hR, hr, hs, hw⟩ ?_
  clear hR hr hs hw
  rintro ⟨i, ys⟩ w1 ⟨hi, ⟨hyl, hyv⟩, hR, hr, hs, hw⟩
  simp only at hi hyl hyv hr
  dsimp only
  refine WC.seq (WC.region (?_))
  refine WL.lss? rfl rfl rfl (fun h12 => ?_) (fun h12 => ?_)
  ·
    refine WL.nil (WX.then_normal (WC.seq (WC.cond_true rfl (WC.skip (WX.then_normal (WC.seq (WC.block (?_))))))))
    refine WC.seq (WC.region (WL.move rfl rfl (WL.assign rfl rfl (WL.nil (WX.then_normal (?_))))))
    obtain ⟨y, hy⟩ : ∃ y, ys[i]? = some y := ⟨_, List.getElem?_eq_getElem (by omega)⟩
    obtain ⟨z, hz⟩ : ∃ z, rs[i]? = some z := ⟨_, List.getElem?_eq_getElem (by omega)⟩
    obtain ⟨zb, zo, hza⟩ := hs.place hz
    refine WC.draw (fun b => b = g) [0, 1, 2, 4, 5, 6, 7, 8, 9, 10, 12] [3, 11, 13] mixed rfl rfl (fun wd_1 kd_1 zd_1 => ?_)
    have zs_kd_1 := kd_1.size
    replace hR := hR.pure kd_1
    replace hr := hr.pure kd_1
    replace hs := hs.pure kd_1
    replace hw := hw.pure kd_1
    apply DQ.step (E' := [(1, _)])
    case ho => rfl
    case hs => exact ⟨rfl, trivial⟩
    case hk => rfl
    case h1 =>
      intro wq_3 kq_3
      refine WL.move rfl rfl (?_)
      refine WL.nil ?_
      exact WX.one ⟨rfl, by exact Chg.refl _ _⟩
    apply DQ.step (E' := [(8, _)])
    case ho => rfl
    case hs => exact ⟨rfl, trivial⟩
    case hk => rfl
    case h1 =>
      intro wq_4 kq_4
      refine WL.move rfl rfl (?_)
      refine WL.nil ?_
      exact WX.one ⟨rfl, by exact Chg.refl _ _⟩
    apply DQ.step (E' := [(14, _), (15, _)])
    case ho => rfl
    case hs => exact ⟨rfl, rfl, trivial⟩
    case hk => rfl
    case h1 =>
      intro wq_5 kq_5
      have zs_kq_5 := kq_5.size
      replace hR := hR.chg kq_5 (by intro h1; have h2 : _ = _ := h1; exfalso; omega)
      replace hs := hs.chg kq_5 (by intro x h1 h2; exact h2)
      refine WL.index (j := i) (sz := 1) Tryz.underlying26 Tryz.sizeOf5 rfl rfl rfl (by omega) rfl ?_
      refine WL.nil ?_
      exact WX.one ⟨rfl, by exact Chg.refl _ _⟩
    apply DQ.step (E' := [(0, _)])
    case ho => rfl
    case hs => exact ⟨rfl, trivial⟩
    case hk => rfl
    case h1 =>
      intro wq_6 kq_6
      refine WL.move rfl rfl (?_)
      refine WL.nil ?_
      exact WX.one ⟨rfl, by exact Chg.refl _ _⟩
    apply DQ.step (E' := [(2, _)])
    case ho => rfl
    case hs => exact ⟨rfl, trivial⟩
    case hk => rfl
    case h1 =>
      intro wq_7 kq_7
      refine WL.move rfl rfl (?_)
      refine WL.nil ?_
      exact WX.one ⟨rfl, by exact Chg.refl _ _⟩
    apply DQ.step (E' := [(8, _)])
    case ho => rfl
    case hs => exact ⟨rfl, trivial⟩
    case hk => rfl
    case h1 =>
      intro wq_8 kq_8
      refine WL.move rfl rfl (?_)
      refine WL.nil ?_
      exact WX.one ⟨rfl, by exact Chg.refl _ _⟩
    apply DQ.step (E' := [(19, _), (20, _)])
    case ho => rfl
    case hs => exact ⟨rfl, rfl, trivial⟩
    case hk => rfl
    case h1 =>
      intro wq_9 kq_9
      have zs_kq_9 := kq_9.size
      replace hR := hR.chg kq_9 (by intro h1; have h2 : _ = _ := h1; exfalso; omega)
      replace hs := hs.chg kq_9 (by intro x h1 h2; exact h2)
      have hsq := hs
      rw [hza] at hsq
      refine WL.indexC (e := eb) hsq Tryz.underlying26 Tryz.sizeOf5 (by show some (Value.slice ar rs.length cr) = _; rw [hza]) rfl ⟨hz, rfl⟩ rfl ?_
      refine WL.nil ?_
      exact WX.one ⟨rfl, by exact Chg.refl _ _⟩
    apply DQ.step (E' := [(21, _)])
    case ho => rfl
    case hs => exact ⟨rfl, trivial⟩
    case hk => rfl
    case h1 =>
      intro wq_10 kq_10
      have zs_kq_10 := kq_10.size
      replace hR := hR.chg kq_10 (by intro h1; have h2 : _ = _ := h1; exfalso; omega)
      replace hs := hs.chg kq_10 (by intro x h1 h2; exact h2)
      have hsq := hs
      rw [hza] at hsq
      refine WL.load Tryz.isAgg5 rfl (hsq.cellsAt hz 0 _ rfl) rfl ?_
      refine WL.nil ?_
      exact WX.one ⟨rfl, by exact Chg.refl _ _⟩
    apply DQ.step (E' := [(3, _)])
    case ho => rfl
    case hs => exact ⟨rfl, trivial⟩
    case hk => rfl
    case h1 =>
      intro wq_11 kq_11
      refine WL.move rfl rfl (?_)
      refine WL.nil ?_
      exact WX.one ⟨rfl, by exact Chg.refl _ _⟩
    apply DQ.step (E' := [(18, _), (22, _), (23, _)])
    case ho => rfl
    case hs => exact ⟨rfl, rfl, rfl, trivial⟩
    case hk => rfl
    case h1 =>
      intro wq_12 kq_12
      have zs_kq_12 := kq_12.size
      replace hR := hR.chg kq_12 (by intro h1; have h2 : _ = _ := h1; exfalso; omega)
      replace hs := hs.chg kq_12 (by intro x h1 h2; exact h2)
      refine WL.call eg_102 rfl rfl (mulR_calls hR z s) ?_
      rintro v w2 ⟨rfl, k2⟩
      have zs_k2 := k2.size
      replace hR := hR.pure k2
      replace hs := hs.pure k2
      refine WL.nil ?_
      exact WX.one ⟨rfl, by assumption⟩
    apply DQ.step (E' := [(14, _), (15, _)])
    case ho => rfl
    case hs => exact ⟨rfl, rfl, trivial⟩
    case hk => rfl
    case h1 =>
      intro wq_13 kq_13
      have zs_kq_13 := kq_13.size
      replace hR := hR.chg kq_13 (by intro h1; have h2 : _ = _ := h1; exfalso; omega)
      replace hs := hs.chg kq_13 (by intro x h1 h2; exact h2)
      refine WL.index (j := i) (sz := 1) Tryz.underlying26 Tryz.sizeOf5 rfl rfl rfl (by omega) rfl ?_
      refine WL.nil ?_
      exact WX.one ⟨rfl, by exact Chg.refl _ _⟩
    refine DQ.done (fun hd_2 => ?_)
    refine DL.step [(16, _)] rfl ⟨rfl, trivial⟩ rfl (fun wq_14 kq_14 => ?_)
    have zs_kq_14 := kq_14.size
    replace hR := hR.pure kq_14
    replace hr := hr.pure kq_14
    replace hs := hs.pure kq_14
    replace hw := hw.pure kq_14
    replace hd_2 := hd_2.pure kq_14
    refine WL.load Tryz.isAgg5 rfl ((hr.rsl.cellsAt hy) 0 _ rfl) rfl ?_
    refine WL.nil ?_
    refine WX.one ⟨hd_2, ?_⟩
    refine DL.step [(17, _), (24, _)] rfl ⟨rfl, rfl, trivial⟩ rfl (fun wq_15 kq_15 => ?_)
    have zs_kq_15 := kq_15.size
    replace hR := hR.pure kq_15
    replace hr := hr.pure kq_15
    replace hs := hs.pure kq_15
    replace hw := hw.pure kq_15
    replace hd_2 := hd_2.pure kq_15
    refine WL.num rfl rfl (n_xor8 _ _ _ _) rfl (?_)
    refine WL.nil ?_
    refine WX.one ⟨hd_2, ?_⟩
    refine DL.step [(26, _), (25, _)] rfl ⟨rfl, rfl, trivial⟩ rfl (fun wq_16 kq_16 => ?_)
    have zs_kq_16 := kq_16.size
    replace hR := hR.pure kq_16
    replace hr := hr.pure kq_16
    replace hs := hs.pure kq_16
    replace hw := hw.pure kq_16
    replace hd_2 := hd_2.pure kq_16
    refine WL.storeRow (z := y ^^^ mul z s) i Tryz.sizeOf5 hr rfl rfl rfl (by show 0 + i * 1 = i; omega) (by omega) rfl ?_
    intro w3 z3 hr3 k3
    have zs_k3 := k3.size
    replace hR := hR.chg k3 (by intro h1; have h2 : _ = _ := h1; exfalso; omega)
    replace hs := hs.chg k3 (by intro x h1 h2; exact h2)
    replace hw := hw.chg k3 (by intro x h1 h2; exact h2)
    replace hd_2 := hd_2.chg k3 (by intro x h1 h2; exact h2)
    refine WL.nil ?_
    refine WX.one0 (v := undef) ⟨hd_2, ?_⟩
    refine DL.done (fun we_17 ke_17 => ?_)
    have zs_ke_17 := ke_17.size
    replace hR := hR.pure ke_17
    replace hs := hs.pure ke_17
    replace hw := hw.pure ke_17
    replace hd_2 := hd_2.pure ke_17
    replace hr3 := hr3.pure ke_17
    refine WX.block_normal (WX.then_normal (WC.region (WL.add64 rfl rfl (by omega) rfl (WL.move rfl rfl (WL.nil (?_))))))
    refine WX.loop_next (i + 1, ys.set i (y ^^^ mul z s)) ⟨rfl, rfl, rfl, rfl, rfl, rfl, trivial⟩ ⟨by show i + 1 ≤ _; omega, ⟨by show (ys.set i _).length = _; rw [List.length_set]; exact hyl, fun j => ?_⟩, hR, hr3, hs, hw⟩ (by show xs.length - (i + 1) < xs.length - i; omega)
    show (ys.set i (y ^^^ mul z s)).getD j 0 = if j < i + 1 then _ else _
    rw [List.getD_eq_getElem?_getD, List.getElem?_set]
    by_cases e : i = j
    ·
      subst e
      have h1 := hyv i
      rw [if_neg (Nat.lt_irrefl i), List.getD_eq_getElem?_getD, hy] at h1
      have h2 : rs.getD i 0 = z := by rw [List.getD_eq_getElem?_getD, hz]; rfl
      rw [if_pos rfl, if_pos (by omega), if_pos (by omega), ← h1, h2]
      rfl
    ·
      rw [if_neg e, ← List.getD_eq_getElem?_getD, hyv j]
      by_cases e2 : j < i
      ·
        rw [if_pos e2, if_pos (by omega)]
      ·
        rw [if_neg e2, if_neg (by omega)]
  ·
    refine WL.nil (WX.then_normal (WC.seq (WC.cond_false rfl (WC.exit (WX.then_exit (WX.then_exit (WX.block_here (?_))))))))
    refine WX.ret0 (.inr rfl) Tryz.results109 ?_
    have hi2 : i = xs.length := by omega
    subst hi2
    refine ⟨_, rfl, rfl, ⟨ys, hyl, fun j => ?_, hr⟩, hw⟩
    rw [hyv j]
    by_cases e : j < xs.length
    ·
      rw [if_pos e]
    ·
      rw [if_neg e]
      have e3 : rs.getD j 0 = 0 := by rw [List.getD_eq_getElem?_getD, List.getElem?_eq_none (by omega)]; rfl
      rw [e3, mul_zero_l, xor_zero']
end Go.Proofs.YtggecdldnpildaaGreat
namespace Go.HL
open Go.RowKit
/-! two places of a list change -/
def sg (a b i : Nat) : Nat := if i = a then b else if i = b then a else i
theorem sg_sg (a b i : Nat) : sg a b (sg a b i) = i := by
  unfold sg
  by_cases e1 : i = a
  · rw [if_pos e1]
    by_cases e2 : b = a
    · rw [if_pos e2]; omega
    · rw [if_neg e2, if_pos rfl]; omega
  · rw [if_neg e1]
    by_cases e2 : i = b
    · rw [if_pos e2, if_pos rfl]; omega
    · rw [if_neg e2, if_neg e1, if_neg e2]
theorem sg_inj {a b i j : Nat} (h : sg a b i = sg a b j) : i = j := by
  rw [← sg_sg a b i, h, sg_sg]
theorem swap_get {α : Type} {l : List α} {a b : Nat} {x y : α} (ha : l[a]? = some x) (hb : l[b]? = some y) (i : Nat) : ((l.set a y).set b x)[i]? = l[sg a b i]? := by
  have hal := (List.getElem?_eq_some_iff.1 ha).1
  have hbl := (List.getElem?_eq_some_iff.1 hb).1
  rw [List.getElem?_set, List.length_set, List.getElem?_set]
  unfold sg
  by_cases e1 : b = i
  · subst e1
    rw [if_pos rfl, if_pos hbl]
    by_cases e2 : b = a
    · subst e2; rw [if_pos rfl]; exact ha.symm
    · rw [if_neg e2, if_pos rfl]; exact ha.symm
  · rw [if_neg e1]
    by_cases e2 : a = i
    · subst e2; rw [if_pos rfl, if_pos hal, if_pos rfl]; exact hb.symm
    · rw [if_neg e2, if_neg (fun e => e2 e.symm), if_neg (fun e => e1 e.symm)]
section
variable {L N n1 : Nat} {w w' : World} {T U : TypeId} {ao : Option Addr} {c : Nat} {gs : List Nat} {rs : List Rw} {M : Nat → Prop}
theorem AR.chgN (h : AR L N n1 w T U ao c gs rs) (k : Chg M w w') (hd : ∀ x, L ≤ x ∨ N ≤ x → M x → False) : AR L N n1 w' T U ao c gs rs :=
  ⟨h.outer.chg k (fun b _ hs hm => hd b (.inr hs.1) hm), fun i g r hg hr => by
    obtain ⟨h1, h2, h3, h4⟩ := h.inner i g r hg hr
    exact ⟨h1, h2.chg k (fun b _ hs hm => hd b (.inl (by have h5 : b = g := hs; have := h.low i g hg; omega)) hm), h3, h4⟩, h.len, h.apart, h.low⟩
theorem AR.up (h : AR L N n1 w T U ao c gs rs) {n2 : Nat} (hn : n1 ≤ n2) : AR L N n2 w T U ao c gs rs :=
  ⟨h.outer.mono (fun b hb => ⟨hb.1, by have := hb.2; omega⟩), fun i g r hg hr => by
    obtain ⟨h1, h2, h3, h4⟩ := h.inner i g r hg hr
    exact ⟨h1, h2, by omega, h4⟩, h.len, h.apart, h.low⟩
theorem AR.swap (h : AR L N n1 w T U ao c gs rs) {a b ga gb : Nat} {ra rb : Rw} (hga : gs[a]? = some ga) (hgb : gs[b]? = some gb) (hra : rs[a]? = some ra) (hrb : rs[b]? = some rb) (k : Chg (Eqb ao) w w')
    (ho : Row (fun x => N ≤ x ∧ x < n1) w' T erow ao c ((rs.set a rb).set b ra)) : AR L N n1 w' T U ao c ((gs.set a gb).set b ga) ((rs.set a rb).set b ra) := by
  refine ⟨ho, fun i g r hg hr => ?_, by simp [h.len], fun i j g h1 h2 => ?_, fun i g h1 => ?_⟩
  · rw [swap_get hga hgb] at hg
    rw [swap_get hra hrb] at hr
    obtain ⟨h1, h2, h3, h4⟩ := h.inner _ g r hg hr
    exact ⟨h1, h2.chg k (fun x _ hx hm => h4 (by have e : x = g := hx; rw [← e]; exact hm)), h3, h4⟩
  · rw [swap_get hga hgb] at h1 h2
    exact sg_inj (h.apart _ _ g h1 h2)
  · rw [swap_get hga hgb] at h1
    exact h.low _ g h1
end
def mx (rs : List Rw) : List (List UInt8) := rs.map (·.xs)
theorem mx_at {rs : List Rw} {i : Nat} {r : Rw} (h : rs[i]? = some r) : (mx rs)[i]? = some r.xs := by simp [mx, h]
theorem mx_len (rs : List Rw) : (mx rs).length = rs.length := by simp [mx]
theorem fn_row {m : List (List UInt8)} {i : Nat} {r : Option (List UInt8)} (h : m[i]? = r) (j : Nat) : fn m i j = (r.getD []).getD j 0 := by
  have e : m.getD i [] = r.getD [] := by rw [List.getD_eq_getElem?_getD, h]
  rw [fn, e]
theorem fn_mx {rs : List Rw} {i : Nat} {r : Rw} (h : rs[i]? = some r) (j : Nat) : fn (mx rs) i j = r.xs.getD j 0 := by
  rw [fn_row (mx_at h)]
  rfl
theorem fn_swap {rs : List Rw} {a b : Nat} {ra rb : Rw} (hra : rs[a]? = some ra) (hrb : rs[b]? = some rb) (i j : Nat) : fn (mx ((rs.set a rb).set b ra)) i j = fn (mx rs) (sg a b i) j := by
  have e : (mx ((rs.set a rb).set b ra))[i]? = (mx rs)[sg a b i]? := by
    rw [mx, mx, List.getElem?_map, List.getElem?_map, swap_get hra hrb]
  rw [fn_row e, fn_row rfl]
theorem fn_setr {rs : List Rw} {k : Nat} (hk : k < rs.length) (q : Rw) (i j : Nat) : fn (mx (rs.set k q)) i j = if i = k then q.xs.getD j 0 else fn (mx rs) i j := by
  have e : mx (rs.set k q) = (mx rs).set k q.xs := by rw [mx, mx, List.map_set]
  rw [e, fn_set (by rw [mx_len]; exact hk)]
end Go.HL
namespace Go.Proofs.YtggecdldnpildaaGreat
open Go.RowKit Go.HL
set_option maxRecDepth 100000

theorem invR_calls {w : World} {g : Nat} (hR : Blk w g 146 FR) (a : UInt8) : Calls Tryz.prog 107 [.pointer (some ⟨g, 0, none⟩), v8 a].toArray w (Ret fun v w' => v = .tuple #[v8 (inv a), vi (if a = 0 then 1 else 0)] ∧ Chg Nob w w') := by
  have hw := Chg.refl Nob w
  have hla := L_lt a
  refine Calls.of_WC Tryz.func107 rfl Tryz.ntmps107 (by simp) ?_
  refine WC.seq (WC.region (WL.assign rfl rfl (WL.assign rfl rfl (WL.nil (WX.then_normal (WC.seq (WC.seq (?_))))))))
  refine WC.region (WL.move rfl rfl (?_))
  refine WL.eql? rfl rfl rfl (fun h7 => ?_) (fun h7 => ?_)
  ·
    refine WL.nil (WX.then_normal (WC.cond_true rfl (WC.seq (WC.region (WL.assign rfl rfl (WL.assign rfl rfl (WL.nil (?_))))))))
    refine WX.then_normal (WC.ret (WX.then_ret (?_)))
    refine WX.ret2 (.inl rfl) Tryz.results107 rfl rfl ?_
    have ha := u8_zero h7
    subst ha
    exact ⟨_, rfl, rfl, hw⟩
  ·
    refine WL.nil (WX.then_normal (WC.cond_false rfl (WC.skip (WX.then_normal (WC.seq (WC.region (WL.move rfl rfl (?_))))))))
    refine WL.call eg_106 rfl rfl (readyR_calls hR) ?_
    rintro v w2 ⟨rfl, k⟩
    have zs_k := k.size
    replace hR := hR.pure k
    replace hw := hw.pure k
    refine WL.assign rfl rfl (WL.nil (WX.then_normal (WC.seq (?_))))
    refine WC.draw (Nob) [0, 1, 2, 3, 4, 5, 6, 7, 8, 9, 10, 11, 12, 13] [] mixed rfl rfl (fun wd_1 kd_1 zd_1 => ?_)
    have zs_kd_1 := kd_1.size
    replace hR := hR.pure kd_1
    replace hw := hw.pure kd_1
    apply DQ.step (E' := [(0, _)])
    case ho => rfl
    case hs => exact ⟨rfl, trivial⟩
    case hk => rfl
    case h1 =>
      intro wq_2 kq_2
      refine WL.move rfl rfl (?_)
      refine WL.nil ?_
      exact WX.one ⟨rfl, by exact Chg.refl _ _⟩
    apply DQ.step (E' := [(0, _)])
    case ho => rfl
    case hs => exact ⟨rfl, trivial⟩
    case hk => rfl
    case h1 =>
      intro wq_3 kq_3
      refine WL.move rfl rfl (?_)
      refine WL.nil ?_
      exact WX.one ⟨rfl, by exact Chg.refl _ _⟩
    apply DQ.step (E' := [(1, _)])
    case ho => rfl
    case hs => exact ⟨rfl, trivial⟩
    case hk => rfl
    case h1 =>
      intro wq_4 kq_4
      refine WL.move rfl rfl (?_)
      refine WL.nil ?_
      exact WX.one ⟨rfl, by exact Chg.refl _ _⟩
    apply DQ.step (E' := [(11, _)])
    case ho => rfl
    case hs => exact ⟨rfl, trivial⟩
    case hk => rfl
    case h1 =>
      intro wq_5 kq_5
      refine WL.nilCheck rfl rfl (?_)
      refine WL.nil ?_
      exact WX.one ⟨rfl, by exact Chg.refl _ _⟩
    apply DQ.step (E' := [(13, _)])
    case ho => rfl
    case hs => exact ⟨rfl, trivial⟩
    case hk => rfl
    case h1 =>
      intro wq_6 kq_6
      refine WL.fieldAddr (fld_146_2) rfl rfl (?_)
      refine WL.nil ?_
      exact WX.one ⟨rfl, by exact Chg.refl _ _⟩
    apply DQ.step (E' := [(14, _), (12, _)])
    case ho => rfl
    case hs => exact ⟨rfl, rfl, trivial⟩
    case hk => rfl
    case h1 =>
      intro wq_7 kq_7
      have zs_kq_7 := kq_7.size
      replace hR := hR.pure kq_7
      replace hw := hw.pure kq_7
      refine WL.indexArrO a.toNat Tryz.underlying144 Tryz.sizeOf3 rfl rfl ⟨rfl, a.toNat_lt⟩ rfl ?_
      refine WL.nil ?_
      exact WX.one ⟨rfl, by exact Chg.refl _ _⟩
    apply DQ.step (E' := [(15, _)])
    case ho => rfl
    case hs => exact ⟨rfl, trivial⟩
    case hk => rfl
    case h1 =>
      intro wq_8 kq_8
      have zs_kq_8 := kq_8.size
      replace hR := hR.pure kq_8
      replace hw := hw.pure kq_8
      refine WL.loadB Tryz.isAgg3 hR rfl (FR_l a) rfl ?_
      refine WL.nil ?_
      exact WX.one ⟨rfl, by exact Chg.refl _ _⟩
    apply DQ.step (E' := [(16, _)])
    case ho => rfl
    case hs => exact ⟨rfl, trivial⟩
    case hk => rfl
    case h1 =>
      intro wq_9 kq_9
      refine WL.sub64 rfl rfl (by omega) rfl (?_)
      refine WL.nil ?_
      exact WX.one ⟨rfl, by exact Chg.refl _ _⟩
    apply DQ.step (E' := [(10, _)])
    case ho => rfl
    case hs => exact ⟨rfl, trivial⟩
    case hk => rfl
    case h1 =>
      intro wq_10 kq_10
      refine WL.nilCheck rfl rfl (?_)
      refine WL.nil ?_
      exact WX.one ⟨rfl, by exact Chg.refl _ _⟩
    apply DQ.step (E' := [(18, _)])
    case ho => rfl
    case hs => exact ⟨rfl, trivial⟩
    case hk => rfl
    case h1 =>
      intro wq_11 kq_11
      refine WL.fieldAddr (fld_146_1) rfl rfl (?_)
      refine WL.nil ?_
      exact WX.one ⟨rfl, by exact Chg.refl _ _⟩
    apply DQ.step (E' := [(19, _), (17, _)])
    case ho => rfl
    case hs => exact ⟨rfl, rfl, trivial⟩
    case hk => rfl
    case h1 =>
      intro wq_12 kq_12
      have zs_kq_12 := kq_12.size
      replace hR := hR.pure kq_12
      replace hw := hw.pure kq_12
      refine WL.indexArrO (255 - L a) Tryz.underlying143 Tryz.sizeOf5 rfl rfl ⟨by omega, by omega⟩ rfl ?_
      refine WL.nil ?_
      exact WX.one ⟨rfl, by exact Chg.refl _ _⟩
    apply DQ.step (E' := [(20, _)])
    case ho => rfl
    case hs => exact ⟨rfl, trivial⟩
    case hk => rfl
    case h1 =>
      intro wq_13 kq_13
      have zs_kq_13 := kq_13.size
      replace hR := hR.pure kq_13
      replace hw := hw.pure kq_13
      refine WL.loadB Tryz.isAgg5 hR rfl (FR_e (by omega)) rfl ?_
      refine WL.nil ?_
      exact WX.one ⟨rfl, by exact Chg.refl _ _⟩
    apply DQ.step (E' := [(21, _)])
    case ho => rfl
    case hs => exact ⟨rfl, trivial⟩
    case hk => rfl
    case h1 =>
      intro wq_14 kq_14
      refine WL.assign rfl rfl (?_)
      refine WL.nil ?_
      exact WX.one ⟨rfl, by exact Chg.refl _ _⟩
    apply DQ.step (E' := [])
    case ho => rfl
    case hs => exact trivial
    case hk => rfl
    case h1 =>
      intro wq_15 kq_15
      refine WL.assign rfl rfl (?_)
      refine WL.nil ?_
      exact WX.one ⟨rfl, by exact Chg.refl _ _⟩
    refine DQ.done (fun _ => ?_)
    refine DL.done (fun we_16 ke_16 => ?_)
    have zs_ke_16 := ke_16.size
    replace hR := hR.pure ke_16
    replace hw := hw.pure ke_16
    refine WX.then_normal (WC.ret (?_))
    refine WX.ret2 (.inl rfl) Tryz.results107 rfl rfl ?_
    refine ⟨_, rfl, ?_, hw⟩
    rw [inv, if_neg (u8_ne h7), if_neg (u8_ne h7)]
/-- what the built rows are -/
structure Blt (rs ms : List Rw) (rgt : List UInt8) (i : Nat) : Prop where
  len : ms.length = i
  row : ∀ (j : Nat) (r q : Rw), rs[j]? = some r → ms[j]? = some q → ∃ y, rgt[j]? = some y ∧ q.xs = r.xs ++ [y] ∧ r.xs.length = rs.length
theorem Blt.snoc {rs ms : List Rw} {rgt : List UInt8} {i : Nat} (h : Blt rs ms rgt i) {r q : Rw} {y : UInt8} (hr : rs[i]? = some r) (hy : rgt[i]? = some y) (hq : q.xs = r.xs ++ [y]) (hl : r.xs.length = rs.length) : Blt rs (ms ++ [q]) rgt (i + 1) := by
  refine ⟨by simp [h.len], fun j r' q' h1 h2 => ?_⟩
  rcases get_snoc h2 with h3 | ⟨h3, h4⟩
  · exact h.row j r' q' h1 h3
  · subst h4
    rw [h3, h.len, hr] at h1
    injection h1 with h1
    subst h1
    exact ⟨y, by rw [h3, h.len]; exact hy, hq, hl⟩
end Go.Proofs.YtggecdldnpildaaGreat
