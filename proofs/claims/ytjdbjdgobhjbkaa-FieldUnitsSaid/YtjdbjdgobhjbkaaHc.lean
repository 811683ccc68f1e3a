import Derived.IntWalk
import Derived.Test.YtjdbjdgobhjbkaaHb
namespace Go.HL
open Go.RowKit

abbrev vi (n : Int) : Value := .int .i64 n
abbrev v8 (b : UInt8) : Value := .int .u8 (b.toNat : Int)
abbrev v32 (b : UInt32) : Value := .int .u32 (b.toNat : Int)
abbrev v64 (b : UInt64) : Value := .int .u64 (b.toNat : Int)
abbrev vs (s : ByteArray) : Value := .string s
abbrev vb (b : Bool) : Value := .bool b

section
variable {P : Program} {ops : Array Oper} {Q : Exit → Act → World → Prop} {N : Nat} {E : Env} {w : World} {rest : List Oper}
  {d : Nat} {ty : TypeId} {pos : String} {af : Array Edge}

theorem WL.move {x : Operand} {v : Value} (hx : ev E x = some v) (hd : Nat.blt d N = true) (h : WL P ops Q N rest ((d, v) :: E) w) : WL P ops Q N (⟨some d, .move x, ty, pos, af, none⟩ :: rest) E w :=
  WL.run v w (fun a ha => by simp [execOp, ev_eval ha hx]) hd h
theorem WL.assign {x : Operand} {v : Value} (hx : ev E x = some v) (hd : Nat.blt d N = true) (h : WL P ops Q N rest ((d, v) :: E) w) : WL P ops Q N (⟨some d, .assign x, ty, pos, af, none⟩ :: rest) E w :=
  WL.run v w (fun a ha => by simp [execOp, ev_eval ha hx]) hd h
theorem WL.pick {c x y : Operand} {b : Bool} {v u : Value} (hc : ev E c = some (.bool b)) (hx : ev E x = some v) (hy : ev E y = some u) (hd : Nat.blt d N = true) (h : WL P ops Q N rest ((d, if b then v else u) :: E) w) :
    WL P ops Q N (⟨some d, .pick c x y, ty, pos, af, none⟩ :: rest) E w :=
  WL.run _ w (fun a ha => by simp [execOp, ev_eval ha hc, ev_eval ha hx, ev_eval ha hy, asBool]) hd h
theorem WL.pickT {c x y : Operand} {v : Value} (hc : ev E c = some (.bool true)) (hx : ev E x = some v) (hd : Nat.blt d N = true) (h : WL P ops Q N rest ((d, v) :: E) w) :
    WL P ops Q N (⟨some d, .pick c x y, ty, pos, af, none⟩ :: rest) E w :=
  WL.run _ w (fun a ha => by simp [execOp, ev_eval ha hc, ev_eval ha hx, asBool]) hd h
theorem WL.pickF {c x y : Operand} {v : Value} (hc : ev E c = some (.bool false)) (hy : ev E y = some v) (hd : Nat.blt d N = true) (h : WL P ops Q N rest ((d, v) :: E) w) :
    WL P ops Q N (⟨some d, .pick c x y, ty, pos, af, none⟩ :: rest) E w :=
  WL.run _ w (fun a ha => by simp [execOp, ev_eval ha hc, ev_eval ha hy, asBool]) hd h
theorem WL.not {t : TypeId} {x : Operand} {b : Bool} (hx : ev E x = some (.bool b)) (hd : Nat.blt d N = true) (h : WL P ops Q N rest ((d, .bool (!b)) :: E) w) :
    WL P ops Q N (⟨some d, .unOp .not t x, ty, pos, af, none⟩ :: rest) E w :=
  WL.run _ w (fun a ha => by simp [execOp, ev_eval ha hx, Op.unary]) hd h

/-! comparisons -/
section cmp
variable {t tb : TypeId} {x y : Operand} {k : IntKind} {m n : Int}
theorem WL.lss (hx : ev E x = some (.int k m)) (hy : ev E y = some (.int k n)) (hd : Nat.blt d N = true) (h : WL P ops Q N rest ((d, .bool (decide (m < n))) :: E) w) : WL P ops Q N (⟨some d, .binOp .lss t x y tb, ty, pos, af, none⟩ :: rest) E w :=
  WL.run _ w (fun a ha => by simp [execOp, ev_eval ha hx, ev_eval ha hy, eqGuard, binOp, Op.intCmp]) hd h
theorem WL.leq (hx : ev E x = some (.int k m)) (hy : ev E y = some (.int k n)) (hd : Nat.blt d N = true) (h : WL P ops Q N rest ((d, .bool (decide (m ≤ n))) :: E) w) : WL P ops Q N (⟨some d, .binOp .leq t x y tb, ty, pos, af, none⟩ :: rest) E w :=
  WL.run _ w (fun a ha => by simp [execOp, ev_eval ha hx, ev_eval ha hy, eqGuard, binOp, Op.intCmp]) hd h
theorem WL.gtr (hx : ev E x = some (.int k m)) (hy : ev E y = some (.int k n)) (hd : Nat.blt d N = true) (h : WL P ops Q N rest ((d, .bool (decide (n < m))) :: E) w) : WL P ops Q N (⟨some d, .binOp .gtr t x y tb, ty, pos, af, none⟩ :: rest) E w :=
  WL.run _ w (fun a ha => by simp [execOp, ev_eval ha hx, ev_eval ha hy, eqGuard, binOp, Op.intCmp]) hd h
theorem WL.geq (hx : ev E x = some (.int k m)) (hy : ev E y = some (.int k n)) (hd : Nat.blt d N = true) (h : WL P ops Q N rest ((d, .bool (decide (n ≤ m))) :: E) w) : WL P ops Q N (⟨some d, .binOp .geq t x y tb, ty, pos, af, none⟩ :: rest) E w :=
  WL.run _ w (fun a ha => by simp [execOp, ev_eval ha hx, ev_eval ha hy, eqGuard, binOp, Op.intCmp]) hd h
theorem WL.eql (hx : ev E x = some (.int k m)) (hy : ev E y = some (.int k n)) (hd : Nat.blt d N = true) (h : WL P ops Q N rest ((d, .bool (decide (m = n))) :: E) w) : WL P ops Q N (⟨some d, .binOp .eql t x y tb, ty, pos, af, none⟩ :: rest) E w :=
  WL.run _ w (fun a ha => by simp [execOp, ev_eval ha hx, ev_eval ha hy, eqGuard, binOp, Op.intCmp]; rfl) hd h
theorem WL.neq (hx : ev E x = some (.int k m)) (hy : ev E y = some (.int k n)) (hd : Nat.blt d N = true) (h : WL P ops Q N rest ((d, .bool (decide (m ≠ n))) :: E) w) : WL P ops Q N (⟨some d, .binOp .neq t x y tb, ty, pos, af, none⟩ :: rest) E w :=
  WL.run _ w (fun a ha => by simp [execOp, ev_eval ha hx, ev_eval ha hy, eqGuard, binOp, Op.intCmp, bne]; rfl) hd h
theorem WL.lss? (hx : ev E x = some (.int k m)) (hy : ev E y = some (.int k n)) (hd : Nat.blt d N = true) (ht : m < n → WL P ops Q N rest ((d, .bool true) :: E) w) (hf : n ≤ m → WL P ops Q N rest ((d, .bool false) :: E) w) : WL P ops Q N (⟨some d, .binOp .lss t x y tb, ty, pos, af, none⟩ :: rest) E w :=
  WL.lss hx hy hd (by by_cases h : m < n; · simpa [h] using ht h
                      · simpa [h] using hf (by omega))
theorem WL.leq? (hx : ev E x = some (.int k m)) (hy : ev E y = some (.int k n)) (hd : Nat.blt d N = true) (ht : m ≤ n → WL P ops Q N rest ((d, .bool true) :: E) w) (hf : n < m → WL P ops Q N rest ((d, .bool false) :: E) w) : WL P ops Q N (⟨some d, .binOp .leq t x y tb, ty, pos, af, none⟩ :: rest) E w :=
  WL.leq hx hy hd (by by_cases h : m ≤ n; · simpa [h] using ht h
                      · simpa [h] using hf (by omega))
theorem WL.gtr? (hx : ev E x = some (.int k m)) (hy : ev E y = some (.int k n)) (hd : Nat.blt d N = true) (ht : n < m → WL P ops Q N rest ((d, .bool true) :: E) w) (hf : m ≤ n → WL P ops Q N rest ((d, .bool false) :: E) w) : WL P ops Q N (⟨some d, .binOp .gtr t x y tb, ty, pos, af, none⟩ :: rest) E w :=
  WL.gtr hx hy hd (by by_cases h : n < m; · simpa [h] using ht h
                      · simpa [h] using hf (by omega))
theorem WL.geq? (hx : ev E x = some (.int k m)) (hy : ev E y = some (.int k n)) (hd : Nat.blt d N = true) (ht : n ≤ m → WL P ops Q N rest ((d, .bool true) :: E) w) (hf : m < n → WL P ops Q N rest ((d, .bool false) :: E) w) : WL P ops Q N (⟨some d, .binOp .geq t x y tb, ty, pos, af, none⟩ :: rest) E w :=
  WL.geq hx hy hd (by by_cases h : n ≤ m; · simpa [h] using ht h
                      · simpa [h] using hf (by omega))
theorem WL.eql? (hx : ev E x = some (.int k m)) (hy : ev E y = some (.int k n)) (hd : Nat.blt d N = true) (ht : m = n → WL P ops Q N rest ((d, .bool true) :: E) w) (hf : m ≠ n → WL P ops Q N rest ((d, .bool false) :: E) w) : WL P ops Q N (⟨some d, .binOp .eql t x y tb, ty, pos, af, none⟩ :: rest) E w :=
  WL.eql hx hy hd (by by_cases h : m = n; · simpa [h] using ht h
                      · simpa [h] using hf h)
theorem WL.neq? (hx : ev E x = some (.int k m)) (hy : ev E y = some (.int k n)) (hd : Nat.blt d N = true) (ht : m ≠ n → WL P ops Q N rest ((d, .bool true) :: E) w) (hf : m = n → WL P ops Q N rest ((d, .bool false) :: E) w) : WL P ops Q N (⟨some d, .binOp .neq t x y tb, ty, pos, af, none⟩ :: rest) E w :=
  WL.neq hx hy hd (by by_cases h : m = n; · simpa [h] using hf h
                      · simpa [h] using ht h)
end cmp

/-! strings -/
section str
variable {t tb : TypeId} {x y : Operand} {s u : ByteArray}
theorem beq_bytes (s u : ByteArray) : (s.toList == u.toList) = decide (s = u) := by
  by_cases h : s = u
  · subst h; simp
  · have : ¬ s.toList = u.toList := by
      intro e
      apply h
      have h1 : s.data.toList = u.data.toList := by rw [ByteArray.toList_eq, ByteArray.toList_eq] at e; exact e
      exact ByteArray.ext (Array.ext' h1)
    simp [h, this]
theorem WL.seql (hx : ev E x = some (.string s)) (hy : ev E y = some (.string u)) (hd : Nat.blt d N = true) (h : WL P ops Q N rest ((d, .bool (decide (s = u))) :: E) w) : WL P ops Q N (⟨some d, .binOp .eql t x y tb, ty, pos, af, none⟩ :: rest) E w :=
  WL.run _ w (fun a ha => by simp only [execOp, ev_eval ha hx, ev_eval ha hy, eqGuard, binOp, Op.stringOp, beq_bytes]; simp) hd h
theorem WL.sneq (hx : ev E x = some (.string s)) (hy : ev E y = some (.string u)) (hd : Nat.blt d N = true) (h : WL P ops Q N rest ((d, .bool (decide (s ≠ u))) :: E) w) : WL P ops Q N (⟨some d, .binOp .neq t x y tb, ty, pos, af, none⟩ :: rest) E w :=
  WL.run _ w (fun a ha => by simp only [execOp, ev_eval ha hx, ev_eval ha hy, eqGuard, binOp, Op.stringOp, beq_bytes]; simp) hd h
theorem WL.seql? (hx : ev E x = some (.string s)) (hy : ev E y = some (.string u)) (hd : Nat.blt d N = true) (ht : s = u → WL P ops Q N rest ((d, .bool true) :: E) w) (hf : s ≠ u → WL P ops Q N rest ((d, .bool false) :: E) w) : WL P ops Q N (⟨some d, .binOp .eql t x y tb, ty, pos, af, none⟩ :: rest) E w :=
  WL.seql hx hy hd (by by_cases h : s = u; · simpa [h] using ht h
                       · simpa [h] using hf h)
theorem WL.sneq? (hx : ev E x = some (.string s)) (hy : ev E y = some (.string u)) (hd : Nat.blt d N = true) (ht : s ≠ u → WL P ops Q N rest ((d, .bool true) :: E) w) (hf : s = u → WL P ops Q N rest ((d, .bool false) :: E) w) : WL P ops Q N (⟨some d, .binOp .neq t x y tb, ty, pos, af, none⟩ :: rest) E w :=
  WL.sneq hx hy hd (by by_cases h : s = u; · simpa [h] using hf h
                       · simpa [h] using ht h)
theorem WL.sadd (hx : ev E x = some (.string s)) (hy : ev E y = some (.string u)) (hb : s.size + u.size ≤ 9223372036854775807) (hd : Nat.blt d N = true) (h : WL P ops Q N rest ((d, .string (s ++ u)) :: E) w) : WL P ops Q N (⟨some d, .binOp .add t x y tb, ty, pos, af, none⟩ :: rest) E w :=
  WL.run _ w (fun a ha => by
    have : ¬ (((s.size + u.size : Nat) : Int) > IntKind.i64.max) := by simp [IntKind.max, IntKind.signed, IntKind.bits]; omega
    simp only [execOp, ev_eval ha hx, ev_eval ha hy, eqGuard, binOp, Op.stringOp, if_neg this]; simp) hd h
end str

/-! whole numbers -/
section num
variable {t tb : TypeId} {x y : Operand} {m n : Int}
theorem wrap_i64 {n : Int} (h : -9223372036854775808 ≤ n ∧ n ≤ 9223372036854775807) : IntKind.i64.wrap n = n := by
  simp only [IntKind.wrap, IntKind.bits, IntKind.signed]
  simp
  omega
theorem WL.add64 (hx : ev E x = some (vi m)) (hy : ev E y = some (vi n)) (hb : -9223372036854775808 ≤ m + n ∧ m + n ≤ 9223372036854775807) (hd : Nat.blt d N = true) (h : WL P ops Q N rest ((d, vi (m + n)) :: E) w) : WL P ops Q N (⟨some d, .binOp .add t x y tb, ty, pos, af, none⟩ :: rest) E w :=
  WL.run _ w (fun a ha => by simp [execOp, ev_eval ha hx, ev_eval ha hy, eqGuard, binOp, Op.intArith, wrap_i64 hb]) hd h
theorem WL.sub64 (hx : ev E x = some (vi m)) (hy : ev E y = some (vi n)) (hb : -9223372036854775808 ≤ m - n ∧ m - n ≤ 9223372036854775807) (hd : Nat.blt d N = true) (h : WL P ops Q N rest ((d, vi (m - n)) :: E) w) : WL P ops Q N (⟨some d, .binOp .sub t x y tb, ty, pos, af, none⟩ :: rest) E w :=
  WL.run _ w (fun a ha => by simp [execOp, ev_eval ha hx, ev_eval ha hy, eqGuard, binOp, Op.intArith, wrap_i64 hb]) hd h
theorem WL.mul64 (hx : ev E x = some (vi m)) (hy : ev E y = some (vi n)) (hb : -9223372036854775808 ≤ m * n ∧ m * n ≤ 9223372036854775807) (hd : Nat.blt d N = true) (h : WL P ops Q N rest ((d, vi (m * n)) :: E) w) : WL P ops Q N (⟨some d, .binOp .mul t x y tb, ty, pos, af, none⟩ :: rest) E w :=
  WL.run _ w (fun a ha => by simp [execOp, ev_eval ha hx, ev_eval ha hy, eqGuard, binOp, Op.intArith, wrap_i64 hb]) hd h
/-- any kind, with the wrap -/
theorem WL.addk {k : IntKind} (hx : ev E x = some (.int k m)) (hy : ev E y = some (.int k n)) (hd : Nat.blt d N = true) (h : WL P ops Q N rest ((d, .int k (k.wrap (m + n))) :: E) w) : WL P ops Q N (⟨some d, .binOp .add t x y tb, ty, pos, af, none⟩ :: rest) E w :=
  WL.run _ w (fun a ha => by simp [execOp, ev_eval ha hx, ev_eval ha hy, eqGuard, binOp, Op.intArith]) hd h
theorem WL.subk {k : IntKind} (hx : ev E x = some (.int k m)) (hy : ev E y = some (.int k n)) (hd : Nat.blt d N = true) (h : WL P ops Q N rest ((d, .int k (k.wrap (m - n))) :: E) w) : WL P ops Q N (⟨some d, .binOp .sub t x y tb, ty, pos, af, none⟩ :: rest) E w :=
  WL.run _ w (fun a ha => by simp [execOp, ev_eval ha hx, ev_eval ha hy, eqGuard, binOp, Op.intArith]) hd h
theorem WL.mulk {k : IntKind} (hx : ev E x = some (.int k m)) (hy : ev E y = some (.int k n)) (hd : Nat.blt d N = true) (h : WL P ops Q N rest ((d, .int k (k.wrap (m * n))) :: E) w) : WL P ops Q N (⟨some d, .binOp .mul t x y tb, ty, pos, af, none⟩ :: rest) E w :=
  WL.run _ w (fun a ha => by simp [execOp, ev_eval ha hx, ev_eval ha hy, eqGuard, binOp, Op.intArith]) hd h
theorem WL.remk {k : IntKind} (hx : ev E x = some (.int k m)) (hy : ev E y = some (.int k n)) (hn : n ≠ 0) (hd : Nat.blt d N = true) (h : WL P ops Q N rest ((d, .int k (m.tmod n)) :: E) w) : WL P ops Q N (⟨some d, .binOp .rem t x y tb, ty, pos, af, none⟩ :: rest) E w :=
  WL.run _ w (fun a ha => by simp [execOp, ev_eval ha hx, ev_eval ha hy, eqGuard, binOp, Op.intDiv, hn]) hd h
theorem WL.quok {k : IntKind} (hx : ev E x = some (.int k m)) (hy : ev E y = some (.int k n)) (hn : n ≠ 0) (hd : Nat.blt d N = true) (h : WL P ops Q N rest ((d, .int k (k.wrap (m.tdiv n))) :: E) w) : WL P ops Q N (⟨some d, .binOp .quo t x y tb, ty, pos, af, none⟩ :: rest) E w :=
  WL.run _ w (fun a ha => by simp [execOp, ev_eval ha hx, ev_eval ha hy, eqGuard, binOp, Op.intDiv, hn]) hd h
/-- any operation of whole numbers whose answer is known -/
theorem WL.num {op : BinOp} {k j : IntKind} {r : Value} (hx : ev E x = some (.int k m)) (hy : ev E y = some (.int j n)) (hr : (binOp op t (.int k m) (.int j n)).run P w = .ok r w) (hd : Nat.blt d N = true) (h : WL P ops Q N rest ((d, r) :: E) w) : WL P ops Q N (⟨some d, .binOp op t x y tb, ty, pos, af, none⟩ :: rest) E w :=
  WL.run r w (fun a ha => by
    have hg : (eqGuard op t x y (.int k m) (.int j n)).run P w = .ok () w := by unfold eqGuard; split <;> simp
    simp only [execOp, ev_eval ha hx, ev_eval ha hy]
    simp [hg, hr]) hd h
/-- a conversion of a whole number -/
theorem WL.conv {src dst : TypeId} {k j : IntKind} (hk : P.underlying src = some (.int j)) (ht : P.underlying dst = some (.int k)) (hx : ev E x = some (.int j n)) (hd : Nat.blt d N = true) (h : WL P ops Q N rest ((d, .int k (k.wrap n)) :: E) w) : WL P ops Q N (⟨some d, .convert src dst x, ty, pos, af, none⟩ :: rest) E w :=
  WL.run _ w (fun a ha => by simp [execOp, ev_eval ha hx, convert, run_underlying hk, run_underlying ht, Conv.intToInt]) hd h
end num

/-! calls -/
def Ret (φ : Value → World → Prop) (e : Ending) (w : World) : Prop := ∃ v, e = .returned v ∧ φ v w
def evs (E : Env) : List Operand → Option (List Value)
  | [] => some []
  | x :: r => (ev E x).bind fun v => (evs E r).map (v :: ·)
theorem evs_eval {a : Act} (ha : Holds N E a) : ∀ {xs : List Operand} {vs : List Value}, evs E xs = some vs → xs.map a.eval = vs
  | [], vs, h => by simp [evs] at h; simp [h]
  | x :: r, vs, h => by
    simp only [evs, Option.bind_eq_some_iff, Option.map_eq_some_iff] at h
    obtain ⟨v, hv, us, hu, rfl⟩ := h
    simp [ev_eval ha hv, evs_eval ha hu]
theorem WL.enter {c : Call} {f : FuncId} {args : Array Value} {φ : Value → World → Prop}
    (hrun : ∀ a, Holds N E a → (execOp a.eval ⟨some d, .call c, ty, pos, af, none⟩).run P w = .ok (.enter f args) w)
    (hd : Nat.blt d N = true) (hc : Calls P f args w (Ret φ)) (h : ∀ v w', φ v w' → WL P ops Q N rest ((d, v) :: E) w') : WL P ops Q N (⟨some d, .call c, ty, pos, af, none⟩ :: rest) E w := fun a ha => by
  refine wpList_plain rfl fun K hK => ?_
  unfold Oper.wp
  rw [hrun a ha, Oper.upon_enter]
  refine hc.mono fun e w' ⟨v, he, hφ⟩ => ?_
  subst he
  exact hK _ _ (h v w' hφ _ (ha.put hd v))
theorem WL.call {f : FuncId} {xs : List Operand} {vs : List Value} {ats : Array TypeId} {φ : Value → World → Prop} (eg : ∀ (args : Array Value) (w : World), (callFunc f args).run P w = .ok (.enter f args) w)
    (hx : evs E xs = some vs) (hd : Nat.blt d N = true) (hc : Calls P f vs.toArray w (Ret φ)) (h : ∀ v w', φ v w' → WL P ops Q N rest ((d, v) :: E) w') :
    WL P ops Q N (⟨some d, .call ⟨.value (.func f), xs.toArray, ats⟩, ty, pos, af, none⟩ :: rest) E w :=
  WL.enter (fun a ha => by
    simp only [execOp, resolve, Act.eval, Deferred.ofValue, List.map_toArray, evs_eval ha hx]
    simp [invoke, eg]) hd hc h
/-- through a function value -/
theorem WL.callv {f : FuncId} {g : Operand} {fst cap : Array Value} {xs : List Operand} {vs : List Value} {ats : Array TypeId} {φ : Value → World → Prop} (eg : ∀ (args : Array Value) (w : World), (callFunc f args).run P w = .ok (.enter f args) w)
    (hg : ev E g = some (.func (.func f) fst cap)) (hx : evs E xs = some vs) (hd : Nat.blt d N = true) (hc : Calls P f (fst ++ vs.toArray ++ cap) w (Ret φ)) (h : ∀ v w', φ v w' → WL P ops Q N rest ((d, v) :: E) w') :
    WL P ops Q N (⟨some d, .call ⟨.value g, xs.toArray, ats⟩, ty, pos, af, none⟩ :: rest) E w :=
  WL.enter (fun a ha => by
    simp only [execOp, resolve, ev_eval ha hg, Deferred.ofValue, List.map_toArray, evs_eval ha hx]
    simp [invoke, eg]) hd hc h
theorem WL.extract {x : Operand} {vs : Array Value} {i : Nat} {v : Value} (hx : ev E x = some (.tuple vs)) (hv : vs[i]? = some v) (hd : Nat.blt d N = true) (h : WL P ops Q N rest ((d, v) :: E) w) : WL P ops Q N (⟨some d, .extract x i, ty, pos, af, none⟩ :: rest) E w :=
  WL.run v w (fun a ha => by simp [execOp, ev_eval ha hx, Instr.extract, hv]) hd h

/-! lengths -/
theorem WL.len {x : Operand} {t e : TypeId} {ao : Option Addr} {n c : Nat} (ht : P.underlying t = some (.slice e)) (hx : ev E x = some (.slice ao n c)) (hd : Nat.blt d N = true) (h : WL P ops Q N rest ((d, vi n) :: E) w) :
    WL P ops Q N (⟨some d, .call ⟨.builtin .len, #[x], #[t]⟩, ty, pos, af, none⟩ :: rest) E w :=
  WL.run _ w (fun a ha => by simp [execOp, resolve, invoke, builtin, ev_eval ha hx, Builtin.len_, run_underlying ht, goInt]) hd h
theorem WL.cap {x : Operand} {t e : TypeId} {ao : Option Addr} {n c : Nat} (ht : P.underlying t = some (.slice e)) (hx : ev E x = some (.slice ao n c)) (hd : Nat.blt d N = true) (h : WL P ops Q N rest ((d, vi c) :: E) w) :
    WL P ops Q N (⟨some d, .call ⟨.builtin .cap, #[x], #[t]⟩, ty, pos, af, none⟩ :: rest) E w :=
  WL.run _ w (fun a ha => by simp [execOp, resolve, invoke, builtin, ev_eval ha hx, Builtin.cap_, run_underlying ht, goInt]) hd h
theorem WL.lens {x : Operand} {t : TypeId} {s : ByteArray} (ht : P.underlying t = some .string) (hx : ev E x = some (.string s)) (hd : Nat.blt d N = true) (h : WL P ops Q N rest ((d, vi s.size) :: E) w) :
    WL P ops Q N (⟨some d, .call ⟨.builtin .len, #[x], #[t]⟩, ty, pos, af, none⟩ :: rest) E w :=
  WL.run _ w (fun a ha => by simp [execOp, resolve, invoke, builtin, ev_eval ha hx, Builtin.len_, run_underlying ht, goInt]) hd h

/-! memory -/
theorem WL.alloc {t : TypeId} {z : Value} (hz : ∀ w, (zeroValue t).run P w = .ok z w) (hd : Nat.blt d N = true) (h : ∀ g w', w.heap.size ≤ g → g < w'.heap.size → Blk w' g t z.cells.toList → Chg Nob w w' → WL P ops Q N rest ((d, .pointer (some ⟨g, 0, none⟩)) :: E) w') :
    WL P ops Q N (⟨some d, .alloc t, ty, pos, af, none⟩ :: rest) E w :=
  WL.run _ (w.alloc (.cells z.cells t)) (fun a ha => by simp [execOp, Instr.alloc, hz, newVar, newRow]) hd
    (h _ _ (Nat.le_refl _) (by simp) (by simpa using Blk.new w t z.cells.toList) (Chg.alloc _ _))
theorem WL.box {t : TypeId} {x : Operand} {v : Value} (hx : ev E x = some v) (hd : Nat.blt d N = true) (h : ∀ g w', w.heap.size ≤ g → g < w'.heap.size → Blk w' g t v.cells.toList → Chg Nob w w' → WL P ops Q N rest ((d, .pointer (some ⟨g, 0, none⟩)) :: E) w') :
    WL P ops Q N (⟨some d, .box t x, ty, pos, af, none⟩ :: rest) E w :=
  WL.run _ (w.alloc (.cells v.cells t)) (fun a ha => by simp [execOp, Instr.box, ev_eval ha hx, newVar, newRow]) hd
    (h _ _ (Nat.le_refl _) (by simp) (by simpa using Blk.new w t v.cells.toList) (Chg.alloc _ _))
theorem WL.fieldAddr {s : TypeId} {x : Operand} {f : Nat} {b o o' : Nat} (hf : ∀ (b o : Nat) (w : World), (Instr.fieldAt s (.pointer (some ⟨b, o, none⟩)) f).run P w = .ok (.pointer (some ⟨b, o + o', none⟩)) w)
    (hx : ev E x = some (.pointer (some ⟨b, o, none⟩))) (hd : Nat.blt d N = true) (h : WL P ops Q N rest ((d, .pointer (some ⟨b, o + o', none⟩)) :: E) w) :
    WL P ops Q N (⟨some d, .fieldAddr s x f, ty, pos, af, none⟩ :: rest) E w :=
  WL.run _ w (fun a ha => by simp [execOp, ev_eval ha hx, hf]) hd h
theorem WL.load {t : TypeId} {x : Operand} {ad : Addr} {v : Value} (ha : ∀ w, (isAgg t).run P w = .ok false w) (hx : ev E x = some (.pointer (some ad))) (hc : w.cell? ad = some v) (hd : Nat.blt d N = true) (h : WL P ops Q N rest ((d, v) :: E) w) :
    WL P ops Q N (⟨some d, .load t x, ty, pos, af, none⟩ :: rest) E w :=
  WL.run _ w (fun a hh => by simp [execOp, ev_eval hh hx, Instr.loadAt, Instr.sureAddr, loadVar, ha, Go.load, Sem.run, hc]) hd h
theorem WL.loadB {t e : TypeId} {x : Operand} {b o : Nat} {cs : List Value} {v : Value} (ha : ∀ w, (isAgg t).run P w = .ok false w) (hb : Blk w b e cs) (hx : ev E x = some (.pointer (some ⟨b, o, none⟩))) (hc : cs[o]? = some v) (hd : Nat.blt d N = true) (h : WL P ops Q N rest ((d, v) :: E) w) :
    WL P ops Q N (⟨some d, .load t x, ty, pos, af, none⟩ :: rest) E w := WL.load ha hx (hb.cell hc) hd h
theorem WL.loads {t : TypeId} {x : Operand} {b o k : Nat} (cs : List Value) (ha : ∀ w, (isAgg t).run P w = .ok true w) (hs : ∀ w, (sizeOf t).run P w = .ok k w) (hx : ev E x = some (.pointer (some ⟨b, o, none⟩))) (hc : ∀ j v, cs[j]? = some v → w.cell? ⟨b, o + j, none⟩ = some v) (hk : cs.length = k) (hd : Nat.blt d N = true) (h : WL P ops Q N rest ((d, .agg cs.toArray) :: E) w) :
    WL P ops Q N (⟨some d, .load t x, ty, pos, af, none⟩ :: rest) E w :=
  WL.run _ w (fun a hh => by
    have hl := run_loadCells_list (P := P) w ⟨b, o, none⟩ cs (fun j v hj => by rw [Addr.add_lit]; exact hc j v hj)
    rw [hk] at hl
    simp [execOp, ev_eval hh hx, Instr.loadAt, Instr.sureAddr, loadVar, ha, hs, hl]) hd h
/-- a cell of a block that is known whole is written -/
theorem WL.store {t e : TypeId} {x y : Operand} {b o : Nat} {v : Value} {cs : List Value} (hs : ∀ w, (sizeOf t).run P w = .ok 1 w) (hb : Blk w b e cs) (hx : ev E x = some (.pointer (some ⟨b, o, none⟩))) (hy : ev E y = some v) (h1 : v.oneCell' = true) (ho : (cs[o]?).isSome = true)
    (h : ∀ w', w'.heap.size = w.heap.size → Blk w' b e (cs.set o v) → Chg (· = b) w w' → WL P ops Q N rest E w') :
    WL P ops Q N (⟨none, .store t x y, ty, pos, af, none⟩ :: rest) E w :=
  WL.run0 (w.setCell ⟨b, o, none⟩ v) (fun a hh => by
    obtain ⟨u, hu⟩ := Option.isSome_iff_exists.1 ho
    have hst : (Go.store ⟨b, o, none⟩ v).run P w = .ok () (w.setCell ⟨b, o, none⟩ v) := by
      rw [run_store P w _ v _ h1]
      simp [hb.cell hu, hb.free]
    have hc1 : v.cells = #[v] := by cases v <;> simp_all [Value.oneCell', Value.cells]
    simp [execOp, ev_eval hh hx, ev_eval hh hy, Instr.storeAt, Instr.sureAddr, storeVar, hs, hc1, storeCells, Addr.add_lit, hst]) (h _ (by simp) (hb.set o v) (Chg.setCell w ⟨b, o, none⟩ v))
theorem setCells_blk {w : World} {b : Nat} {e : TypeId} {cs : List Value} (hb : Blk w b e cs) (o : Nat) (vs : List Value) (h : o + vs.length ≤ cs.length) : Blk (w.setCells b o vs) b e (cs.take o ++ vs ++ cs.drop (o + vs.length)) := by
  have := setCells_same b e (0, 0) vs o w cs.toArray hb (by simpa using h)
  simpa [Blk] using this
theorem WL.stores {t e : TypeId} {x y : Operand} {b o k : Nat} {vs : List Value} {cs cs' : List Value} (hs : ∀ w, (sizeOf t).run P w = .ok k w) (hb : Blk w b e cs) (hx : ev E x = some (.pointer (some ⟨b, o, none⟩))) (hy : ev E y = some (.agg vs.toArray)) (hk : vs.length = k) (h1 : ∀ u ∈ vs, u.oneCell' = true)
    (ho : o + vs.length ≤ cs.length) (he : cs.take o ++ vs ++ cs.drop (o + vs.length) = cs')
    (h : ∀ w', w'.heap.size = w.heap.size → Blk w' b e cs' → Chg (· = b) w w' → WL P ops Q N rest E w') :
    WL P ops Q N (⟨none, .store t x y, ty, pos, af, none⟩ :: rest) E w :=
  WL.run0 (w.setCells b o vs) (fun a hh => by
    have hst := run_storeCells_cells (P := P) b o vs 0 w (fun j hj => by
      rw [Nat.add_zero, hb.cell (j := o + j) (v := cs[o + j]'(by omega)) (List.getElem?_eq_getElem _)]; rfl) (fun j _ => hb.free _) h1
    simp only [Nat.add_zero] at hst
    simp [execOp, ev_eval hh hx, ev_eval hh hy, Instr.storeAt, Instr.sureAddr, storeVar, hs, Value.cells, hk, hst]) (by
      refine h _ ?_ (he ▸ setCells_blk hb o vs ho) (setCells_chg b vs o w)
      have := (setCells_chg b vs o w)
      clear h hb ho he hy h1 hk this hx hs
      induction vs generalizing o w with
      | nil => rfl
      | cons v r ih => rw [World.setCells, ih]; simp)
/-- the place of an element -/
theorem WL.index {t e : TypeId} {x y : Operand} {b off n c sz : Nat} {k : IntKind} {i : Int} {j : Nat} (ht : P.underlying t = some (.slice e)) (hs : ∀ w, (sizeOf e).run P w = .ok sz w) (hx : ev E x = some (.slice (some ⟨b, off, none⟩) n c)) (hy : ev E y = some (.int k i)) (hi : i = (j : Int)) (hj : j < n) (hd : Nat.blt d N = true)
    (h : WL P ops Q N rest ((d, .pointer (some ⟨b, off + j * sz, none⟩)) :: E) w) : WL P ops Q N (⟨some d, .indexAddr t x y, ty, pos, af, none⟩ :: rest) E w :=
  WL.run _ w (fun a ha => by
    subst hi
    simp [execOp, ev_eval ha hx, ev_eval ha hy, Instr.indexAt, asIntOf, run_underlying ht, hs, hj, Addr.add_lit]) hd h
/-- the place of an element of a slice that is read: what it holds -/
theorem WL.indexSl {t e : TypeId} {x y : Operand} {ao : Option Addr} {n c sz : Nat} {k : IntKind} {i : Int} {cs : List Value} (ht : P.underlying t = some (.slice e)) (hs : ∀ w, (sizeOf e).run P w = .ok sz w) (hsz : 0 < sz) (hsl : Sl w ao n sz cs) (hx : ev E x = some (.slice ao n c)) (hy : ev E y = some (.int k i)) (j : Nat) (hi : i = (j : Int)) (hj : j < n) (hd : Nat.blt d N = true)
    (h : ∀ b o, ao.map (·.block) = some b → (∀ q v, q < sz → cs[j * sz + q]? = some v → w.cell? ⟨b, o + q, none⟩ = some v) → WL P ops Q N rest ((d, .pointer (some ⟨b, o, none⟩)) :: E) w) : WL P ops Q N (⟨some d, .indexAddr t x y, ty, pos, af, none⟩ :: rest) E w := by
  have hlt : j * sz < cs.length := by
    rw [hsl.1]
    exact (Nat.mul_lt_mul_right hsz).2 hj
  obtain ⟨b, off, rfl, _⟩ := hsl.2 (j * sz) _ (List.getElem?_eq_getElem hlt)
  refine WL.index ht hs hx hy hi hj hd (h b _ rfl fun q v hq hv => ?_)
  obtain ⟨b', off', e', hc⟩ := hsl.2 _ v hv
  injection e' with e'
  injection e' with e1 e2
  subst e1; subst e2
  rw [Nat.add_assoc]; exact hc
theorem WL.sindex {t : TypeId} {x y : Operand} {s : ByteArray} {k : IntKind} {i : Int} (ht : P.underlying t = some .string) (hx : ev E x = some (.string s)) (hy : ev E y = some (.int k i)) (j : Nat) (hi : i = (j : Int)) (u : UInt8) (hj : s.data.toList[j]? = some u) (hd : Nat.blt d N = true)
    (h : WL P ops Q N rest ((d, v8 u) :: E) w) : WL P ops Q N (⟨some d, .index t x y, ty, pos, af, none⟩ :: rest) E w :=
  WL.run _ w (fun a ha => by
    subst hi
    have : s[j]? = some u := by
      rw [← hj]
      simp only [getElem?_def]
      rfl
    simp [execOp, ev_eval ha hx, ev_eval ha hy, Instr.index, asIntOf, run_underlying ht, this]) hd h
end
end Go.HL
