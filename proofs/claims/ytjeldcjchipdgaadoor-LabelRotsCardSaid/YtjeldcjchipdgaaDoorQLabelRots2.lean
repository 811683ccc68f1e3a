import Derived.Laws.MakeOwn
import Derived.Laws.Cover3
import Derived.Laws.ResultCell
import Derived.Test.YtjeldcjchipdgaaDoorProg
import Derived.Test.YtjeldcjchipdgaaDoorQLabelRots1
namespace Go.HL
open Go.RowKit

/-! arrays, rows made of zeros, slices that are nil, marks -/
section
variable {P : Program} {ops : Array Oper} {Q : Exit → Act → World → Prop} {N : Nat} {E : Env} {w : World} {rest : List Oper}
  {d : Nat} {ty : TypeId} {pos : String} {af : Array Edge} {t tb T : TypeId} {x y : Operand} {α : Type} {e : Enc α} {S : Nat → Prop}
theorem WL.nilCheck {ad : Addr} (hx : ev E x = some (.pointer (some ad))) (hd : Nat.blt d N = true) (h : WL P ops Q N rest ((d, .pointer (some ad)) :: E) w) : WL P ops Q N (⟨some d, .nilCheck x, ty, pos, af, none⟩ :: rest) E w :=
  WL.run _ w (fun a ha => by simp [execOp, ev_eval ha hx]) hd h
/-- a place in an array of one-cell elements that begins its block -/
theorem WL.indexArr {b n : Nat} {k : IntKind} {i : Int} (j : Nat) (ht : P.underlying t = some (.array n T)) (hs : ∀ w, (sizeOf T).run P w = .ok 1 w) (hx : ev E x = some (.pointer (some ⟨b, 0, none⟩))) (hy : ev E y = some (.int k i)) (hi : i = (j : Int) ∧ j < n) (hd : Nat.blt d N = true)
    (h : WL P ops Q N rest ((d, .pointer (some ⟨b, j, none⟩)) :: E) w) : WL P ops Q N (⟨some d, .indexAddr t x y, ty, pos, af, none⟩ :: rest) E w :=
  WL.run _ w (fun a ha => by
    obtain ⟨rfl, hj⟩ := hi
    have h2 : ((j : Int) < (n : Int)) := by omega
    simp [execOp, ev_eval ha hx, ev_eval ha hy, Instr.indexAt, asIntOf, run_underlying ht, hs, Instr.sureAddr, hj, Addr.add_lit]) hd h
/-- an element of an array that is a value -/
theorem WL.indexV {n : Nat} {k : IntKind} {i : Int} {cs : List Value} {v : Value} (j : Nat) (ht : P.underlying t = some (.array n T)) (hs : ∀ w, (sizeOf T).run P w = .ok 1 w) (hg : ∀ w, (isAgg T).run P w = .ok false w) (hx : ev E x = some (.agg cs.toArray)) (hy : ev E y = some (.int k i)) (hi : i = (j : Int) ∧ j < n) (hv : cs[j]? = some v) (hd : Nat.blt d N = true)
    (h : WL P ops Q N rest ((d, v) :: E) w) : WL P ops Q N (⟨some d, .index t x y, ty, pos, af, none⟩ :: rest) E w :=
  WL.run _ w (fun a ha => by
    obtain ⟨rfl, hj⟩ := hi
    simp [execOp, ev_eval ha hx, ev_eval ha hy, Instr.index, asIntOf, run_underlying ht, hs, hg, part, hj, hv]) hd h
theorem WL.isNil {T : TypeId} {ao : Option Addr} {n c : Nat} (ht : P.underlying t = some (.slice T)) (hx : ev E x = some (.slice ao n c)) (hy : ev E y = some (.slice none 0 0)) (hd : Nat.blt d N = true) (h : WL P ops Q N rest ((d, .bool ao.isNone) :: E) w) :
    WL P ops Q N (⟨some d, .binOp .eql t x y tb, ty, pos, af, none⟩ :: rest) E w :=
  WL.run _ w (fun a ha => by simp [execOp, ev_eval ha hx, ev_eval ha hy, eqGuard, binOp, run_equal_slice_nil w t T ao n c ht]) hd h
theorem WL.isNil? {T : TypeId} {ao : Option Addr} {n c : Nat} (ht : P.underlying t = some (.slice T)) (hx : ev E x = some (.slice ao n c)) (hy : ev E y = some (.slice none 0 0)) (hd : Nat.blt d N = true) (hT : ao = none → WL P ops Q N rest ((d, .bool true) :: E) w) (hf : ao ≠ none → WL P ops Q N rest ((d, .bool false) :: E) w) :
    WL P ops Q N (⟨some d, .binOp .eql t x y tb, ty, pos, af, none⟩ :: rest) E w :=
  WL.isNil ht hx hy hd (by cases ao with
    | none => exact hT rfl
    | some a => exact hf (by simp))
/-- the complement -/
theorem WL.not32 {b : UInt32} (hx : ev E x = some (v32 b)) (hd : Nat.blt d N = true) (h : WL P ops Q N rest ((d, v32 (~~~b)) :: E) w) : WL P ops Q N (⟨some d, .unOp .xor t x, ty, pos, af, none⟩ :: rest) E w :=
  WL.run _ w (fun a ha => by
    have e1 : IntKind.u32.max = ((4294967295 : UInt32).toNat : Int) := by decide
    have e2 : (Op.intBits .xor .u32 ((4294967295 : UInt32).toNat : Int) (b.toNat : Int)).run P w = .ok (v32 ((4294967295 : UInt32) ^^^ b)) w := by
      have := n_xor32 (P := P) 0 w 4294967295 b
      simpa [binOp] using this
    have e3 : (4294967295 : UInt32) ^^^ b = ~~~b := by
      apply UInt32.toBitVec_inj.1
      show 4294967295#32 ^^^ b.toBitVec = ~~~b.toBitVec
      rw [← BitVec.allOnes_xor]
      rfl
    rw [e3] at e2
    have e4 : (Op.intBits .xor .u32 4294967295 (b.toNat : Int)).run P w = .ok (v32 (~~~b)) w := e2
    simp only [execOp, ev_eval ha hx, Op.unary, show IntKind.u32.signed = false from rfl, e1]
    simp [e4]) hd h
theorem WL.shl32v {a : UInt32} {m : Int} {k : IntKind} (n : Nat) (hx : ev E x = some (v32 a)) (hy : ev E y = some (.int k m)) (hm : m = (n : Int) ∧ n < 32) (hd : Nat.blt d N = true) (h : WL P ops Q N rest ((d, v32 (a <<< UInt32.ofNat n)) :: E) w) : WL P ops Q N (⟨some d, .binOp .shl t x y tb, ty, pos, af, none⟩ :: rest) E w :=
  WL.num hx hy (by rw [hm.1]; exact n_shl32 _ _ _ _ n hm.2) hd h
theorem WL.shr32v {a : UInt32} {m : Int} {k : IntKind} (n : Nat) (hx : ev E x = some (v32 a)) (hy : ev E y = some (.int k m)) (hm : m = (n : Int) ∧ n < 32) (hd : Nat.blt d N = true) (h : WL P ops Q N rest ((d, v32 (a >>> UInt32.ofNat n)) :: E) w) : WL P ops Q N (⟨some d, .binOp .shr t x y tb, ty, pos, af, none⟩ :: rest) E w :=
  WL.num hx hy (by rw [hm.1]; exact n_shr32 _ _ _ _ n hm.2) hd h
/-- a row of zeros -/
theorem make_cells (z : Array Value) (z0 : α) (n c : Nat) (hz : z.toList = e.f z0) (hnc : n ≤ c) : (madeCells z (c * e.sz)).toList.take (n * e.sz) = e.all (List.replicate n z0) := by
  have hsz : z.size = e.sz := by rw [← e.len z0, ← hz, Array.length_toList]
  have hp := e.pos
  apply List.ext_getElem?
  intro j
  have hlen : (e.all (List.replicate n z0)).length = n * e.sz := by rw [Enc.all_len]; simp
  by_cases hj : j < n * e.sz
  · have hjc : j < c * e.sz := Nat.lt_of_lt_of_le hj (Nat.mul_le_mul_right _ hnc)
    have hq : j % e.sz < e.sz := Nat.mod_lt _ hp
    have hd : j / e.sz < n := Nat.div_lt_of_lt_mul (by rw [Nat.mul_comm]; exact hj)
    have h1 := e.all_at (xs := List.replicate n z0) (j := j / e.sz) (x := z0) (by simp [hd]) hq
    rw [show j / e.sz * e.sz + j % e.sz = j from by rw [Nat.mul_comm]; exact Nat.div_add_mod j e.sz] at h1
    rw [h1, List.getElem?_take_of_lt hj]
    simp only [madeCells, Array.getElem?_toList, Array.getElem?_map, Array.getElem?_range, hjc, if_true, Option.map_some, hsz]
    have h2 : j % e.sz < z.size := by omega
    rw [← hz, Array.getElem?_toList, Array.getElem?_eq_getElem h2]
    simp [h2]
  · rw [List.getElem?_eq_none (by simp; omega), List.getElem?_eq_none (by omega)]
theorem WL.make {lo hi : Operand} {kl kc : IntKind} {l c : Int} {bytes : Nat} {z : Value} (z0 : α) (n m : Nat) (ht : P.underlying t = some (.slice T)) (hinfo : (P.info? T).map (fun i => (i.zero, i.size, i.bytes)) = some (some z, e.sz, bytes)) (hz : z.cells.toList = e.f z0)
    (hl : ev E lo = some (.int kl l)) (hc : ev E hi = some (.int kc c)) (hn : l = (n : Int) ∧ c = (m : Int) ∧ n ≤ m) (hb : bytes * m ≤ 140737488355328 ∧ m ≤ 9223372036854775807) (hd : Nat.blt d N = true)
    (h : ∀ g w', Row (w.heap.size ≤ ·) w' T e (some ⟨g, 0, none⟩) m (List.replicate n z0) → Chg Nob w w' → w'.heap.size = w.heap.size + 1 → g = w.heap.size → WL P ops Q N rest ((d, .slice (some ⟨g, 0, none⟩) (List.replicate n z0).length m) :: E) w') :
    WL P ops Q N (⟨some d, .makeSlice t lo hi, ty, pos, af, none⟩ :: rest) E w := by
  obtain ⟨i, hi1, h1, h2, h3⟩ := info_parts hinfo
  obtain ⟨rfl, rfl, hnm⟩ := hn
  have hbb : (bytes : Int) * (m : Int) ≤ 281474976710656 := by
    have : ((bytes * m : Nat) : Int) ≤ 281474976710656 := by omega
    rwa [Int.natCast_mul] at this
  have hr := run_make (P := P) w t T i z ht hi1 h1 kl kc (n : Int) (m : Int) (by omega) (by omega) (by rw [h3]; exact hbb) (by omega)
  simp only [Int.toNat_natCast, h2] at hr
  refine WL.run (.slice (some ⟨w.heap.size, 0, none⟩) n m) (w.alloc (.cells (madeCells z.cells (m * e.sz)) T)) (fun a ha => by simp [execOp, ev_eval ha hl, ev_eval ha hc, hr]) hd ?_
  have hsz : (madeCells z.cells (m * e.sz)).size = m * e.sz := by simp [madeCells]
  have := h w.heap.size (w.alloc (.cells (madeCells z.cells (m * e.sz)) T)) ⟨fun a ea => by injection ea with ea; subst ea; exact Nat.le_refl _, ?_⟩ (Chg.alloc _ _) (by simp) rfl
  · simpa using this
  · refine ⟨by rw [Enc.all_len], by simpa using hnm, .inr ⟨w.heap.size, _, (0, 0), rfl, ?_, ?_, ?_, hsz, ?_⟩⟩
    · show (w.heap.push _)[w.heap.size]? = _
      simp
    · intro j _ hh; omega
    · simpa [maxLen] using hb.2
    · rw [List.length_replicate]
      exact make_cells _ _ _ _ hz hnm
end
end Go.HL
namespace Go.Proofs.YtjeldcjchipdgaaDoor
open Go.RowKit Go.HL
set_option maxRecDepth 100000
theorem eg_9 : ∀ (args : Array Value) (w : World), (callFunc 9 args).run Tryd.prog w = .ok (.enter 9 args) w := eg_of Tryd.func9 (by kernel_rfl) rfl
theorem eg_12 : ∀ (args : Array Value) (w : World), (callFunc 12 args).run Tryd.prog w = .ok (.enter 12 args) w := eg_of Tryd.func12 (by kernel_rfl) rfl
theorem eg_14 : ∀ (args : Array Value) (w : World), (callFunc 14 args).run Tryd.prog w = .ok (.enter 14 args) w := eg_of Tryd.func14 (by kernel_rfl) rfl
theorem eg_15 : ∀ (args : Array Value) (w : World), (callFunc 15 args).run Tryd.prog w = .ok (.enter 15 args) w := eg_of Tryd.func15 (by kernel_rfl) rfl
theorem eg_16 : ∀ (args : Array Value) (w : World), (callFunc 16 args).run Tryd.prog w = .ok (.enter 16 args) w := eg_of Tryd.func16 (by kernel_rfl) rfl
theorem eg_17 : ∀ (args : Array Value) (w : World), (callFunc 17 args).run Tryd.prog w = .ok (.enter 17 args) w := eg_of Tryd.func17 (by kernel_rfl) rfl
theorem eg_18 : ∀ (args : Array Value) (w : World), (callFunc 18 args).run Tryd.prog w = .ok (.enter 18 args) w := eg_of Tryd.func18 (by kernel_rfl) rfl
theorem eg_19 : ∀ (args : Array Value) (w : World), (callFunc 19 args).run Tryd.prog w = .ok (.enter 19 args) w := eg_of Tryd.func19 (by kernel_rfl) rfl
theorem eg_20 : ∀ (args : Array Value) (w : World), (callFunc 20 args).run Tryd.prog w = .ok (.enter 20 args) w := eg_of Tryd.func20 (by kernel_rfl) rfl
theorem eg_27 : ∀ (args : Array Value) (w : World), (callFunc 27 args).run Tryd.prog w = .ok (.enter 27 args) w := eg_of Tryd.func27 (by kernel_rfl) rfl
theorem eg_36 : ∀ (args : Array Value) (w : World), (callFunc 36 args).run Tryd.prog w = .ok (.enter 36 args) w := eg_of Tryd.func36 (by kernel_rfl) rfl
theorem eg_37 : ∀ (args : Array Value) (w : World), (callFunc 37 args).run Tryd.prog w = .ok (.enter 37 args) w := eg_of Tryd.func37 (by kernel_rfl) rfl
theorem eg_40 : ∀ (args : Array Value) (w : World), (callFunc 40 args).run Tryd.prog w = .ok (.enter 40 args) w := eg_of Tryd.func40 (by kernel_rfl) rfl
theorem eg_41 : ∀ (args : Array Value) (w : World), (callFunc 41 args).run Tryd.prog w = .ok (.enter 41 args) w := eg_of Tryd.func41 (by kernel_rfl) rfl
theorem eg_42 : ∀ (args : Array Value) (w : World), (callFunc 42 args).run Tryd.prog w = .ok (.enter 42 args) w := eg_of Tryd.func42 (by kernel_rfl) rfl
theorem eg_43 : ∀ (args : Array Value) (w : World), (callFunc 43 args).run Tryd.prog w = .ok (.enter 43 args) w := eg_of Tryd.func43 (by kernel_rfl) rfl
theorem eg_44 : ∀ (args : Array Value) (w : World), (callFunc 44 args).run Tryd.prog w = .ok (.enter 44 args) w := eg_of Tryd.func44 (by kernel_rfl) rfl
theorem eg_45 : ∀ (args : Array Value) (w : World), (callFunc 45 args).run Tryd.prog w = .ok (.enter 45 args) w := eg_of Tryd.func45 (by kernel_rfl) rfl
theorem eg_46 : ∀ (args : Array Value) (w : World), (callFunc 46 args).run Tryd.prog w = .ok (.enter 46 args) w := eg_of Tryd.func46 (by kernel_rfl) rfl
theorem eg_47 : ∀ (args : Array Value) (w : World), (callFunc 47 args).run Tryd.prog w = .ok (.enter 47 args) w := eg_of Tryd.func47 (by kernel_rfl) rfl
theorem eg_48 : ∀ (args : Array Value) (w : World), (callFunc 48 args).run Tryd.prog w = .ok (.enter 48 args) w := eg_of Tryd.func48 (by kernel_rfl) rfl
theorem eg_49 : ∀ (args : Array Value) (w : World), (callFunc 49 args).run Tryd.prog w = .ok (.enter 49 args) w := eg_of Tryd.func49 (by kernel_rfl) rfl
theorem eg_50 : ∀ (args : Array Value) (w : World), (callFunc 50 args).run Tryd.prog w = .ok (.enter 50 args) w := eg_of Tryd.func50 (by kernel_rfl) rfl
theorem eg_51 : ∀ (args : Array Value) (w : World), (callFunc 51 args).run Tryd.prog w = .ok (.enter 51 args) w := eg_of Tryd.func51 (by kernel_rfl) rfl
theorem eg_53 : ∀ (args : Array Value) (w : World), (callFunc 53 args).run Tryd.prog w = .ok (.enter 53 args) w := eg_of Tryd.func53 (by kernel_rfl) rfl
theorem eg_64 : ∀ (args : Array Value) (w : World), (callFunc 64 args).run Tryd.prog w = .ok (.enter 64 args) w := eg_of Tryd.func64 (by kernel_rfl) rfl
theorem eg_65 : ∀ (args : Array Value) (w : World), (callFunc 65 args).run Tryd.prog w = .ok (.enter 65 args) w := eg_of Tryd.func65 (by kernel_rfl) rfl
theorem eg_68 : ∀ (args : Array Value) (w : World), (callFunc 68 args).run Tryd.prog w = .ok (.enter 68 args) w := eg_of Tryd.func68 (by kernel_rfl) rfl
theorem eg_69 : ∀ (args : Array Value) (w : World), (callFunc 69 args).run Tryd.prog w = .ok (.enter 69 args) w := eg_of Tryd.func69 (by kernel_rfl) rfl
theorem eg_70 : ∀ (args : Array Value) (w : World), (callFunc 70 args).run Tryd.prog w = .ok (.enter 70 args) w := eg_of Tryd.func70 (by kernel_rfl) rfl
theorem eg_83 : ∀ (args : Array Value) (w : World), (callFunc 83 args).run Tryd.prog w = .ok (.enter 83 args) w := eg_of Tryd.func83 (by kernel_rfl) rfl
theorem eg_84 : ∀ (args : Array Value) (w : World), (callFunc 84 args).run Tryd.prog w = .ok (.enter 84 args) w := eg_of Tryd.func84 (by kernel_rfl) rfl
theorem eg_85 : ∀ (args : Array Value) (w : World), (callFunc 85 args).run Tryd.prog w = .ok (.enter 85 args) w := eg_of Tryd.func85 (by kernel_rfl) rfl
theorem eg_86 : ∀ (args : Array Value) (w : World), (callFunc 86 args).run Tryd.prog w = .ok (.enter 86 args) w := eg_of Tryd.func86 (by kernel_rfl) rfl
theorem eg_88 : ∀ (args : Array Value) (w : World), (callFunc 88 args).run Tryd.prog w = .ok (.enter 88 args) w := eg_of Tryd.func88 (by kernel_rfl) rfl
theorem eg_89 : ∀ (args : Array Value) (w : World), (callFunc 89 args).run Tryd.prog w = .ok (.enter 89 args) w := eg_of Tryd.func89 (by kernel_rfl) rfl
theorem eg_95 : ∀ (args : Array Value) (w : World), (callFunc 95 args).run Tryd.prog w = .ok (.enter 95 args) w := eg_of Tryd.func95 (by kernel_rfl) rfl
theorem eg_101 : ∀ (args : Array Value) (w : World), (callFunc 101 args).run Tryd.prog w = .ok (.enter 101 args) w := eg_of Tryd.func101 (by kernel_rfl) rfl
theorem eg_102 : ∀ (args : Array Value) (w : World), (callFunc 102 args).run Tryd.prog w = .ok (.enter 102 args) w := eg_of Tryd.func102 (by kernel_rfl) rfl
theorem eg_103 : ∀ (args : Array Value) (w : World), (callFunc 103 args).run Tryd.prog w = .ok (.enter 103 args) w := eg_of Tryd.func103 (by kernel_rfl) rfl
theorem eg_104 : ∀ (args : Array Value) (w : World), (callFunc 104 args).run Tryd.prog w = .ok (.enter 104 args) w := eg_of Tryd.func104 (by kernel_rfl) rfl
theorem eg_105 : ∀ (args : Array Value) (w : World), (callFunc 105 args).run Tryd.prog w = .ok (.enter 105 args) w := eg_of Tryd.func105 (by kernel_rfl) rfl
theorem eg_106 : ∀ (args : Array Value) (w : World), (callFunc 106 args).run Tryd.prog w = .ok (.enter 106 args) w := eg_of Tryd.func106 (by kernel_rfl) rfl
theorem eg_112 : ∀ (args : Array Value) (w : World), (callFunc 112 args).run Tryd.prog w = .ok (.enter 112 args) w := eg_of Tryd.func112 (by kernel_rfl) rfl
theorem eg_113 : ∀ (args : Array Value) (w : World), (callFunc 113 args).run Tryd.prog w = .ok (.enter 113 args) w := eg_of Tryd.func113 (by kernel_rfl) rfl
theorem eg_114 : ∀ (args : Array Value) (w : World), (callFunc 114 args).run Tryd.prog w = .ok (.enter 114 args) w := eg_of Tryd.func114 (by kernel_rfl) rfl
theorem eg_117 : ∀ (args : Array Value) (w : World), (callFunc 117 args).run Tryd.prog w = .ok (.enter 117 args) w := eg_of Tryd.func117 (by kernel_rfl) rfl
theorem fld_23_0 (b o : Nat) (w : World) : (Instr.fieldAt 23 (.pointer (some ⟨b, o, none⟩)) 0).run Tryd.prog w = .ok (.pointer (some ⟨b, o + 0, none⟩)) w := by
  simp [Instr.fieldAt, run_underlying Tryd.underlying23, Instr.sureAddr, fieldPlace, Tryd.sizeOf3, Addr.add_lit]
theorem fld_23_1 (b o : Nat) (w : World) : (Instr.fieldAt 23 (.pointer (some ⟨b, o, none⟩)) 1).run Tryd.prog w = .ok (.pointer (some ⟨b, o + 1, none⟩)) w := by
  simp [Instr.fieldAt, run_underlying Tryd.underlying23, Instr.sureAddr, fieldPlace, Tryd.sizeOf3, Addr.add_lit]
theorem fld_23_2 (b o : Nat) (w : World) : (Instr.fieldAt 23 (.pointer (some ⟨b, o, none⟩)) 2).run Tryd.prog w = .ok (.pointer (some ⟨b, o + 2, none⟩)) w := by
  simp [Instr.fieldAt, run_underlying Tryd.underlying23, Instr.sureAddr, fieldPlace, Tryd.sizeOf3, Addr.add_lit]
theorem fld_23_3 (b o : Nat) (w : World) : (Instr.fieldAt 23 (.pointer (some ⟨b, o, none⟩)) 3).run Tryd.prog w = .ok (.pointer (some ⟨b, o + 3, none⟩)) w := by
  simp [Instr.fieldAt, run_underlying Tryd.underlying23, Instr.sureAddr, fieldPlace, Tryd.sizeOf9, Addr.add_lit]
theorem fld_25_0 (b o : Nat) (w : World) : (Instr.fieldAt 25 (.pointer (some ⟨b, o, none⟩)) 0).run Tryd.prog w = .ok (.pointer (some ⟨b, o + 0, none⟩)) w := by
  simp [Instr.fieldAt, run_underlying Tryd.underlying25, Instr.sureAddr, fieldPlace, Tryd.sizeOf3, Addr.add_lit]
theorem fld_25_1 (b o : Nat) (w : World) : (Instr.fieldAt 25 (.pointer (some ⟨b, o, none⟩)) 1).run Tryd.prog w = .ok (.pointer (some ⟨b, o + 1, none⟩)) w := by
  simp [Instr.fieldAt, run_underlying Tryd.underlying25, Instr.sureAddr, fieldPlace, Tryd.sizeOf23, Addr.add_lit]
theorem fld_75_0 (b o : Nat) (w : World) : (Instr.fieldAt 75 (.pointer (some ⟨b, o, none⟩)) 0).run Tryd.prog w = .ok (.pointer (some ⟨b, o + 0, none⟩)) w := by
  simp [Instr.fieldAt, run_underlying Tryd.underlying75, Instr.sureAddr, fieldPlace, Tryd.sizeOf3, Addr.add_lit]
theorem fld_75_1 (b o : Nat) (w : World) : (Instr.fieldAt 75 (.pointer (some ⟨b, o, none⟩)) 1).run Tryd.prog w = .ok (.pointer (some ⟨b, o + 1, none⟩)) w := by
  simp [Instr.fieldAt, run_underlying Tryd.underlying75, Instr.sureAddr, fieldPlace, Tryd.sizeOf3, Addr.add_lit]
theorem fld_75_2 (b o : Nat) (w : World) : (Instr.fieldAt 75 (.pointer (some ⟨b, o, none⟩)) 2).run Tryd.prog w = .ok (.pointer (some ⟨b, o + 2, none⟩)) w := by
  simp [Instr.fieldAt, run_underlying Tryd.underlying75, Instr.sureAddr, fieldPlace, Tryd.sizeOf9, Addr.add_lit]
theorem fld_86_0 (b o : Nat) (w : World) : (Instr.fieldAt 86 (.pointer (some ⟨b, o, none⟩)) 0).run Tryd.prog w = .ok (.pointer (some ⟨b, o + 0, none⟩)) w := by
  simp [Instr.fieldAt, run_underlying Tryd.underlying86, Instr.sureAddr, fieldPlace, Tryd.sizeOf3, Addr.add_lit]
theorem fld_86_1 (b o : Nat) (w : World) : (Instr.fieldAt 86 (.pointer (some ⟨b, o, none⟩)) 1).run Tryd.prog w = .ok (.pointer (some ⟨b, o + 1, none⟩)) w := by
  simp [Instr.fieldAt, run_underlying Tryd.underlying86, Instr.sureAddr, fieldPlace, Tryd.sizeOf3, Addr.add_lit]
theorem fld_86_2 (b o : Nat) (w : World) : (Instr.fieldAt 86 (.pointer (some ⟨b, o, none⟩)) 2).run Tryd.prog w = .ok (.pointer (some ⟨b, o + 2, none⟩)) w := by
  simp [Instr.fieldAt, run_underlying Tryd.underlying86, Instr.sureAddr, fieldPlace, Tryd.sizeOf83, Addr.add_lit]
theorem fld_86_3 (b o : Nat) (w : World) : (Instr.fieldAt 86 (.pointer (some ⟨b, o, none⟩)) 3).run Tryd.prog w = .ok (.pointer (some ⟨b, o + 3, none⟩)) w := by
  simp [Instr.fieldAt, run_underlying Tryd.underlying86, Instr.sureAddr, fieldPlace, Tryd.sizeOf67, Addr.add_lit]
theorem fld_86_4 (b o : Nat) (w : World) : (Instr.fieldAt 86 (.pointer (some ⟨b, o, none⟩)) 4).run Tryd.prog w = .ok (.pointer (some ⟨b, o + 4, none⟩)) w := by
  simp [Instr.fieldAt, run_underlying Tryd.underlying86, Instr.sureAddr, fieldPlace, Tryd.sizeOf84, Addr.add_lit]
theorem fld_86_5 (b o : Nat) (w : World) : (Instr.fieldAt 86 (.pointer (some ⟨b, o, none⟩)) 5).run Tryd.prog w = .ok (.pointer (some ⟨b, o + 5, none⟩)) w := by
  simp [Instr.fieldAt, run_underlying Tryd.underlying86, Instr.sureAddr, fieldPlace, Tryd.sizeOf4, Addr.add_lit]
theorem fld_86_6 (b o : Nat) (w : World) : (Instr.fieldAt 86 (.pointer (some ⟨b, o, none⟩)) 6).run Tryd.prog w = .ok (.pointer (some ⟨b, o + 6, none⟩)) w := by
  simp [Instr.fieldAt, run_underlying Tryd.underlying86, Instr.sureAddr, fieldPlace, Tryd.sizeOf4, Addr.add_lit]
theorem fld_86_7 (b o : Nat) (w : World) : (Instr.fieldAt 86 (.pointer (some ⟨b, o, none⟩)) 7).run Tryd.prog w = .ok (.pointer (some ⟨b, o + 7, none⟩)) w := by
  simp [Instr.fieldAt, run_underlying Tryd.underlying86, Instr.sureAddr, fieldPlace, Tryd.sizeOf3, Addr.add_lit]
theorem fld_92_0 (b o : Nat) (w : World) : (Instr.fieldAt 92 (.pointer (some ⟨b, o, none⟩)) 0).run Tryd.prog w = .ok (.pointer (some ⟨b, o + 0, none⟩)) w := by
  simp [Instr.fieldAt, run_underlying Tryd.underlying92, Instr.sureAddr, fieldPlace, Tryd.sizeOf90, Addr.add_lit]
theorem fld_92_1 (b o : Nat) (w : World) : (Instr.fieldAt 92 (.pointer (some ⟨b, o, none⟩)) 1).run Tryd.prog w = .ok (.pointer (some ⟨b, o + 2, none⟩)) w := by
  simp [Instr.fieldAt, run_underlying Tryd.underlying92, Instr.sureAddr, fieldPlace, Tryd.sizeOf26, Addr.add_lit]
theorem info_4 : (Tryd.prog.info? 4).map (fun i => (i.zero, i.size, i.bytes)) = some (some (.bool false), 1, 1) := by kernel_rfl
theorem info_5 : (Tryd.prog.info? 5).map (fun i => (i.zero, i.size, i.bytes)) = some (some (.int .u8 0), 1, 1) := by kernel_rfl
theorem info_25 : (Tryd.prog.info? 25).map (fun i => (i.zero, i.size, i.bytes)) = some (some (.agg #[(.int .i64 0), (.int .i64 0), (.int .i64 0), (.int .i64 0), (.string ⟨#[]⟩)]), 5, 48) := by kernel_rfl
theorem info_75 : (Tryd.prog.info? 75).map (fun i => (i.zero, i.size, i.bytes)) = some (some (.agg #[(.int .i64 0), (.int .i64 0), (.string ⟨#[]⟩)]), 3, 32) := by kernel_rfl
theorem info_92 : (Tryd.prog.info? 92).map (fun i => (i.zero, i.size, i.bytes)) = some (some (.agg #[(.int .i64 0), (.int .i64 0), (.slice none 0 0)]), 3, 40) := by kernel_rfl
theorem bld_25_0_1 (x0 : Int) (x1 : Int) (x2 : Int) (x3 : Int) (x4 : ByteArray) (w : World) : (Instr.build 25 #[(0, .int .i64 x0), (1, .agg #[.int .i64 x1, .int .i64 x2, .int .i64 x3, .string x4])]).run Tryd.prog w = .ok (.agg #[.int .i64 x0, .int .i64 x1, .int .i64 x2, .int .i64 x3, .string x4]) w := by
  simp [Instr.build, run_underlying Tryd.underlying25, Tryd.zeroValue25, Instr.fill, Value.cells, Tryd.sizeOf3, Tryd.sizeOf23]
theorem bld_25_z  (w : World) : (Instr.build 25 #[]).run Tryd.prog w = .ok (.agg #[(.int .i64 0), (.int .i64 0), (.int .i64 0), (.int .i64 0), (.string ⟨#[]⟩)]) w := by
  simp [Instr.build, run_underlying Tryd.underlying25, Tryd.zeroValue25, Instr.fill, Value.cells, Tryd.sizeOf3, Tryd.sizeOf23]
theorem bld_75_0_1 (x0 : Int) (x1 : Int) (w : World) : (Instr.build 75 #[(0, .int .i64 x0), (1, .int .i64 x1)]).run Tryd.prog w = .ok (.agg #[.int .i64 x0, .int .i64 x1, (.string ⟨#[]⟩)]) w := by
  simp [Instr.build, run_underlying Tryd.underlying75, Tryd.zeroValue75, Instr.fill, Value.cells, Tryd.sizeOf3, Tryd.sizeOf9]
theorem bld_75_0_2 (x0 : Int) (x1 : ByteArray) (w : World) : (Instr.build 75 #[(0, .int .i64 x0), (2, .string x1)]).run Tryd.prog w = .ok (.agg #[.int .i64 x0, (.int .i64 0), .string x1]) w := by
  simp [Instr.build, run_underlying Tryd.underlying75, Tryd.zeroValue75, Instr.fill, Value.cells, Tryd.sizeOf3, Tryd.sizeOf9]
theorem bld_86_0_1_2_3 (x0 : Int) (x1 : Int) (x2 : Option Nat) (xa3 : Option Addr) (xn3 xc3 : Nat) (w : World) : (Instr.build 86 #[(0, .int .i64 x0), (1, .int .i64 x1), (2, .map x2), (3, .slice xa3 xn3 xc3)]).run Tryd.prog w = .ok (.agg #[.int .i64 x0, .int .i64 x1, .map x2, .slice xa3 xn3 xc3, (.slice none 0 0), (.bool false), (.bool false), (.int .i64 0)]) w := by
  simp [Instr.build, run_underlying Tryd.underlying86, Tryd.zeroValue86, Instr.fill, Value.cells, Tryd.sizeOf3, Tryd.sizeOf4, Tryd.sizeOf67, Tryd.sizeOf83, Tryd.sizeOf84]
theorem bld_23_0_1_2_3 (x0 : Int) (x1 : Int) (x2 : Int) (x3 : ByteArray) (w : World) : (Instr.build 23 #[(0, .int .i64 x0), (1, .int .i64 x1), (2, .int .i64 x2), (3, .string x3)]).run Tryd.prog w = .ok (.agg #[.int .i64 x0, .int .i64 x1, .int .i64 x2, .string x3]) w := by
  simp [Instr.build, run_underlying Tryd.underlying23, Tryd.zeroValue23, Instr.fill, Value.cells, Tryd.sizeOf3, Tryd.sizeOf9]
theorem bld_90_0_1 (x0 : Int) (x1 : Int) (w : World) : (Instr.build 90 #[(0, .int .i64 x0), (1, .int .i64 x1)]).run Tryd.prog w = .ok (.agg #[.int .i64 x0, .int .i64 x1]) w := by
  simp [Instr.build, run_underlying Tryd.underlying90, Tryd.zeroValue90, Instr.fill, Value.cells, Tryd.sizeOf3]
theorem bld_23_z  (w : World) : (Instr.build 23 #[]).run Tryd.prog w = .ok (.agg #[(.int .i64 0), (.int .i64 0), (.int .i64 0), (.string ⟨#[]⟩)]) w := by
  simp [Instr.build, run_underlying Tryd.underlying23, Tryd.zeroValue23, Instr.fill, Value.cells, Tryd.sizeOf3, Tryd.sizeOf9]
theorem bld_92_0_1 (x0 : Int) (x1 : Int) (xa2 : Option Addr) (xn2 xc2 : Nat) (w : World) : (Instr.build 92 #[(0, .agg #[.int .i64 x0, .int .i64 x1]), (1, .slice xa2 xn2 xc2)]).run Tryd.prog w = .ok (.agg #[.int .i64 x0, .int .i64 x1, .slice xa2 xn2 xc2]) w := by
  simp [Instr.build, run_underlying Tryd.underlying92, Tryd.zeroValue92, Instr.fill, Value.cells, Tryd.sizeOf26, Tryd.sizeOf90]
theorem bld_25_0 (x0 : Int) (w : World) : (Instr.build 25 #[(0, .int .i64 x0)]).run Tryd.prog w = .ok (.agg #[.int .i64 x0, (.int .i64 0), (.int .i64 0), (.int .i64 0), (.string ⟨#[]⟩)]) w := by
  simp [Instr.build, run_underlying Tryd.underlying25, Tryd.zeroValue25, Instr.fill, Value.cells, Tryd.sizeOf3, Tryd.sizeOf23]
theorem bld_161_0_1_2_3_4_5_6_7 (x0 : Int) (x1 : Int) (x2 : Int) (x3 : Int) (x4 : Int) (x5 : Int) (x6 : Int) (x7 : Int) (w : World) : (Instr.build 161 #[(0, .int .u32 x0), (1, .int .u32 x1), (2, .int .u32 x2), (3, .int .u32 x3), (4, .int .u32 x4), (5, .int .u32 x5), (6, .int .u32 x6), (7, .int .u32 x7)]).run Tryd.prog w = .ok (.agg #[.int .u32 x0, .int .u32 x1, .int .u32 x2, .int .u32 x3, .int .u32 x4, .int .u32 x5, .int .u32 x6, .int .u32 x7]) w := by
  simp [Instr.build, run_underlying Tryd.underlying161, Tryd.zeroValue161, Instr.fill, Value.cells, Tryd.sizeOf159]
theorem mixed : Tryd.prog.follows .mixedOrders = true := by kernel_rfl
end Go.Proofs.YtjeldcjchipdgaaDoor
namespace Go.Proofs.YtjeldcjchipdgaaDoor
open Go.RowKit Go.HL
set_option maxRecDepth 100000

/-! the sums' own words -/
structure V8 where
  a : UInt32
  b : UInt32
  c : UInt32
  d : UInt32
  e : UInt32
  f : UInt32
  g : UInt32
  h : UInt32
def rotr (x : UInt32) (n : Nat) : UInt32 := (x <<< UInt32.ofNat (32 - n)) ||| (x >>> UInt32.ofNat n)
def wordAt (b : List UInt8) (t : Nat) : UInt32 := (((b.getD (4 * t) 0).toUInt32 <<< UInt32.ofNat 24 ||| (b.getD (4 * t + 1) 0).toUInt32 <<< UInt32.ofNat 16) ||| (b.getD (4 * t + 2) 0).toUInt32 <<< UInt32.ofNat 8) ||| (b.getD (4 * t + 3) 0).toUInt32
def nextW (b : List UInt8) (ws : List UInt32) (t : Nat) : UInt32 :=
  if t < 16 then wordAt b t
  else ws.getD (t - 16) 0 + ((rotr (ws.getD (t - 15) 0) 7 ^^^ rotr (ws.getD (t - 15) 0) 18) ^^^ (ws.getD (t - 15) 0) >>> UInt32.ofNat 3) + ws.getD (t - 7) 0 + ((rotr (ws.getD (t - 2) 0) 17 ^^^ rotr (ws.getD (t - 2) 0) 19) ^^^ (ws.getD (t - 2) 0) >>> UInt32.ofNat 10)
def sch (b : List UInt8) : Nat → List UInt32
  | 0 => []
  | t + 1 => let ws := sch b t; ws ++ [nextW b ws t]
def K256 : List UInt32 := [
    0x428a2f98, 0x71374491, 0xb5c0fbcf, 0xe9b5dba5, 0x3956c25b, 0x59f111f1, 0x923f82a4, 0xab1c5ed5,
    0xd807aa98, 0x12835b01, 0x243185be, 0x550c7dc3, 0x72be5d74, 0x80deb1fe, 0x9bdc06a7, 0xc19bf174,
    0xe49b69c1, 0xefbe4786, 0x0fc19dc6, 0x240ca1cc, 0x2de92c6f, 0x4a7484aa, 0x5cb0a9dc, 0x76f988da,
    0x983e5152, 0xa831c66d, 0xb00327c8, 0xbf597fc7, 0xc6e00bf3, 0xd5a79147, 0x06ca6351, 0x14292967,
    0x27b70a85, 0x2e1b2138, 0x4d2c6dfc, 0x53380d13, 0x650a7354, 0x766a0abb, 0x81c2c92e, 0x92722c85,
    0xa2bfe8a1, 0xa81a664b, 0xc24b8b70, 0xc76c51a3, 0xd192e819, 0xd6990624, 0xf40e3585, 0x106aa070,
    0x19a4c116, 0x1e376c08, 0x2748774c, 0x34b0bcb5, 0x391c0cb3, 0x4ed8aa4a, 0x5b9cca4f, 0x682e6ff3,
    0x748f82ee, 0x78a5636f, 0x84c87814, 0x8cc70208, 0x90befffa, 0xa4506ceb, 0xbef9a3f7, 0xc67178f2]
def round1 (v : V8) (k w : UInt32) : V8 :=
  let t1 := v.h + ((rotr v.e 6 ^^^ rotr v.e 11) ^^^ rotr v.e 25) + ((v.e &&& v.f) ^^^ (~~~v.e &&& v.g)) + k + w
  let t2 := ((rotr v.a 2 ^^^ rotr v.a 13) ^^^ rotr v.a 22) + (((v.a &&& v.b) ^^^ (v.a &&& v.c)) ^^^ (v.b &&& v.c))
  ⟨t1 + t2, v.a, v.b, v.c, v.d + t1, v.e, v.f, v.g⟩
def roundsN (w : List UInt32) (v : V8) : Nat → V8
  | 0 => v
  | t + 1 => round1 (roundsN w v t) (K256.getD t 0) (w.getD t 0)
def mix (s : V8) (b : List UInt8) : V8 :=
  let v := roundsN (sch b 64) s 64
  ⟨s.a + v.a, s.b + v.b, s.c + v.c, s.d + v.d, s.e + v.e, s.f + v.f, s.g + v.g, s.h + v.h⟩
def st0 : V8 := ⟨0x6a09e667, 0xbb67ae85, 0x3c6ef372, 0xa54ff53a, 0x510e527f, 0x9b05688c, 0x1f83d9ab, 0x5be0cd19⟩
def be8 (n : UInt64) (i : Nat) : List UInt8 := (List.range i).map fun q => (n >>> UInt64.ofNat (56 - 8 * q)).toUInt8
def padded (b : List UInt8) : List UInt8 := b ++ [128] ++ List.replicate ((120 - (b.length + 1) % 64) % 64) 0 ++ be8 (UInt64.ofNat b.length <<< UInt64.ofNat 3) 8

/-! turning -/
theorem rot_cnt {n : Nat} (h : 1 ≤ n ∧ n ≤ 31) : (B64 (-(n : Int)) &&& 31).toNat = 32 - n ∧ (32 - (B64 (-(n : Int)) &&& 31)).toNat = n := by
  have : ∀ m : Fin 32, 1 ≤ m.1 → (B64 (-(m.1 : Int)) &&& 31).toNat = 32 - m.1 ∧ (32 - (B64 (-(m.1 : Int)) &&& 31)).toNat = m.1 := by decide +kernel
  exact this ⟨n, by omega⟩ h.1
theorem rotl_calls (x : UInt32) (n : Nat) (w : World) (h : 1 ≤ n ∧ n ≤ 31) : Calls Tryd.prog 117 [v32 x, vi (-(n : Int))].toArray w (Ret fun v w' => v = v32 (rotr x n) ∧ Chg Nob w w') := by
  have hw := Chg.refl Nob w
  have hc := rot_cnt h
  refine Calls.of_WC Tryd.func117 rfl Tryd.ntmps117 (by simp) ?_
  refine WC.seq (WC.region (WL.assign rfl rfl (WL.nil (WX.then_normal (WC.seq (WC.region (WL.move rfl rfl (?_))))))))
  refine WL.c_i64_u64 Tryd.underlying3 Tryd.underlying138 rfl rfl (WL.num rfl rfl (n_and64 _ _ _ 31) rfl (WL.assign rfl rfl (WL.nil (WX.then_normal (WC.seq (WC.region (WL.move rfl rfl (?_))))))))
  refine WL.move rfl rfl (?_)
  refine WL.shl32v (32 - n) rfl rfl ⟨by rw [hc.1], by omega⟩ rfl ?_
  refine WL.move rfl rfl (WL.move rfl rfl (WL.num rfl rfl (n_sub64 _ _ 32 _) rfl (?_)))
  refine WL.shr32v n rfl rfl ⟨by rw [hc.2], by omega⟩ rfl ?_
  refine WL.num rfl rfl (n_or32 _ _ _ _) rfl (WL.assign rfl rfl (WL.nil (WX.then_normal (WC.ret (?_)))))
  refine WX.ret1 (.inl rfl) Tryd.results117 rfl ?_
  exact ⟨_, rfl, rfl, hw⟩
theorem ror_calls (x : UInt32) (n : Nat) (w : World) (h : 1 ≤ n ∧ n ≤ 31) : Calls Tryd.prog 114 [v32 x, vi (n : Int)].toArray w (Ret fun v w' => v = v32 (rotr x n) ∧ Chg Nob w w') := by
  have hw := Chg.refl Nob w
  refine Calls.of_WC Tryd.func114 rfl Tryd.ntmps114 (by simp) ?_
  refine WC.seq (WC.region (WL.assign rfl rfl (WL.nil (WX.then_normal (WC.seq (WC.region (WL.move rfl rfl (?_))))))))
  refine WL.move rfl rfl (WL.neg64 rfl (by first | omega | (constructor <;> omega)) rfl (?_))
  refine WL.call eg_117 rfl rfl (rotl_calls x n _ h) ?_
  rintro v w1 ⟨rfl, k⟩
  have zs_k := k.size
  replace hw := hw.pure k
  refine WL.assign rfl rfl (WL.nil (WX.then_normal (WC.ret (?_))))
  refine WX.ret1 (.inl rfl) Tryd.results114 rfl ?_
  exact ⟨_, rfl, rfl, hw⟩
/-! bytes of one's own -/
theorem clone_calls {S : Nat → Prop} {w : World} {ao : Option Addr} {c : Nat} {b : List UInt8} (hr : RSl S w eb ao c b) (hl : b.length ≤ 140737488351232) :
    Calls Tryd.prog 85 [.slice ao b.length c].toArray w (Ret fun v w' => (∃ (ao' : Option Addr) (c' : Nat), v = .slice ao' b.length c' ∧ Row (w.heap.size ≤ ·) w' 5 eb ao' c' b) ∧ Chg Nob w w') := by
  replace hr := hr.old
  have hw := Chg.refl Nob w
  refine Calls.of_WC Tryd.func85 rfl Tryd.ntmps85 (by simp) ?_
  refine WC.seq (WC.region (WL.assign rfl rfl (WL.nil (WX.then_normal (WC.seq (WC.seq (WC.region (?_))))))))
  refine WL.move rfl rfl (?_)
  refine WL.isNil? Tryd.underlying26 rfl rfl rfl (fun h4 => ?_) (fun h4 => ?_)
  ·
    refine WL.nil (WX.then_normal (WC.cond_true rfl (WC.seq (WC.region (WL.assign rfl rfl (WL.nil (WX.then_normal (?_))))))))
    refine WC.ret (WX.then_ret (?_))
    refine WX.ret1 (.inl rfl) Tryd.results85 rfl ?_
    first
      | (subst h4
         have hn := hr.none_nil
         subst hn
         exact ⟨_, rfl, ⟨none, 0, rfl, Row.nil _ _ _ _⟩, hw⟩)
      | exact ⟨_, rfl, ⟨_, _, rfl, hq2⟩, hw⟩
  ·
    refine WL.nil (WX.then_normal (WC.cond_false rfl (WC.skip (WX.then_normal (WC.seq (WC.region (?_)))))))
    refine WL.build (e := eb) [] Tryd.underlying26 Tryd.sizeOf5 Tryd.zeroValue5 rfl rfl rfl (by first | (simp [Value.cells]; done) | (simp [Value.cells] <;> rfl) | (simp [Value.cells, eb, ei, es, ebool, e32, e64]; done) | (simp [Value.cells] <;> (repeat' apply And.intro) <;> rfl)) (by decide) rfl ?_
    intro a_hq w_hq hq l_hq z_hq k_hq
    have zs_k_hq := k_hq.size
    replace hr := hr.pure k_hq
    replace hw := hw.pure k_hq
    refine WL.move rfl rfl (?_)
    refine WL.append (e := eb) info_5 rfl Tryd.underlying26 rfl rfl hq (hr.src Tryd.underlying26) (by (try simp only [List.length_append, List.length_cons, List.length_nil] at *); omega) (by intro b hb; first | (apply hS; omega) | ((try dsimp only); omega)) rfl ?_
    intro a_hq2 c_hq2 w_hq2 hq2 g_hq2 n_hq2
    have z_hq2 := g_hq2.chg.size
    have zs_g_hq2_chg := g_hq2.chg.size
    replace hr := hr.chg g_hq2.chg (by first | (intro x h1 h2; exact h2) | (intro x h0 h1 h2; exact hS x h1 h2) | (intro x h0 h1 h2; have h3 : _ = _ := h2; subst h3; exact hSR h1.1) | (intro x h1 h2; have h3 : _ = _ := h2; subst h3; assumption) | (intro x h1 h2; have h3 : _ = _ := h2; exfalso; omega) | (intro b h1 h2 h3; have h4 : _ = _ := h3; (try dsimp only at h2); exfalso; omega) | (intro h1; have h2 : _ = _ := h1; exfalso; omega) | (intro h1; have h2 : _ ≤ _ := h1; exfalso; omega) | (intros; exfalso; (try dsimp only at *); omega) | (intro b h1 h2 h3; exfalso; have h4 := h3.2; (try dsimp only at *); omega) | (intro h1; exfalso; have h4 := h1.2; (try dsimp only at *); omega) | (intro x h1 h2; exfalso; have h4 := h2.2; (try dsimp only at *); omega) | (intro x h1 h2; exact ⟨_, rfl, h2⟩) | (intro x h1 h2; have h4 := h2.1; have h5 := h2.2; exfalso; omega) | (intro x h1 h2; exact h2.1) | (intro x h1 h2; rcases h2.1 with h3 | h3; exact h3; exfalso; omega) | (intro x h1 h2; rcases h2 with h3 | h3; exact h3; exfalso; omega))
    replace hw := hw.chg g_hq2.chg (by first | (intro x h1 h2; exact h2) | (intro x h0 h1 h2; exact hS x h1 h2) | (intro x h0 h1 h2; have h3 : _ = _ := h2; subst h3; exact hSR h1.1) | (intro x h1 h2; have h3 : _ = _ := h2; subst h3; assumption) | (intro x h1 h2; have h3 : _ = _ := h2; exfalso; omega) | (intro b h1 h2 h3; have h4 : _ = _ := h3; (try dsimp only at h2); exfalso; omega) | (intro h1; have h2 : _ = _ := h1; exfalso; omega) | (intro h1; have h2 : _ ≤ _ := h1; exfalso; omega) | (intros; exfalso; (try dsimp only at *); omega) | (intro b h1 h2 h3; exfalso; have h4 := h3.2; (try dsimp only at *); omega) | (intro h1; exfalso; have h4 := h1.2; (try dsimp only at *); omega) | (intro x h1 h2; exfalso; have h4 := h2.2; (try dsimp only at *); omega) | (intro x h1 h2; exact ⟨_, rfl, h2⟩) | (intro x h1 h2; have h4 := h2.1; have h5 := h2.2; exfalso; omega) | (intro x h1 h2; exact h2.1) | (intro x h1 h2; rcases h2.1 with h3 | h3; exact h3; exfalso; omega) | (intro x h1 h2; rcases h2 with h3 | h3; exact h3; exfalso; omega))
    refine WL.assign rfl rfl (WL.nil (WX.then_normal (WC.ret (?_))))
    refine WX.ret1 (.inl rfl) Tryd.results85 rfl ?_
    first
      | (subst h4
         have hn := hr.none_nil
         subst hn
         exact ⟨_, rfl, ⟨none, 0, rfl, Row.nil _ _ _ _⟩, hw⟩)
      | exact ⟨_, rfl, ⟨_, _, rfl, hq2⟩, hw⟩
/-! the message with what is put behind -/
theorem pad_calls {S : Nat → Prop} {w : World} {ao : Option Addr} {c : Nat} {b : List UInt8} (hr : RSl S w eb ao c b) (hl : b.length ≤ 140737488351232) :
    Calls Tryd.prog 105 [.slice ao b.length c].toArray w (Ret fun v w' => (∃ (ao' : Option Addr) (c' : Nat), v = .slice ao' (padded b).length c' ∧ Row (w.heap.size ≤ ·) w' 5 eb ao' c' (padded b)) ∧ Chg Nob w w') := by
  replace hr := hr.old
  have hw := Chg.refl Nob w
  refine Calls.of_WC Tryd.func105 rfl Tryd.ntmps105 (by simp) ?_
  refine WC.seq (WC.region (WL.assign rfl rfl (WL.nil (WX.then_normal (WC.seq (WC.region (WL.move rfl rfl (?_))))))))
  refine WL.call eg_85 rfl rfl (clone_calls hr hl) ?_
  rintro v w1 ⟨⟨a1, c1, rfl, hq⟩, k⟩
  have zs_k := k.size
  replace hr := hr.pure k
  replace hw := hw.pure k
  refine WL.build (e := eb) [128] Tryd.underlying26 Tryd.sizeOf5 Tryd.zeroValue5 rfl rfl rfl (by first | (simp [Value.cells]; done) | (simp [Value.cells] <;> rfl) | (simp [Value.cells, eb, ei, es, ebool, e32, e64]; done) | (simp [Value.cells] <;> (repeat' apply And.intro) <;> rfl)) (by decide) rfl ?_
  intro a_hn w_hn hn l_hn z_hn k_hn
  have zs_k_hn := k_hn.size
  replace hr := hr.pure k_hn
  replace hw := hw.pure k_hn
  replace hq := hq.pure k_hn
  refine WL.append (e := eb) info_5 rfl Tryd.underlying26 rfl rfl hq (hn.rsl.src Tryd.underlying26) (by (try simp only [List.length_append, List.length_cons, List.length_nil] at *); omega) (by intro b hb; first | (apply hS; omega) | ((try dsimp only); omega)) rfl ?_
  intro a_hq1 c_hq1 w_hq1 hq1 g_hq1 n_hq1
  have z_hq1 := g_hq1.chg.size
  have zs_g_hq1_chg := g_hq1.chg.size
  replace hr := hr.chg g_hq1.chg (by first | (intro x h1 h2; exact h2) | (intro x h0 h1 h2; exact hS x h1 h2) | (intro x h0 h1 h2; have h3 : _ = _ := h2; subst h3; exact hSR h1.1) | (intro x h1 h2; have h3 : _ = _ := h2; subst h3; assumption) | (intro x h1 h2; have h3 : _ = _ := h2; exfalso; omega) | (intro b h1 h2 h3; have h4 : _ = _ := h3; (try dsimp only at h2); exfalso; omega) | (intro h1; have h2 : _ = _ := h1; exfalso; omega) | (intro h1; have h2 : _ ≤ _ := h1; exfalso; omega) | (intros; exfalso; (try dsimp only at *); omega) | (intro b h1 h2 h3; exfalso; have h4 := h3.2; (try dsimp only at *); omega) | (intro h1; exfalso; have h4 := h1.2; (try dsimp only at *); omega) | (intro x h1 h2; exfalso; have h4 := h2.2; (try dsimp only at *); omega) | (intro x h1 h2; exact ⟨_, rfl, h2⟩) | (intro x h1 h2; have h4 := h2.1; have h5 := h2.2; exfalso; omega) | (intro x h1 h2; exact h2.1) | (intro x h1 h2; rcases h2.1 with h3 | h3; exact h3; exfalso; omega) | (intro x h1 h2; rcases h2 with h3 | h3; exact h3; exfalso; omega))
  replace hw := hw.chg g_hq1.chg (by first | (intro x h1 h2; exact h2) | (intro x h0 h1 h2; exact hS x h1 h2) | (intro x h0 h1 h2; have h3 : _ = _ := h2; subst h3; exact hSR h1.1) | (intro x h1 h2; have h3 : _ = _ := h2; subst h3; assumption) | (intro x h1 h2; have h3 : _ = _ := h2; exfalso; omega) | (intro b h1 h2 h3; have h4 : _ = _ := h3; (try dsimp only at h2); exfalso; omega) | (intro h1; have h2 : _ = _ := h1; exfalso; omega) | (intro h1; have h2 : _ ≤ _ := h1; exfalso; omega) | (intros; exfalso; (try dsimp only at *); omega) | (intro b h1 h2 h3; exfalso; have h4 := h3.2; (try dsimp only at *); omega) | (intro h1; exfalso; have h4 := h1.2; (try dsimp only at *); omega) | (intro x h1 h2; exfalso; have h4 := h2.2; (try dsimp only at *); omega) | (intro x h1 h2; exact ⟨_, rfl, h2⟩) | (intro x h1 h2; have h4 := h2.1; have h5 := h2.2; exfalso; omega) | (intro x h1 h2; exact h2.1) | (intro x h1 h2; rcases h2.1 with h3 | h3; exact h3; exfalso; omega) | (intro x h1 h2; rcases h2 with h3 | h3; exact h3; exfalso; omega))
  refine WL.assign rfl rfl (WL.nil (WX.then_normal (WC.seq (WC.block (?_)))))
  refine WC.loop (σ := Nat × Option Addr × Nat) (fun s => [(3, .slice s.2.1 (b ++ [128] ++ List.replicate s.1 0).length s.2.2), (0, .slice ao b.length c)])
    (fun s w' => s.1 ≤ (120 - (b.length + 1) % 64) % 64 ∧ Row (w.heap.size ≤ ·) w' 5 eb s.2.1 s.2.2 (b ++ [128] ++ List.replicate s.1 0) ∧ RSl (· < w.heap.size) w' eb ao c b ∧ Chg Nob w w') (fun s => 64 - s.1) (0, a_hq1, c_hq1) ⟨by rw [show List.replicate 0 (0 : UInt8) = [] from rfl, List.append_nil]; rfl, rfl, trivial⟩ ⟨by simp, by simpa using hq1, hr, hw⟩ ?_
  clear hr hw hn hq1 hq
  rintro ⟨j, a1, c1⟩ w2 ⟨hj, hq, hr, hw⟩
  dsimp only at hj hq hr hw ⊢
  have zw := hw.size
  have hlen : (b ++ [128] ++ List.replicate j 0).length = b.length + 1 + j := by simp; omega
  refine WC.seq (WC.seq (WC.region (WL.move rfl rfl (WL.len Tryd.underlying26 rfl rfl (WL.rem64i rfl rfl (by constructor <;> omega) rfl (?_))))))
  refine WL.neq? rfl rfl rfl (fun h13 => ?_) (fun h13 => ?_)
  ·
    refine WL.nil (WX.then_normal (WC.cond_true rfl (WC.skip (WX.then_normal (WC.block (WC.region (WL.move rfl rfl (?_))))))))
    refine WL.build (e := eb) [0] Tryd.underlying26 Tryd.sizeOf5 Tryd.zeroValue5 rfl rfl rfl (by first | (simp [Value.cells]; done) | (simp [Value.cells] <;> rfl) | (simp [Value.cells, eb, ei, es, ebool, e32, e64]; done) | (simp [Value.cells] <;> (repeat' apply And.intro) <;> rfl)) (by decide) rfl ?_
    intro a_hn w_hn hn l_hn z_hn k_hn
    have zs_k_hn := k_hn.size
    replace hq := hq.pure k_hn
    replace hr := hr.pure k_hn
    replace hw := hw.pure k_hn
    refine WL.append (e := eb) info_5 rfl Tryd.underlying26 rfl rfl hq (hn.rsl.src Tryd.underlying26) (by (try simp only [List.length_append, List.length_cons, List.length_nil] at *); omega) (by intro b hb; first | (apply hS; omega) | ((try dsimp only); omega)) rfl ?_
    intro a_hq2 c_hq2 w_hq2 hq2 g_hq2 n_hq2
    have z_hq2 := g_hq2.chg.size
    have zs_g_hq2_chg := g_hq2.chg.size
    replace hr := hr.chg g_hq2.chg (by first | (intro x h1 h2; exact h2) | (intro x h0 h1 h2; exact hS x h1 h2) | (intro x h0 h1 h2; have h3 : _ = _ := h2; subst h3; exact hSR h1.1) | (intro x h1 h2; have h3 : _ = _ := h2; subst h3; assumption) | (intro x h1 h2; have h3 : _ = _ := h2; exfalso; omega) | (intro b h1 h2 h3; have h4 : _ = _ := h3; (try dsimp only at h2); exfalso; omega) | (intro h1; have h2 : _ = _ := h1; exfalso; omega) | (intro h1; have h2 : _ ≤ _ := h1; exfalso; omega) | (intros; exfalso; (try dsimp only at *); omega) | (intro b h1 h2 h3; exfalso; have h4 := h3.2; (try dsimp only at *); omega) | (intro h1; exfalso; have h4 := h1.2; (try dsimp only at *); omega) | (intro x h1 h2; exfalso; have h4 := h2.2; (try dsimp only at *); omega) | (intro x h1 h2; exact ⟨_, rfl, h2⟩) | (intro x h1 h2; have h4 := h2.1; have h5 := h2.2; exfalso; omega) | (intro x h1 h2; exact h2.1) | (intro x h1 h2; rcases h2.1 with h3 | h3; exact h3; exfalso; omega) | (intro x h1 h2; rcases h2 with h3 | h3; exact h3; exfalso; omega))
    replace hw := hw.chg g_hq2.chg (by first | (intro x h1 h2; exact h2) | (intro x h0 h1 h2; exact hS x h1 h2) | (intro x h0 h1 h2; have h3 : _ = _ := h2; subst h3; exact hSR h1.1) | (intro x h1 h2; have h3 : _ = _ := h2; subst h3; assumption) | (intro x h1 h2; have h3 : _ = _ := h2; exfalso; omega) | (intro b h1 h2 h3; have h4 : _ = _ := h3; (try dsimp only at h2); exfalso; omega) | (intro h1; have h2 : _ = _ := h1; exfalso; omega) | (intro h1; have h2 : _ ≤ _ := h1; exfalso; omega) | (intros; exfalso; (try dsimp only at *); omega) | (intro b h1 h2 h3; exfalso; have h4 := h3.2; (try dsimp only at *); omega) | (intro h1; exfalso; have h4 := h1.2; (try dsimp only at *); omega) | (intro x h1 h2; exfalso; have h4 := h2.2; (try dsimp only at *); omega) | (intro x h1 h2; exact ⟨_, rfl, h2⟩) | (intro x h1 h2; have h4 := h2.1; have h5 := h2.2; exfalso; omega) | (intro x h1 h2; exact h2.1) | (intro x h1 h2; rcases h2.1 with h3 | h3; exact h3; exfalso; omega) | (intro x h1 h2; rcases h2 with h3 | h3; exact h3; exfalso; omega))
    refine WL.assign rfl rfl (WL.nil (WX.block_normal (?_)))
    first
      | (have e1 : b ++ [128] ++ List.replicate (j + 1) 0 = b ++ [128] ++ List.replicate j 0 ++ [0] := by rw [List.replicate_succ', List.append_assoc, List.append_assoc, List.append_assoc]
         refine WX.loop_next (j + 1, a_hq2, c_hq2) ⟨?_, rfl, trivial⟩ ⟨by dsimp only; omega, ?_, hr, hw⟩ (by show _ - _ < _ - _; omega)
         ·
           dsimp only; rw [e1]; rfl
         ·
           dsimp only; rw [e1]; exact hq2)
      | (have e1 : be8 (UInt64.ofNat b.length <<< UInt64.ofNat 3) (i + 1) = be8 (UInt64.ofNat b.length <<< UInt64.ofNat 3) i ++ [((UInt64.ofNat b.length <<< UInt64.ofNat 3) >>> UInt64.ofNat (56 - 8 * i)).toUInt8] := by simp [be8, List.range_succ]
         refine WX.loop_next (i + 1, a_hq2, c_hq2) ⟨?_, rfl, ?_, trivial⟩ ⟨by dsimp only; omega, ?_, hw⟩ (by show _ - _ < _ - _; omega)
         ·
           dsimp only; rw [e1, ← List.append_assoc]; rfl
         ·
           dsimp only
           have e2 : 56 - 8 * ((i + 1 : Nat) : Int) = 56 - 8 * (i : Int) - 8 := by omega
           rw [e2]; rfl
         ·
           dsimp only; rw [e1, ← List.append_assoc]; exact hq2)
  ·
    refine WL.nil (WX.then_normal (WC.cond_false rfl (WC.exit (WX.then_exit (WX.then_exit (WX.block_here (WX.then_normal (?_))))))))
    refine WC.seq (WC.region (WL.move rfl rfl (WL.len Tryd.underlying26 rfl rfl (WL.c_i64_u64 Tryd.underlying3 Tryd.underlying44 rfl rfl (WL.num rfl rfl (n_shl64 _ _ _ _ 3 (by decide)) rfl (WL.assign rfl rfl (WL.nil (?_))))))))
    refine WX.then_normal (WC.seq (WC.seq (WC.region (WL.assign rfl rfl (WL.nil (WX.then_normal (WC.block (?_))))))))
    have hz : j = (120 - (b.length + 1) % 64) % 64 := by omega
    have hn8 : (B64 (b.length : Int)) = UInt64.ofNat b.length := by
      apply UInt64.toNat_inj.1
      rw [B64_nat (by omega)]
      simp
      omega
    rw [hn8]
    refine WC.loop (σ := Nat × Option Addr × Nat) (fun s => [(3, .slice s.2.1 (b ++ [128] ++ List.replicate j 0 ++ be8 (UInt64.ofNat b.length <<< UInt64.ofNat 3) s.1).length s.2.2), (4, v64 (UInt64.ofNat b.length <<< UInt64.ofNat 3)), (5, vi (56 - 8 * (s.1 : Int)))])
      (fun s w' => s.1 ≤ 8 ∧ Row (w.heap.size ≤ ·) w' 5 eb s.2.1 s.2.2 (b ++ [128] ++ List.replicate j 0 ++ be8 (UInt64.ofNat b.length <<< UInt64.ofNat 3) s.1) ∧ Chg Nob w w') (fun s => 8 - s.1) (0, a1, c1) ⟨by rw [show be8 (UInt64.ofNat b.length <<< UInt64.ofNat 3) 0 = [] from rfl, List.append_nil]; rfl, rfl, rfl, trivial⟩ ⟨by simp, by simpa [be8] using hq, hw⟩ ?_
    clear hr hw hq
    rintro ⟨i, a2, c2⟩ w3 ⟨hi, hq, hw⟩
    dsimp only at hi hq hw ⊢
    have zw3 := hw.size
    have hlen3 : (b ++ [128] ++ List.replicate j 0 ++ be8 (UInt64.ofNat b.length <<< UInt64.ofNat 3) i).length = b.length + 1 + j + i := by simp [be8]; omega
    refine WC.seq (WC.seq (WC.region (WL.move rfl rfl (?_))))
    refine WL.geq? rfl rfl rfl (fun h22 => ?_) (fun h22 => ?_)
    ·
      refine WL.nil (WX.then_normal (WC.cond_true rfl (WC.skip (WX.then_normal (WC.seq (WC.block (WC.region (?_))))))))
      refine WL.move rfl rfl (WL.move rfl rfl (WL.move rfl rfl (?_)))
      refine WL.shrv (56 - 8 * i) rfl rfl ⟨by omega, by omega⟩ rfl ?_
      refine WL.c_u64_u8 Tryd.underlying44 Tryd.underlying5 rfl rfl (?_)
      refine WL.build (e := eb) [((UInt64.ofNat b.length <<< UInt64.ofNat 3) >>> UInt64.ofNat (56 - 8 * i)).toUInt8] Tryd.underlying26 Tryd.sizeOf5 Tryd.zeroValue5 rfl rfl rfl (by first | (simp [Value.cells]; done) | (simp [Value.cells] <;> rfl) | (simp [Value.cells, eb, ei, es, ebool, e32, e64]; done) | (simp [Value.cells] <;> (repeat' apply And.intro) <;> rfl)) (by decide) rfl ?_
      intro a_hn w_hn hn l_hn z_hn k_hn
      have zs_k_hn := k_hn.size
      replace hq := hq.pure k_hn
      replace hw := hw.pure k_hn
      refine WL.append (e := eb) info_5 rfl Tryd.underlying26 rfl rfl hq (hn.rsl.src Tryd.underlying26) (by (try simp only [List.length_append, List.length_cons, List.length_nil] at *); omega) (by intro b hb; first | (apply hS; omega) | ((try dsimp only); omega)) rfl ?_
      intro a_hq2 c_hq2 w_hq2 hq2 g_hq2 n_hq2
      have z_hq2 := g_hq2.chg.size
      have zs_g_hq2_chg := g_hq2.chg.size
      replace hw := hw.chg g_hq2.chg (by first | (intro x h1 h2; exact h2) | (intro x h0 h1 h2; exact hS x h1 h2) | (intro x h0 h1 h2; have h3 : _ = _ := h2; subst h3; exact hSR h1.1) | (intro x h1 h2; have h3 : _ = _ := h2; subst h3; assumption) | (intro x h1 h2; have h3 : _ = _ := h2; exfalso; omega) | (intro b h1 h2 h3; have h4 : _ = _ := h3; (try dsimp only at h2); exfalso; omega) | (intro h1; have h2 : _ = _ := h1; exfalso; omega) | (intro h1; have h2 : _ ≤ _ := h1; exfalso; omega) | (intros; exfalso; (try dsimp only at *); omega) | (intro b h1 h2 h3; exfalso; have h4 := h3.2; (try dsimp only at *); omega) | (intro h1; exfalso; have h4 := h1.2; (try dsimp only at *); omega) | (intro x h1 h2; exfalso; have h4 := h2.2; (try dsimp only at *); omega) | (intro x h1 h2; exact ⟨_, rfl, h2⟩) | (intro x h1 h2; have h4 := h2.1; have h5 := h2.2; exfalso; omega) | (intro x h1 h2; exact h2.1) | (intro x h1 h2; rcases h2.1 with h3 | h3; exact h3; exfalso; omega) | (intro x h1 h2; rcases h2 with h3 | h3; exact h3; exfalso; omega))
      refine WL.assign rfl rfl (WL.nil (WX.block_normal (WX.then_normal (WC.region (WL.move rfl rfl (WL.sub64 rfl rfl (by first | omega | (constructor <;> omega)) rfl (WL.assign rfl rfl (?_))))))))
      refine WL.nil (?_)
      first
        | (have e1 : b ++ [128] ++ List.replicate (j + 1) 0 = b ++ [128] ++ List.replicate j 0 ++ [0] := by rw [List.replicate_succ', List.append_assoc, List.append_assoc, List.append_assoc]
           refine WX.loop_next (j + 1, a_hq2, c_hq2) ⟨?_, rfl, trivial⟩ ⟨by dsimp only; omega, ?_, hr, hw⟩ (by show _ - _ < _ - _; omega)
           ·
             dsimp only; rw [e1]; rfl
           ·
             dsimp only; rw [e1]; exact hq2)
        | (have e1 : be8 (UInt64.ofNat b.length <<< UInt64.ofNat 3) (i + 1) = be8 (UInt64.ofNat b.length <<< UInt64.ofNat 3) i ++ [((UInt64.ofNat b.length <<< UInt64.ofNat 3) >>> UInt64.ofNat (56 - 8 * i)).toUInt8] := by simp [be8, List.range_succ]
           refine WX.loop_next (i + 1, a_hq2, c_hq2) ⟨?_, rfl, ?_, trivial⟩ ⟨by dsimp only; omega, ?_, hw⟩ (by show _ - _ < _ - _; omega)
           ·
             dsimp only; rw [e1, ← List.append_assoc]; rfl
           ·
             dsimp only
             have e2 : 56 - 8 * ((i + 1 : Nat) : Int) = 56 - 8 * (i : Int) - 8 := by omega
             rw [e2]; rfl
           ·
             dsimp only; rw [e1, ← List.append_assoc]; exact hq2)
    ·
      refine WL.nil (WX.then_normal (WC.cond_false rfl (WC.exit (WX.then_exit (WX.then_exit (WX.block_here (WX.then_normal (?_))))))))
      refine WC.seq (WC.region (WL.move rfl rfl (WL.assign rfl rfl (WL.nil (WX.then_normal (WC.ret (?_)))))))
      refine WX.ret1 (.inl rfl) Tryd.results105 rfl ?_
      have hi8 : i = 8 := by omega
      have e1 : padded b = b ++ [128] ++ List.replicate j 0 ++ be8 (UInt64.ofNat b.length <<< UInt64.ofNat 3) i := by rw [hi8, hz]; rfl
      rw [e1]
      exact ⟨_, rfl, ⟨a2, c2, rfl, hq⟩, hw⟩
end Go.Proofs.YtjeldcjchipdgaaDoor
namespace Go.Proofs.YtjeldcjchipdgaaDoor
open Go.RowKit Go.HL
set_option maxRecDepth 100000

/-! many sums at once: lanes of 64 bits in one number -/
def lanes (f : Nat → Nat) : Nat → Nat
  | 0 => 0
  | n + 1 => 2 ^ (64 * n) * f n + lanes f n
theorem lanes_lt {f : Nat → Nat} (h : ∀ i, f i < 2 ^ 64) (n : Nat) : lanes f n < 2 ^ (64 * n) := by
  induction n with
  | zero => exact Nat.one_pos
  | succ n ih =>
    have h1 := h n
    rw [lanes, show 64 * (n + 1) = 64 * n + 64 from by omega, Nat.pow_add]
    calc 2 ^ (64 * n) * f n + lanes f n < 2 ^ (64 * n) * f n + 2 ^ (64 * n) := by omega
      _ = 2 ^ (64 * n) * (f n + 1) := by rw [Nat.mul_add, Nat.mul_one]
      _ ≤ 2 ^ (64 * n) * 2 ^ 64 := Nat.mul_le_mul_left _ h1
theorem lanes_bit {f : Nat → Nat} (h : ∀ i, f i < 2 ^ 64) (n j : Nat) : (lanes f n).testBit j = (decide (j / 64 < n) && (f (j / 64)).testBit (j % 64)) := by
  induction n with
  | zero => simp [lanes]
  | succ n ih =>
    rw [lanes, Nat.testBit_two_pow_mul_add _ (lanes_lt h n), ih]
    by_cases h1 : j < 64 * n
    · have h2 : j / 64 < n := by omega
      have h3 : j / 64 < n + 1 := by omega
      rw [if_pos h1, decide_eq_true h2, decide_eq_true h3]
    · rw [if_neg h1]
      by_cases h2 : j < 64 * n + 64
      · have h3 : j / 64 = n := by omega
        have h4 : j - 64 * n = j % 64 := by omega
        rw [h3, h4, decide_eq_true (by omega), Bool.true_and]
      · have h3 : ¬ j / 64 < n + 1 := by omega
        rw [decide_eq_false h3, Bool.false_and]
        exact Nat.testBit_lt_two_pow (Nat.lt_of_lt_of_le (h n) (Nat.pow_le_pow_right (by decide) (by omega)))
theorem lanes_ext {X : Nat} {f : Nat → Nat} (h : ∀ i, f i < 2 ^ 64) {n : Nat} (hx : ∀ j, X.testBit j = (decide (j / 64 < n) && (f (j / 64)).testBit (j % 64))) : X = lanes f n :=
  Nat.eq_of_testBit_eq fun j => by rw [hx, lanes_bit h]
theorem lanes_xor {f g : Nat → Nat} (hf : ∀ i, f i < 2 ^ 64) (hg : ∀ i, g i < 2 ^ 64) (n : Nat) : lanes f n ^^^ lanes g n = lanes (fun i => f i ^^^ g i) n := by
  refine lanes_ext (fun i => Nat.xor_lt_two_pow (hf i) (hg i)) fun j => ?_
  rw [Nat.testBit_xor, lanes_bit hf, lanes_bit hg, Nat.testBit_xor]
  cases decide (j / 64 < n) <;> simp
theorem lanes_and {f g : Nat → Nat} (hf : ∀ i, f i < 2 ^ 64) (hg : ∀ i, g i < 2 ^ 64) (n : Nat) : lanes f n &&& lanes g n = lanes (fun i => f i &&& g i) n := by
  refine lanes_ext (fun i => Nat.and_lt_two_pow _ (hg i)) fun j => ?_
  rw [Nat.testBit_and, lanes_bit hf, lanes_bit hg, Nat.testBit_and]
  cases decide (j / 64 < n) <;> simp
theorem lanes_shr {f : Nat → Nat} (hf : ∀ i, f i < 2 ^ 64) {s m : Nat} (hm : m < 2 ^ (64 - s)) (hs : s ≤ 64) (n : Nat) : (lanes f n >>> s) &&& lanes (fun _ => m) n = lanes (fun i => (f i >>> s) &&& m) n := by
  have hm2 : m < 2 ^ 64 := Nat.lt_of_lt_of_le hm (Nat.pow_le_pow_right (by decide) (by omega))
  refine lanes_ext (fun i => Nat.and_lt_two_pow _ hm2) fun j => ?_
  rw [Nat.testBit_and, Nat.testBit_shiftRight, lanes_bit hf, lanes_bit (fun _ => hm2), Nat.testBit_and, Nat.testBit_shiftRight]
  by_cases hj : j % 64 + s < 64
  · rw [show (s + j) / 64 = j / 64 from by omega, show (s + j) % 64 = s + j % 64 from by omega]
    cases decide (j / 64 < n) <;> simp
  · have : m.testBit (j % 64) = false := Nat.testBit_lt_two_pow (Nat.lt_of_lt_of_le hm (Nat.pow_le_pow_right (by decide) (by omega)))
    rw [this]
    simp
theorem lanes_add (f g : Nat → Nat) (n : Nat) : lanes f n + lanes g n = lanes (fun i => f i + g i) n := by
  induction n with
  | zero => rfl
  | succ n ih => rw [lanes, lanes, lanes, ← ih, Nat.mul_add]; omega
theorem lanes_mul (f : Nat → Nat) (c n : Nat) : c * lanes f n = lanes (fun i => c * f i) n := by
  induction n with
  | zero => rfl
  | succ n ih => rw [lanes, lanes, ← ih, Nat.mul_add, Nat.mul_left_comm]
theorem lanes_const (c n : Nat) : c * lanes (fun _ => 1) n = lanes (fun _ => c) n := by rw [lanes_mul]; simp
theorem lanes_congr {f g : Nat → Nat} {n : Nat} (h : ∀ i, i < n → f i = g i) : lanes f n = lanes g n := by
  induction n with
  | zero => rfl
  | succ n ih => rw [lanes, lanes, h n (by omega), ih (fun i hi => h i (by omega))]
/-! words of 32 bits in lanes -/
def one (n : Nat) : Nat := (2 ^ (64 * n) - 1) / 18446744073709551615
theorem one_lanes (n : Nat) : one n = lanes (fun _ => 1) n := by
  have h : 18446744073709551615 * lanes (fun _ => 1) n = 2 ^ (64 * n) - 1 := by
    induction n with
    | zero => rfl
    | succ n ih =>
      have h1 : 1 ≤ 2 ^ (64 * n) := Nat.two_pow_pos _
      rw [lanes, show 64 * (n + 1) = 64 * n + 64 from by omega, Nat.pow_add, Nat.mul_add, ih]
      omega
  rw [one, ← h, Nat.mul_div_cancel_left _ (by decide)]
structure Rep (n X : Nat) (f : Nat → UInt32) : Prop where
  eq : X = lanes (fun i => (f i).toNat) n
section
variable {n X Y : Nat} {f g : Nat → UInt32}
theorem u32_lt (f : Nat → UInt32) : ∀ i, (f i).toNat < 2 ^ 64 := fun i => Nat.lt_trans (f i).toNat_lt (by decide)
theorem one_const (c n : Nat) : c * one n = lanes (fun _ => c) n := by rw [one_lanes, lanes_const]
theorem Rep.const (c : UInt32) (n : Nat) : Rep n (c.toNat * one n) (fun _ => c) := ⟨one_const _ _⟩
theorem Rep.xor (hx : Rep n X f) (hy : Rep n Y g) : Rep n (X ^^^ Y) (fun i => f i ^^^ g i) := ⟨by
  rw [hx.eq, hy.eq, lanes_xor (u32_lt f) (u32_lt g)]
  exact lanes_congr fun i _ => (UInt32.toNat_xor _ _).symm⟩
theorem Rep.and (hx : Rep n X f) (hy : Rep n Y g) : Rep n (X &&& Y) (fun i => f i &&& g i) := ⟨by
  rw [hx.eq, hy.eq, lanes_and (u32_lt f) (u32_lt g)]
  exact lanes_congr fun i _ => (UInt32.toNat_and _ _).symm⟩
theorem Rep.not (hx : Rep n X f) : Rep n (X ^^^ 4294967295 * one n) (fun i => ~~~ f i) := ⟨by
  have h := hx.xor (Rep.const 4294967295 n)
  rw [show (4294967295 : UInt32).toNat = 4294967295 from rfl] at h
  rw [h.eq]
  refine lanes_congr fun i _ => congrArg UInt32.toNat ?_
  apply UInt32.toBitVec_inj.1
  show (f i).toBitVec ^^^ (4294967295 : BitVec 32) = ~~~ (f i).toBitVec
  have : (4294967295 : BitVec 32) = BitVec.allOnes 32 := by decide
  rw [this, BitVec.xor_allOnes]⟩
theorem lanes_mask {F : Nat → Nat} (hF : ∀ i, F i < 2 ^ 64) (n : Nat) : lanes F n &&& 4294967295 * one n = lanes (fun i => F i % 2 ^ 32) n := by
  rw [one_const, lanes_and hF (fun _ => by decide)]
  exact lanes_congr fun i _ => by
    show F i &&& (2 ^ 32 - 1) = _
    rw [Nat.and_two_pow_sub_one_eq_mod]
def addN (n X Y : Nat) : Nat := (X + Y) &&& 4294967295 * one n
theorem Rep.add (hx : Rep n X f) (hy : Rep n Y g) : Rep n (addN n X Y) (fun i => f i + g i) := ⟨by
  rw [addN, hx.eq, hy.eq, lanes_add, lanes_mask (fun i => by have := (f i).toNat_lt; have := (g i).toNat_lt; omega)]
  exact lanes_congr fun i _ => (UInt32.toNat_add _ _).symm⟩
def rotN (n X s : Nat) : Nat := ((X * 4294967297) >>> s) &&& 4294967295 * one n
theorem rot_nat (x : UInt32) {s : Nat} (h : 1 ≤ s ∧ s ≤ 31) : (rotr x s).toNat = ((4294967297 * x.toNat) >>> s) &&& 4294967295 := by
  have hx := x.toNat_lt
  have e1 : (rotr x s).toNat = (x.toNat <<< (32 - s)) % 2 ^ 32 ||| x.toNat >>> s := by
    rw [rotr, UInt32.toNat_or, UInt32.toNat_shiftLeft, UInt32.toNat_shiftRight]
    have a1 : (UInt32.ofNat (32 - s)).toNat % 32 = 32 - s := by rw [UInt32.toNat_ofNat']; omega
    have a2 : (UInt32.ofNat s).toNat % 32 = s := by rw [UInt32.toNat_ofNat']; omega
    rw [a1, a2]
  rw [e1]
  apply Nat.eq_of_testBit_eq
  intro j
  rw [Nat.testBit_or, Nat.testBit_mod_two_pow, Nat.testBit_shiftLeft, Nat.testBit_shiftRight, Nat.testBit_and, Nat.testBit_shiftRight, show 4294967297 * x.toNat = 2 ^ 32 * x.toNat + x.toNat from by omega, Nat.testBit_two_pow_mul_add _ hx, show (4294967295 : Nat) = 2 ^ 32 - 1 from rfl, Nat.testBit_two_pow_sub_one]
  by_cases hj : j < 32
  · by_cases h2 : s + j < 32
    · rw [if_pos h2]
      have : ¬ 32 - s ≤ j := by omega
      simp [hj, this]
    · rw [if_neg h2]
      have h3 : 32 - s ≤ j := by omega
      have h4 : x.toNat.testBit (s + j) = false := Nat.testBit_lt_two_pow (Nat.lt_of_lt_of_le hx (Nat.pow_le_pow_right (by decide) (by omega)))
      rw [h4, show s + j - 32 = j - (32 - s) from by omega]
      simp [hj, h3]
  · have h4 : x.toNat.testBit (s + j) = false := Nat.testBit_lt_two_pow (Nat.lt_of_lt_of_le hx (Nat.pow_le_pow_right (by decide) (by omega)))
    simp [hj, h4]
theorem Rep.rot (hx : Rep n X f) {s : Nat} (h : 1 ≤ s ∧ s ≤ 31) : Rep n (rotN n X s) (fun i => rotr (f i) s) := ⟨by
  rw [rotN, Nat.mul_comm, hx.eq, lanes_mul, one_const, lanes_shr (fun i => by have := (f i).toNat_lt; omega) (Nat.lt_of_lt_of_le (show 4294967295 < 2 ^ 33 by decide) (Nat.pow_le_pow_right (by decide) (by omega))) (by omega)]
  exact lanes_congr fun i _ => (rot_nat (f i) h).symm⟩
def shrN (n X s : Nat) : Nat := (X >>> s) &&& (2 ^ (32 - s) - 1) * one n
theorem Rep.shr (hx : Rep n X f) {s : Nat} (h : 1 ≤ s ∧ s ≤ 31) : Rep n (shrN n X s) (fun i => f i >>> UInt32.ofNat s) := ⟨by
  rw [shrN, hx.eq, one_const, lanes_shr (u32_lt f) (Nat.lt_of_lt_of_le (show 2 ^ (32 - s) - 1 < 2 ^ (32 - s) from Nat.sub_lt (Nat.two_pow_pos _) (by decide)) (Nat.pow_le_pow_right (by decide) (by omega))) (by omega)]
  refine lanes_congr fun i _ => ?_
  have a2 : (UInt32.ofNat s).toNat % 32 = s := by rw [UInt32.toNat_ofNat']; omega
  rw [UInt32.toNat_shiftRight, a2, Nat.and_two_pow_sub_one_eq_mod]
  refine Nat.mod_eq_of_lt ?_
  have := (f i).toNat_lt
  rw [Nat.shiftRight_eq_div_pow]
  refine Nat.div_lt_of_lt_mul ?_
  rw [← Nat.pow_add, show s + (32 - s) = 32 from by omega]
  exact this⟩
end
/-! the sum's rounds in lanes -/
structure N8 where
  a : Nat
  b : Nat
  c : Nat
  d : Nat
  e : Nat
  f : Nat
  g : Nat
  h : Nat
structure Rep8 (n : Nat) (v : N8) (V : Nat → V8) : Prop where
  a : Rep n v.a (fun i => (V i).a)
  b : Rep n v.b (fun i => (V i).b)
  c : Rep n v.c (fun i => (V i).c)
  d : Rep n v.d (fun i => (V i).d)
  e : Rep n v.e (fun i => (V i).e)
  f : Rep n v.f (fun i => (V i).f)
  g : Rep n v.g (fun i => (V i).g)
  h : Rep n v.h (fun i => (V i).h)
def nextN (n : Nat) (ws : List Nat) : Nat :=
  addN n (addN n (addN n (ws.getD 15 0) ((rotN n (ws.getD 14 0) 7 ^^^ rotN n (ws.getD 14 0) 18) ^^^ shrN n (ws.getD 14 0) 3)) (ws.getD 6 0)) ((rotN n (ws.getD 1 0) 17 ^^^ rotN n (ws.getD 1 0) 19) ^^^ shrN n (ws.getD 1 0) 10)
/-- the schedule, the last word first -/
def schN (n : Nat) (ws : List Nat) : Nat → List Nat
  | 0 => ws
  | t + 1 => nextN n (schN n ws t) :: schN n ws t
structure RepL (n : Nat) (xs : List Nat) (F : Nat → List UInt32) : Prop where
  at_ : ∀ j, j < xs.length → Rep n (xs.getD j 0) (fun i => (F i).getD j 0)
  len : ∀ i, (F i).length = xs.length
theorem RepL.nil (n : Nat) : RepL n [] (fun _ => []) := ⟨fun j hj => absurd hj (Nat.not_lt_zero j), fun _ => rfl⟩
theorem RepL.cons {n : Nat} {xs : List Nat} {F : Nat → List UInt32} (h : RepL n xs F) {x : Nat} {f : Nat → UInt32} (hx : Rep n x f) : RepL n (x :: xs) (fun i => f i :: F i) := by
  refine ⟨fun j hj => ?_, fun i => congrArg (· + 1) (h.len i)⟩
  cases j with
  | zero => exact hx
  | succ j => exact h.at_ j (Nat.lt_of_succ_lt_succ hj)
theorem schN_len (n : Nat) (ws : List Nat) (t : Nat) : (schN n ws t).length = ws.length + t := by
  induction t with
  | zero => rfl
  | succ t ih => rw [schN, List.length_cons, ih]; rfl
def revS (b : List UInt8) (t : Nat) : List UInt32 := (sch b t).reverse
theorem lenS (b : List UInt8) (t : Nat) : (sch b t).length = t := by
  induction t with
  | zero => rfl
  | succ t ih => rw [sch, List.length_append, ih]; rfl
theorem revS_next (b : List UInt8) (t : Nat) : revS b (t + 1) = nextW b (sch b t) t :: revS b t := by rw [revS, sch, List.reverse_append]; rfl
theorem revS_at (b : List UInt8) {t j : Nat} (h : j < t) : (sch b t).getD (t - 1 - j) 0 = (revS b t).getD j 0 := by
  rw [revS, List.getD_eq_getElem?_getD, List.getD_eq_getElem?_getD, List.getElem?_reverse (by rw [lenS]; exact h), lenS]
theorem schN_rep {n : Nat} {ws : List Nat} {b : Nat → List UInt8} (hl : ws.length = 16) (h : RepL n ws (fun i => revS (b i) 16)) (t : Nat) (ht : t ≤ 48) : RepL n (schN n ws t) (fun i => revS (b i) (16 + t)) := by
  induction t with
  | zero => exact h
  | succ t ih =>
    have ih := ih (by omega)
    have hlen : (schN n ws t).length = 16 + t := by rw [schN_len, hl]
    have a16 := ih.at_ 15 (by omega)
    have a15 := ih.at_ 14 (by omega)
    have a7 := ih.at_ 6 (by omega)
    have a2 := ih.at_ 1 (by omega)
    rw [schN]
    have hx := ((a16.add (((a15.rot (s := 7) (by omega)).xor (a15.rot (s := 18) (by omega))).xor (a15.shr (s := 3) (by omega)))).add a7).add (((a2.rot (s := 17) (by omega)).xor (a2.rot (s := 19) (by omega))).xor (a2.shr (s := 10) (by omega)))
    have hs := ih.cons hx
    have hF : (fun i => revS (b i) (16 + (t + 1))) = fun i => nextW (b i) (sch (b i) (16 + t)) (16 + t) :: revS (b i) (16 + t) := funext fun i => by rw [← Nat.add_assoc, revS_next]
    rw [hF]
    have hN : (fun i => nextW (b i) (sch (b i) (16 + t)) (16 + t)) = fun i => (revS (b i) (16 + t)).getD 15 0 + ((rotr ((revS (b i) (16 + t)).getD 14 0) 7 ^^^ rotr ((revS (b i) (16 + t)).getD 14 0) 18) ^^^ (revS (b i) (16 + t)).getD 14 0 >>> UInt32.ofNat 3) + (revS (b i) (16 + t)).getD 6 0 + ((rotr ((revS (b i) (16 + t)).getD 1 0) 17 ^^^ rotr ((revS (b i) (16 + t)).getD 1 0) 19) ^^^ (revS (b i) (16 + t)).getD 1 0 >>> UInt32.ofNat 10) := funext fun i => by
      rw [nextW, if_neg (by omega), ← revS_at (b i) (t := 16 + t) (j := 15) (by omega), ← revS_at (b i) (t := 16 + t) (j := 14) (by omega), ← revS_at (b i) (t := 16 + t) (j := 6) (by omega), ← revS_at (b i) (t := 16 + t) (j := 1) (by omega)]
      rfl
    have hs2 := ih.cons (f := fun i => nextW (b i) (sch (b i) (16 + t)) (16 + t)) (x := nextN n (schN n ws t)) (by rw [hN]; exact hx)
    exact hs2
def roundN (n : Nat) (v : N8) (k : UInt32) (w : Nat) : N8 :=
  let t1 := addN n (addN n (addN n (addN n v.h ((rotN n v.e 6 ^^^ rotN n v.e 11) ^^^ rotN n v.e 25)) ((v.e &&& v.f) ^^^ ((v.e ^^^ 4294967295 * one n) &&& v.g))) (k.toNat * one n)) w
  let t2 := addN n ((rotN n v.a 2 ^^^ rotN n v.a 13) ^^^ rotN n v.a 22) (((v.a &&& v.b) ^^^ (v.a &&& v.c)) ^^^ (v.b &&& v.c))
  ⟨addN n t1 t2, v.a, v.b, v.c, addN n v.d t1, v.e, v.f, v.g⟩
theorem roundN_rep {n : Nat} {v : N8} {V : Nat → V8} (h : Rep8 n v V) (k : UInt32) {w : Nat} {W : Nat → UInt32} (hw : Rep n w W) : Rep8 n (roundN n v k w) (fun i => round1 (V i) k (W i)) := by
  have t1 := (((h.h.add (((h.e.rot (s := 6) (by omega)).xor (h.e.rot (s := 11) (by omega))).xor (h.e.rot (s := 25) (by omega)))).add ((h.e.and h.f).xor (h.e.not.and h.g))).add (Rep.const k n)).add hw
  have t2 := (((h.a.rot (s := 2) (by omega)).xor (h.a.rot (s := 13) (by omega))).xor (h.a.rot (s := 22) (by omega))).add (((h.a.and h.b).xor (h.a.and h.c)).xor (h.b.and h.c))
  exact ⟨t1.add t2, h.a, h.b, h.c, h.d.add t1, h.e, h.f, h.g⟩
def roundsL (n : Nat) (v : N8) : List Nat → N8
  | [] => v
  | w :: r => roundN n (roundsL n v r) (K256.getD r.length 0) w
theorem roundsN_app (w u : List UInt32) (V : V8) (t : Nat) (h : t ≤ w.length) : roundsN (w ++ u) V t = roundsN w V t := by
  induction t with
  | zero => rfl
  | succ t ih =>
    rw [roundsN, roundsN, ih (by omega)]
    congr 1
    rw [List.getD_eq_getElem?_getD, List.getD_eq_getElem?_getD, List.getElem?_append_left (by omega)]
theorem roundsL_rep {n : Nat} {v : N8} {V : Nat → V8} (h : Rep8 n v V) : ∀ (w : List Nat) (W : Nat → List UInt32), RepL n w W → Rep8 n (roundsL n v w) (fun i => roundsN (W i).reverse (V i) w.length)
  | [], _, _ => h
  | x :: r, W, hw => by
    have hr : RepL n r (fun i => (W i).tail) := ⟨fun j hj => by
      refine ⟨(hw.at_ (j + 1) (Nat.succ_lt_succ hj)).eq.trans (lanes_congr fun i _ => ?_)⟩
      rw [List.getD_eq_getElem?_getD, List.getD_eq_getElem?_getD, List.getElem?_tail], fun i => by rw [List.length_tail, hw.len]; rfl⟩
    have ih := roundsL_rep h r _ hr
    have h0 := hw.at_ 0 (Nat.succ_pos _)
    have h1 := roundN_rep ih (K256.getD r.length 0) (w := x) (W := fun i => (W i).getD 0 0) h0
    have hW : ∀ i, ∃ y, W i = y :: (W i).tail ∧ (W i).getD 0 0 = y := fun i => by
      have hl := hw.len i
      cases hWi : W i with
      | nil => rw [hWi] at hl; cases hl
      | cons y s => exact ⟨y, rfl, rfl⟩
    have hF : (fun i => roundsN (W i).reverse (V i) (x :: r).length) = fun i => round1 (roundsN ((W i).tail).reverse (V i) r.length) (K256.getD r.length 0) ((W i).getD 0 0) := funext fun i => by
      obtain ⟨y, e1, e2⟩ := hW i
      have hl : ((W i).tail).reverse.length = r.length := by rw [List.length_reverse, hr.len]
      rw [e2, e1, List.reverse_cons, List.tail_cons, List.length_cons, roundsN, roundsN_app _ _ _ _ (by omega)]
      congr 1
      rw [← hl, List.getD_eq_getElem?_getD, List.getElem?_append_right (Nat.le_refl _), Nat.sub_self]
      rfl
    rw [hF]
    exact h1
def st0N (n : Nat) : N8 := ⟨st0.a.toNat * one n, st0.b.toNat * one n, st0.c.toNat * one n, st0.d.toNat * one n, st0.e.toNat * one n, st0.f.toNat * one n, st0.g.toNat * one n, st0.h.toNat * one n⟩
/-- the first word of the sum of a message of one block -/
def firstN (n : Nat) (ws : List Nat) : Nat := addN n (st0.a.toNat * one n) (roundsL n (st0N n) (schN n ws 48)).a
theorem firstN_rep {n : Nat} {ws : List Nat} {b : Nat → List UInt8} (hl : ws.length = 16) (h : RepL n ws (fun i => revS (b i) 16)) : Rep n (firstN n ws) (fun i => (mix st0 (b i)).a) := by
  have h1 := schN_rep hl h 48 (by omega)
  have h0 : Rep8 n (st0N n) (fun _ => st0) := ⟨Rep.const _ n, Rep.const _ n, Rep.const _ n, Rep.const _ n, Rep.const _ n, Rep.const _ n, Rep.const _ n, Rep.const _ n⟩
  have h2 := roundsL_rep h0 _ _ h1
  have hF : (fun i => roundsN (revS (b i) (16 + 48)).reverse st0 (schN n ws 48).length) = fun i => roundsN (sch (b i) 64) st0 64 := funext fun i => by rw [schN_len, hl, revS, List.reverse_reverse]
  rw [hF] at h2
  exact (Rep.const st0.a n).add h2.a
/-- no lane is the word z -/
def noneIs (n X : Nat) (z : UInt32) : Bool := ((((X ^^^ z.toNat * one n) + 4294967295 * one n) >>> 32) &&& 1 * one n) == 1 * one n
theorem lanes_at {f g : Nat → Nat} (hf : ∀ i, f i < 2 ^ 64) (hg : ∀ i, g i < 2 ^ 64) {n : Nat} (h : lanes f n = lanes g n) : ∀ i, i < n → f i = g i := by
  intro i hi
  apply Nat.eq_of_testBit_eq
  intro j
  by_cases hj : j < 64
  · have h1 := lanes_bit hf n (64 * i + j)
    rw [h, lanes_bit hg, show (64 * i + j) / 64 = i from by omega, show (64 * i + j) % 64 = j from by omega, decide_eq_true hi, Bool.true_and, Bool.true_and] at h1
    exact h1.symm
  · rw [Nat.testBit_lt_two_pow (Nat.lt_of_lt_of_le (hf i) (Nat.pow_le_pow_right (by decide) (by omega))), Nat.testBit_lt_two_pow (Nat.lt_of_lt_of_le (hg i) (Nat.pow_le_pow_right (by decide) (by omega)))]
theorem noneIs_of {n X : Nat} {f : Nat → UInt32} {z : UInt32} (hx : Rep n X f) (h : noneIs n X z = true) : ∀ i, i < n → f i ≠ z := by
  intro i hi e
  have h1 := eq_of_beq h
  have h2 := (hx.xor (Rep.const z n)).eq
  have hb : ∀ i, (f i ^^^ z).toNat + 4294967295 < 2 ^ 64 := fun i => by have := (f i ^^^ z).toNat_lt; omega
  rw [h2, show 4294967295 * one n = lanes (fun _ => 4294967295) n from one_const _ _, lanes_add, show 1 * one n = lanes (fun _ => 1) n from one_const _ _, lanes_shr hb (by decide) (by omega)] at h1
  have h3 := lanes_at (fun i => Nat.lt_of_le_of_lt Nat.and_le_right (by decide)) (fun _ => by decide) h1 i hi
  rw [e, show z ^^^ z = (0 : UInt32) from by simp] at h3
  exact absurd h3 (by decide)
theorem lanes_app (f : Nat → Nat) (a b : Nat) : lanes f (a + b) = lanes f a + 2 ^ (64 * a) * lanes (fun i => f (a + i)) b := by
  induction b with
  | zero => simp [lanes]
  | succ b ih =>
    have e : 2 ^ (64 * (a + b)) = 2 ^ (64 * a) * 2 ^ (64 * b) := by rw [Nat.mul_add, Nat.pow_add]
    rw [← Nat.add_assoc, lanes, lanes, ih, e, Nat.mul_add, Nat.mul_assoc]
    omega
theorem sch16_at (b : List UInt8) : ∀ t, t ≤ 16 → ∀ j, j < t → (sch b t).getD j 0 = wordAt b j
  | 0, _, j, h => absurd h (Nat.not_lt_zero j)
  | t + 1, ht, j, hj => by
    rw [sch, List.getD_eq_getElem?_getD]
    by_cases h : j < t
    · rw [List.getElem?_append_left (by rw [lenS]; exact h), ← List.getD_eq_getElem?_getD]
      exact sch16_at b t (by omega) j h
    · have e : j = t := by omega
      subst e
      rw [List.getElem?_append_right (by rw [lenS]; exact Nat.le_refl _), lenS, Nat.sub_self]
      show nextW b (sch b j) j = _
      rw [nextW, if_pos (by omega)]
end Go.Proofs.YtjeldcjchipdgaaDoor
namespace Go.HL
open Go.RowKit
section
variable {P : Program} {ops : Array Oper} {Q : Exit → Act → World → Prop} {N : Nat} {E : Env} {w : World} {rest : List Oper}
  {d : Nat} {ty : TypeId} {pos : String} {af : Array Edge} {t tb T : TypeId}
/-- an array whose elements are all written out, each of one cell -/
theorem WL.buildArr {n : Nat} {ps : List (Nat × Operand)} {z : Value} (vs : List Value) (ht : P.underlying t = some (.array n T)) (hs : ∀ w, (sizeOf T).run P w = .ok 1 w) (hz : ∀ w, (zeroValue t).run P w = .ok z w) (hzs : z.cells.size = n)
    (hx : evp E 0 ps = some vs) (hn : vs.length = n) (hv1 : ∀ v ∈ vs, v.cells = #[v]) (hd : Nat.blt d N = true)
    (h : WL P ops Q N rest ((d, .agg vs.toArray) :: E) w) : WL P ops Q N (⟨some d, .build t ps.toArray, ty, pos, af, none⟩ :: rest) E w :=
  WL.run _ w (fun a ha => by
    obtain ⟨h1, h2⟩ := evp_eval ha hx
    have hf := fill_enum 1 vs 0 z.cells (fun v hv => by rw [hv1 v hv]; rfl) (by rw [hzs, ← hn]; omega)
    have hflat : vs.flatMap (·.cells.toList) = vs := by
      clear hx hn h h2 h1 hf
      induction vs with
      | nil => rfl
      | cons v r ih => rw [List.flatMap_cons, hv1 v (by simp), ih (fun u hu => hv1 u (by simp [hu]))]; rfl
    rw [hflat] at hf
    simp only [Nat.zero_mul, List.take_zero, List.nil_append, Nat.mul_one] at hf
    simp [execOp, h1, Instr.build, hz, run_underlying ht, hs, hf]) hd h
theorem map_at {α β : Type} {xs : List α} {j : Nat} {x : α} (f : α → β) (h : xs[j]? = some x) : (xs.map f)[j]? = some (f x) := by simp [h]
end
end Go.HL
namespace Go.Proofs.YtjeldcjchipdgaaDoor
open Go.RowKit Go.HL
set_option maxRecDepth 100000

def V8.cells (v : V8) : List Value := [v32 v.a, v32 v.b, v32 v.c, v32 v.d, v32 v.e, v32 v.f, v32 v.g, v32 v.h]
theorem begin_calls (w : World) : Calls Tryd.prog 103 [].toArray w (Ret fun v w' => v = .agg (st0.cells).toArray ∧ Chg Nob w w') := by
  have hw := Chg.refl Nob w
  refine Calls.of_WC Tryd.func103 rfl Tryd.ntmps103 (by simp) ?_
  refine WC.seq (WC.region (?_))
  refine WL.alloc Tryd.zeroValue161 rfl ?_
  intro g_1 w_1 hge_1 hlt_1 hb_1 k_1
  have zs_k_1 := k_1.size
  replace hw := hw.pure k_1
  refine WL.nil (WX.then_normal (WC.seq (WC.region (WL.bld rfl (bld_161_0_1_2_3_4_5_6_7 _ _ _ _ _ _ _ _) rfl (?_)))))
  refine WL.stores Tryd.sizeOf161 hb_1 rfl rfl (by first | (simp; done) | (simp; omega) | rfl) (by first | exact Enc.one _ _ | (intro u hu; obtain ⟨x, _, rfl⟩ := List.mem_map.1 hu; rfl) | (simp [Value.oneCell']; done) | (simp [Value.oneCell', Value.cells]; done)) (by first | (simp; done) | (simp; omega) | (simp [Value.cells]; done) | (simp [Value.cells]; omega) | exact Nat.le_of_ble_eq_true rfl) rfl ?_
  intro w_2 hs_2 hn_2 k_2
  have zs_k_2 := k_2.size
  replace hw := hw.chg k_2 (by first | (intro x h1 h2; exact h2) | (intro x h0 h1 h2; exact hS x h1 h2) | (intro x h0 h1 h2; have h3 : _ = _ := h2; subst h3; exact hSR h1.1) | (intro x h1 h2; have h3 : _ = _ := h2; subst h3; assumption) | (intro x h1 h2; have h3 : _ = _ := h2; exfalso; omega) | (intro b h1 h2 h3; have h4 : _ = _ := h3; (try dsimp only at h2); exfalso; omega) | (intro h1; have h2 : _ = _ := h1; exfalso; omega) | (intro h1; have h2 : _ ≤ _ := h1; exfalso; omega) | (intros; exfalso; (try dsimp only at *); omega) | (intro b h1 h2 h3; exfalso; have h4 := h3.2; (try dsimp only at *); omega) | (intro h1; exfalso; have h4 := h1.2; (try dsimp only at *); omega) | (intro x h1 h2; exfalso; have h4 := h2.2; (try dsimp only at *); omega) | (intro x h1 h2; exact ⟨_, rfl, h2⟩) | (intro x h1 h2; have h4 := h2.1; have h5 := h2.2; exfalso; omega) | (intro x h1 h2; exact h2.1) | (intro x h1 h2; rcases h2.1 with h3 | h3; exact h3; exfalso; omega) | (intro x h1 h2; rcases h2 with h3 | h3; exact h3; exfalso; omega))
  replace hb_1 := hn_2
  refine WL.nil (WX.then_normal (WC.ret (?_)))
  refine WX.ret1c (.inl rfl) Tryd.results103 Tryd.isAgg161 Tryd.sizeOf161 hb_1 rfl (by first | (simp; done) | (simp; omega) | rfl) ?_
  exact ⟨_, rfl, rfl, hw⟩
theorem rounds_calls (w : World) : Calls Tryd.prog 104 [].toArray w (Ret fun v w' => v = .agg (K256.map v32).toArray ∧ Chg Nob w w') := by
  have hw := Chg.refl Nob w
  refine Calls.of_WC Tryd.func104 rfl Tryd.ntmps104 (by simp) ?_
  refine WC.seq (WC.region (?_))
  refine WL.alloc Tryd.zeroValue163 rfl ?_
  intro g_1 w_1 hge_1 hlt_1 hb_1 k_1
  have zs_k_1 := k_1.size
  replace hw := hw.pure k_1
  refine WL.nil (WX.then_normal (WC.seq (WC.region (?_))))
  refine WL.buildArr (K256.map v32) Tryd.underlying163 Tryd.sizeOf159 Tryd.zeroValue163 rfl rfl rfl (by intro v hv; obtain ⟨x, _, rfl⟩ := List.mem_map.1 hv; rfl) rfl ?_
  refine WL.stores Tryd.sizeOf163 hb_1 rfl rfl (by first | (simp; done) | (simp; omega) | rfl) (by first | exact Enc.one _ _ | (intro u hu; obtain ⟨x, _, rfl⟩ := List.mem_map.1 hu; rfl) | (simp [Value.oneCell']; done) | (simp [Value.oneCell', Value.cells]; done)) (by first | (simp; done) | (simp; omega) | (simp [Value.cells]; done) | (simp [Value.cells]; omega) | exact Nat.le_of_ble_eq_true rfl) rfl ?_
  intro w_2 hs_2 hn_2 k_2
  have zs_k_2 := k_2.size
  replace hw := hw.chg k_2 (by first | (intro x h1 h2; exact h2) | (intro x h0 h1 h2; exact hS x h1 h2) | (intro x h0 h1 h2; have h3 : _ = _ := h2; subst h3; exact hSR h1.1) | (intro x h1 h2; have h3 : _ = _ := h2; subst h3; assumption) | (intro x h1 h2; have h3 : _ = _ := h2; exfalso; omega) | (intro b h1 h2 h3; have h4 : _ = _ := h3; (try dsimp only at h2); exfalso; omega) | (intro h1; have h2 : _ = _ := h1; exfalso; omega) | (intro h1; have h2 : _ ≤ _ := h1; exfalso; omega) | (intros; exfalso; (try dsimp only at *); omega) | (intro b h1 h2 h3; exfalso; have h4 := h3.2; (try dsimp only at *); omega) | (intro h1; exfalso; have h4 := h1.2; (try dsimp only at *); omega) | (intro x h1 h2; exfalso; have h4 := h2.2; (try dsimp only at *); omega) | (intro x h1 h2; exact ⟨_, rfl, h2⟩) | (intro x h1 h2; have h4 := h2.1; have h5 := h2.2; exfalso; omega) | (intro x h1 h2; exact h2.1) | (intro x h1 h2; rcases h2.1 with h3 | h3; exact h3; exfalso; omega) | (intro x h1 h2; rcases h2 with h3 | h3; exact h3; exfalso; omega))
  replace hb_1 := hn_2
  refine WL.nil (WX.then_normal (WC.ret (?_)))
  refine WX.ret1c (.inl rfl) Tryd.results104 Tryd.isAgg163 Tryd.sizeOf163 hb_1 rfl (by first | (simp; done) | (simp; omega) | rfl) ?_
  exact ⟨_, rfl, rfl, hw⟩
end Go.Proofs.YtjeldcjchipdgaaDoor
