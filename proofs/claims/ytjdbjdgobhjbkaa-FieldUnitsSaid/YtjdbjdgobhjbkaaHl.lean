import Derived.Laws.MakeOwn
import Derived.Laws.Cover3
import Derived.Test.YtjdbjdgobhjbkaaHk
namespace Go.HL
open Go.RowKit

/-! arrays, rows made of zeros, slices that are nil, marks -/
section
variable {P : Program} {ops : Array Oper} {Q : Exit → Act → World → Prop} {N : Nat} {E : Env} {w : World} {rest : List Oper}
  {d : Nat} {ty : TypeId} {pos : String} {af : Array Edge} {t tb T : TypeId} {x y : Operand} {α : Type} {e : Enc α} {S : Nat → Prop}
theorem WL.nilCheck {ad : Addr} (hx : ev E x = some (.pointer (some ad))) (hd : Nat.blt d N = true) (h : WL P ops Q N rest ((d, .pointer (some ad)) :: E) w) : WL P ops Q N (⟨some d, .nilCheck x, ty, pos, af, none⟩ :: rest) E w :=
  WL.run _ w (fun a ha => by simp [execOp, ev_eval ha hx]) hd h
/-- a place in an array of one-cell elements that begins its block -/
theorem WL.indexArr {b n : Nat} {k : IntKind} {i : Int} (j : Nat) (ht : P.underlying t = some (.array n T)) (hs : ∀ w, (sizeOf T).run P w = .ok 1 w) (hx : ev E x = some (.pointer (some ⟨b, 0, none⟩))) (hy : ev E y = some (.int k i)) (hi : i = (j : Int) ∧ j < n) (hd : Nat.blt d N = true)
    (h : WL P ops Q N rest ((d, .pointer (some ⟨b, j, none⟩)) :: E) w) : WL P ops Q N (⟨some d, .indexAddr t x y, ty, pos, af, none⟩ :: rest) E w :=
  WL.run _ w (fun a ha => by
    obtain ⟨rfl, hj⟩ := hi
    have h2 : ((j : Int) < (n : Int)) := by omega
    simp [execOp, ev_eval ha hx, ev_eval ha hy, Instr.indexAt, asIntOf, run_underlying ht, hs, Instr.sureAddr, hj, Addr.add_lit]) hd h
/-- an element of an array that is a value -/
theorem WL.indexV {n : Nat} {k : IntKind} {i : Int} {cs : List Value} {v : Value} (j : Nat) (ht : P.underlying t = some (.array n T)) (hs : ∀ w, (sizeOf T).run P w = .ok 1 w) (hg : ∀ w, (isAgg T).run P w = .ok false w) (hx : ev E x = some (.agg cs.toArray)) (hy : ev E y = some (.int k i)) (hi : i = (j : Int) ∧ j < n) (hv : cs[j]? = some v) (hd : Nat.blt d N = true)
    (h : WL P ops Q N rest ((d, v) :: E) w) : WL P ops Q N (⟨some d, .index t x y, ty, pos, af, none⟩ :: rest) E w :=
  WL.run _ w (fun a ha => by
    obtain ⟨rfl, hj⟩ := hi
    simp [execOp, ev_eval ha hx, ev_eval ha hy, Instr.index, asIntOf, run_underlying ht, hs, hg, part, hj, hv]) hd h
theorem WL.isNil {T : TypeId} {ao : Option Addr} {n c : Nat} (ht : P.underlying t = some (.slice T)) (hx : ev E x = some (.slice ao n c)) (hy : ev E y = some (.slice none 0 0)) (hd : Nat.blt d N = true) (h : WL P ops Q N rest ((d, .bool ao.isNone) :: E) w) :
    WL P ops Q N (⟨some d, .binOp .eql t x y tb, ty, pos, af, none⟩ :: rest) E w :=
  WL.run _ w (fun a ha => by simp [execOp, ev_eval ha hx, ev_eval ha hy, eqGuard, binOp, run_equal_slice_nil w t T ao n c ht]) hd h
theorem WL.notNil {T : TypeId} {ao : Option Addr} {n c : Nat} (ht : P.underlying t = some (.slice T)) (hx : ev E x = some (.slice ao n c)) (hy : ev E y = some (.slice none 0 0)) (hd : Nat.blt d N = true) (h : WL P ops Q N rest ((d, .bool (!ao.isNone)) :: E) w) :
    WL P ops Q N (⟨some d, .binOp .neq t x y tb, ty, pos, af, none⟩ :: rest) E w :=
  WL.run _ w (fun a ha => by simp [execOp, ev_eval ha hx, ev_eval ha hy, eqGuard, binOp, run_equal_slice_nil w t T ao n c ht]) hd h
theorem WL.isNil? {T : TypeId} {ao : Option Addr} {n c : Nat} (ht : P.underlying t = some (.slice T)) (hx : ev E x = some (.slice ao n c)) (hy : ev E y = some (.slice none 0 0)) (hd : Nat.blt d N = true) (hT : ao = none → WL P ops Q N rest ((d, .bool true) :: E) w) (hf : ao ≠ none → WL P ops Q N rest ((d, .bool false) :: E) w) :
    WL P ops Q N (⟨some d, .binOp .eql t x y tb, ty, pos, af, none⟩ :: rest) E w :=
  WL.isNil ht hx hy hd (by cases ao with
    | none => exact hT rfl
    | some a => exact hf (by simp))
/-- the complement -/
theorem WL.not32 {b : UInt32} (hx : ev E x = some (v32 b)) (hd : Nat.blt d N = true) (h : WL P ops Q N rest ((d, v32 (~~~b)) :: E) w) : WL P ops Q N (⟨some d, .unOp .xor t x, ty, pos, af, none⟩ :: rest) E w :=
  WL.run _ w (fun a ha => by
    have e1 : IntKind.u32.max = ((4294967295 : UInt32).toNat : Int) := by decide
    have e2 : (Op.intBits .xor .u32 ((4294967295 : UInt32).toNat : Int) (b.toNat : Int)).run P w = .ok (v32 ((4294967295 : UInt32) ^^^ b)) w := by
      have := n_xor32 (P := P) 0 w 4294967295 b
      simpa [binOp] using this
    have e3 : (4294967295 : UInt32) ^^^ b = ~~~b := by
      apply UInt32.toBitVec_inj.1
      show 4294967295#32 ^^^ b.toBitVec = ~~~b.toBitVec
      rw [← BitVec.allOnes_xor]
      rfl
    rw [e3] at e2
    have e4 : (Op.intBits .xor .u32 4294967295 (b.toNat : Int)).run P w = .ok (v32 (~~~b)) w := e2
    simp only [execOp, ev_eval ha hx, Op.unary, show IntKind.u32.signed = false from rfl, e1]
    simp [e4]) hd h
theorem WL.shl32v {a : UInt32} {m : Int} {k : IntKind} (n : Nat) (hx : ev E x = some (v32 a)) (hy : ev E y = some (.int k m)) (hm : m = (n : Int) ∧ n < 32) (hd : Nat.blt d N = true) (h : WL P ops Q N rest ((d, v32 (a <<< UInt32.ofNat n)) :: E) w) : WL P ops Q N (⟨some d, .binOp .shl t x y tb, ty, pos, af, none⟩ :: rest) E w :=
  WL.num hx hy (by rw [hm.1]; exact n_shl32 _ _ _ _ n hm.2) hd h
theorem WL.shr32v {a : UInt32} {m : Int} {k : IntKind} (n : Nat) (hx : ev E x = some (v32 a)) (hy : ev E y = some (.int k m)) (hm : m = (n : Int) ∧ n < 32) (hd : Nat.blt d N = true) (h : WL P ops Q N rest ((d, v32 (a >>> UInt32.ofNat n)) :: E) w) : WL P ops Q N (⟨some d, .binOp .shr t x y tb, ty, pos, af, none⟩ :: rest) E w :=
  WL.num hx hy (by rw [hm.1]; exact n_shr32 _ _ _ _ n hm.2) hd h
/-- a row of zeros -/
theorem make_cells (z : Array Value) (z0 : α) (n c : Nat) (hz : z.toList = e.f z0) (hnc : n ≤ c) : (madeCells z (c * e.sz)).toList.take (n * e.sz) = e.all (List.replicate n z0) := by
  have hsz : z.size = e.sz := by rw [← e.len z0, ← hz, Array.length_toList]
  have hp := e.pos
  apply List.ext_getElem?
  intro j
  have hlen : (e.all (List.replicate n z0)).length = n * e.sz := by rw [Enc.all_len]; simp
  by_cases hj : j < n * e.sz
  · have hjc : j < c * e.sz := Nat.lt_of_lt_of_le hj (Nat.mul_le_mul_right _ hnc)
    have hq : j % e.sz < e.sz := Nat.mod_lt _ hp
    have hd : j / e.sz < n := Nat.div_lt_of_lt_mul (by rw [Nat.mul_comm]; exact hj)
    have h1 := e.all_at (xs := List.replicate n z0) (j := j / e.sz) (x := z0) (by simp [hd]) hq
    rw [show j / e.sz * e.sz + j % e.sz = j from by rw [Nat.mul_comm]; exact Nat.div_add_mod j e.sz] at h1
    rw [h1, List.getElem?_take_of_lt hj]
    simp only [madeCells, Array.getElem?_toList, Array.getElem?_map, Array.getElem?_range, hjc, if_true, Option.map_some, hsz]
    have h2 : j % e.sz < z.size := by omega
    rw [← hz, Array.getElem?_toList, Array.getElem?_eq_getElem h2]
    simp [h2]
  · rw [List.getElem?_eq_none (by simp; omega), List.getElem?_eq_none (by omega)]
theorem WL.make {lo hi : Operand} {kl kc : IntKind} {l c : Int} {bytes : Nat} {z : Value} (z0 : α) (n m : Nat) (ht : P.underlying t = some (.slice T)) (hinfo : (P.info? T).map (fun i => (i.zero, i.size, i.bytes)) = some (some z, e.sz, bytes)) (hz : z.cells.toList = e.f z0)
    (hl : ev E lo = some (.int kl l)) (hc : ev E hi = some (.int kc c)) (hn : l = (n : Int) ∧ c = (m : Int) ∧ n ≤ m) (hb : bytes * m ≤ 140737488355328 ∧ m ≤ 9223372036854775807) (hd : Nat.blt d N = true)
    (h : ∀ g w', Row (w.heap.size ≤ ·) w' T e (some ⟨g, 0, none⟩) m (List.replicate n z0) → Chg Nob w w' → w'.heap.size = w.heap.size + 1 → g = w.heap.size → WL P ops Q N rest ((d, .slice (some ⟨g, 0, none⟩) (List.replicate n z0).length m) :: E) w') :
    WL P ops Q N (⟨some d, .makeSlice t lo hi, ty, pos, af, none⟩ :: rest) E w := by
  obtain ⟨i, hi1, h1, h2, h3⟩ := info_parts hinfo
  obtain ⟨rfl, rfl, hnm⟩ := hn
  have hbb : (bytes : Int) * (m : Int) ≤ 281474976710656 := by
    have : ((bytes * m : Nat) : Int) ≤ 281474976710656 := by omega
    rwa [Int.natCast_mul] at this
  have hr := run_make (P := P) w t T i z ht hi1 h1 kl kc (n : Int) (m : Int) (by omega) (by omega) (by rw [h3]; exact hbb) (by omega)
  simp only [Int.toNat_natCast, h2] at hr
  refine WL.run (.slice (some ⟨w.heap.size, 0, none⟩) n m) (w.alloc (.cells (madeCells z.cells (m * e.sz)) T)) (fun a ha => by simp [execOp, ev_eval ha hl, ev_eval ha hc, hr]) hd ?_
  have hsz : (madeCells z.cells (m * e.sz)).size = m * e.sz := by simp [madeCells]
  have := h w.heap.size (w.alloc (.cells (madeCells z.cells (m * e.sz)) T)) ⟨fun a ea => by injection ea with ea; subst ea; exact Nat.le_refl _, ?_⟩ (Chg.alloc _ _) (by simp) rfl
  · simpa using this
  · refine ⟨by rw [Enc.all_len], by simpa using hnm, .inr ⟨w.heap.size, _, (0, 0), rfl, ?_, ?_, ?_, hsz, ?_⟩⟩
    · show (w.heap.push _)[w.heap.size]? = _
      simp
    · intro j _ hh; omega
    · simpa [maxLen] using hb.2
    · rw [List.length_replicate]
      exact make_cells _ _ _ _ hz hnm
/-- bytes of the call's own turned to bytes: a mark is laid behind their end -/
theorem WL.mark {ao : Option Addr} {c : Nat} {xs : List UInt8} (ht : P.underlying t = some (.slice T)) (hT : P.underlying T = some (.int .u8)) (hr : Row S w T eb ao c xs) (hne : xs ≠ []) (hx : ev E x = some (.slice ao xs.length c)) (hd : Nat.blt d N = true)
    (h : ∀ w', RSl S w' eb ao c xs → Chg (fun b => Eqb ao b ∧ S b) w w' → w'.heap.size = w.heap.size → WL P ops Q N rest ((d, .slice ao xs.length c) :: E) w') :
    WL P ops Q N (⟨some d, .convert t t x, ty, pos, af, none⟩ :: rest) E w := by
  cases ao with
  | none => exact absurd hr.rsl.none_nil hne
  | some a =>
    rcases hr.own.2.2 with ⟨h0, _⟩ | ⟨g, cur, fr, ea, hg, hfr, hcm, hcs, htk⟩
    · cases h0
    · injection ea with ea
      subst ea
      have hsh : w.shape? g = some (T, cur.size) := by simp [World.shape?, hg]
      have hmark : (markStringish ⟨g, 0, none⟩).run P w = .ok () (w.freeze ⟨g, cur.size, none⟩ 1) := by
        simp [markStringish, hsh]
      have hfz : (w.freeze ⟨g, cur.size, none⟩ 1).heap[g]? = some (.cells cur T (if fr.1 == fr.2 then (cur.size, cur.size + 1) else (min fr.1 cur.size, max fr.2 (cur.size + 1)))) := by
        simp only [World.freeze]
        rw [if_neg (by decide)]
        simp only [Array.getElem?_modify, hg, if_true, Option.map_some]
      have hk : Chg (fun b => Eqb (some (⟨g, 0, none⟩ : Addr)) b ∧ S b) w (w.freeze ⟨g, cur.size, none⟩ 1) := by
        have hS : S g := hr.at_ _ rfl
        refine ⟨rfl, rfl, rfl, by simp [World.freeze], fun k hk hm => ?_⟩
        have hne : k ≠ g := fun e => hm ⟨⟨_, rfl, e⟩, e ▸ hS⟩
        simp only [World.freeze]
        rw [if_neg (by decide)]
        rw [Array.getElem?_modify, if_neg (fun e => hne e.symm)]
      refine WL.run _ (w.freeze ⟨g, cur.size, none⟩ 1) (fun a ha => ?_) hd (h _ ⟨fun _ => hr.at_, hr.own.cap, hr.own.1, fun j u hj => ?_⟩ hk (by simp [World.freeze]))
      · simp [execOp, ev_eval ha hx, convert, run_underlying ht, run_underlying hT, hmark]
      · obtain ⟨b, off, e1, hc⟩ := hr.rsl.sl.2 j u hj
        injection e1 with e1
        injection e1 with e1 e2
        subst e1; subst e2
        refine ⟨_, _, rfl, ?_⟩
        unfold World.cell? at hc ⊢
        simp only [hg, hfz] at hc ⊢
        exact hc
end
end Go.HL
