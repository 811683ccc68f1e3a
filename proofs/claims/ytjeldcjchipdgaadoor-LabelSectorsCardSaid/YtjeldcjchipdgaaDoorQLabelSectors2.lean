import Derived.Laws.MakeOwn
import Derived.Laws.Cover3
import Derived.MapKept
import Derived.Laws.ResultCell
import Derived.Test.YtjeldcjchipdgaaDoorProg
import Derived.Laws.CopyRow
import Derived.Test.YtjeldcjchipdgaaDoorQLabelSectors1
namespace Go.HL
open Go.RowKit
section
variable {P : Program} {ops : Array Oper} {Q : Exit → Act → World → Prop} {N : Nat} {E : Env} {w : World} {rest : List Oper}
  {d : Nat} {ty : TypeId} {pos : String} {af : Array Edge} {t tb : TypeId} {x y : Operand}
/-- a whole block is read -/
theorem WL.loadsB {e : TypeId} {b k : Nat} {cs : List Value} (ha : ∀ w, (isAgg t).run P w = .ok true w) (hs : ∀ w, (sizeOf t).run P w = .ok k w) (hb : Blk w b e cs) (hx : ev E x = some (.pointer (some ⟨b, 0, none⟩))) (hk : cs.length = k) (hd : Nat.blt d N = true) (h : WL P ops Q N rest ((d, .agg cs.toArray) :: E) w) :
    WL P ops Q N (⟨some d, .load t x, ty, pos, af, none⟩ :: rest) E w :=
  WL.loads cs ha hs hx (fun j v hj => by rw [Nat.zero_add]; exact hb.cell hj) hk hd h
variable {fn : Func} {R : Ending → World → Prop}
theorem run_loadVarB {T e : TypeId} {b k : Nat} {cs : List Value} (ha : ∀ w, (isAgg T).run P w = .ok true w) (hs : ∀ w, (sizeOf T).run P w = .ok k w) (hb : Blk w b e cs) (hk : cs.length = k) : (loadVar T ⟨b, 0, none⟩).run P w = .ok (.agg cs.toArray) w := by
  have hl := run_loadCells_list (P := P) w ⟨b, 0, none⟩ cs (fun j v hj => by rw [Addr.add_lit, Nat.zero_add]; exact hb.cell hj)
  rw [hk] at hl
  simp [loadVar, ha, hs, hl]
theorem WX.ret1c {x : Exit} (hx : x = .ret ∨ x = .normal) {t T e : TypeId} {b k : Nat} {cs : List Value} (h : fn.results = #[.cell t T]) (ha : ∀ w, (isAgg T).run P w = .ok true w) (hs : ∀ w, (sizeOf T).run P w = .ok k w) (hb : Blk w b e cs) (hv : E.lookup t = some (.pointer (some ⟨b, 0, none⟩))) (hk : cs.length = k)
    (hR : R (.returned (.agg cs.toArray)) w) : WX (bodyPost P fn R) x N E w :=
  WX.retOf hx _ (fun a hh => by
    have h1 := getD_of hh hv
    simp only [Array.getD_eq_getD_getElem?] at h1
    have h2 := run_loadVarB ha hs hb hk
    simp [results, h, h1, asAddr, h2]) hR
theorem WX.ret2c {x : Exit} (hx : x = .ret ∨ x = .normal) {t u T e : TypeId} {b k : Nat} {cs : List Value} {v : Value} (h : fn.results = #[.cell t T, .tmp u]) (ha : ∀ w, (isAgg T).run P w = .ok true w) (hs : ∀ w, (sizeOf T).run P w = .ok k w) (hb : Blk w b e cs) (hv : E.lookup t = some (.pointer (some ⟨b, 0, none⟩))) (hk : cs.length = k)
    (hu : E.lookup u = some v) (hR : R (.returned (.tuple #[.agg cs.toArray, v])) w) : WX (bodyPost P fn R) x N E w :=
  WX.retOf hx _ (fun a hh => by
    have h1 := getD_of hh hv
    have h3 := getD_of hh hu
    simp only [Array.getD_eq_getD_getElem?] at h1 h3
    have h2 := run_loadVarB ha hs hb hk
    simp [results, h, h1, h3, asAddr, h2]) hR
end
end Go.HL
namespace Go.HL
open Go.RowKit

/-! arrays, rows made of zeros, slices that are nil, marks -/
section
variable {P : Program} {ops : Array Oper} {Q : Exit → Act → World → Prop} {N : Nat} {E : Env} {w : World} {rest : List Oper}
  {d : Nat} {ty : TypeId} {pos : String} {af : Array Edge} {t tb T : TypeId} {x y : Operand} {α : Type} {e : Enc α} {S : Nat → Prop}
theorem WL.nilCheck {ad : Addr} (hx : ev E x = some (.pointer (some ad))) (hd : Nat.blt d N = true) (h : WL P ops Q N rest ((d, .pointer (some ad)) :: E) w) : WL P ops Q N (⟨some d, .nilCheck x, ty, pos, af, none⟩ :: rest) E w :=
  WL.run _ w (fun a ha => by simp [execOp, ev_eval ha hx]) hd h
/-- a place in an array of one-cell elements that begins its block -/
theorem WL.indexArr {b n : Nat} {k : IntKind} {i : Int} (j : Nat) (ht : P.underlying t = some (.array n T)) (hs : ∀ w, (sizeOf T).run P w = .ok 1 w) (hx : ev E x = some (.pointer (some ⟨b, 0, none⟩))) (hy : ev E y = some (.int k i)) (hi : i = (j : Int) ∧ j < n) (hd : Nat.blt d N = true)
    (h : WL P ops Q N rest ((d, .pointer (some ⟨b, j, none⟩)) :: E) w) : WL P ops Q N (⟨some d, .indexAddr t x y, ty, pos, af, none⟩ :: rest) E w :=
  WL.run _ w (fun a ha => by
    obtain ⟨rfl, hj⟩ := hi
    have h2 : ((j : Int) < (n : Int)) := by omega
    simp [execOp, ev_eval ha hx, ev_eval ha hy, Instr.indexAt, asIntOf, run_underlying ht, hs, Instr.sureAddr, hj, Addr.add_lit]) hd h
/-- an element of an array that is a value -/
theorem WL.indexV {n : Nat} {k : IntKind} {i : Int} {cs : List Value} {v : Value} (j : Nat) (ht : P.underlying t = some (.array n T)) (hs : ∀ w, (sizeOf T).run P w = .ok 1 w) (hg : ∀ w, (isAgg T).run P w = .ok false w) (hx : ev E x = some (.agg cs.toArray)) (hy : ev E y = some (.int k i)) (hi : i = (j : Int) ∧ j < n) (hv : cs[j]? = some v) (hd : Nat.blt d N = true)
    (h : WL P ops Q N rest ((d, v) :: E) w) : WL P ops Q N (⟨some d, .index t x y, ty, pos, af, none⟩ :: rest) E w :=
  WL.run _ w (fun a ha => by
    obtain ⟨rfl, hj⟩ := hi
    simp [execOp, ev_eval ha hx, ev_eval ha hy, Instr.index, asIntOf, run_underlying ht, hs, hg, part, hj, hv]) hd h
theorem WL.isNil {T : TypeId} {ao : Option Addr} {n c : Nat} (ht : P.underlying t = some (.slice T)) (hx : ev E x = some (.slice ao n c)) (hy : ev E y = some (.slice none 0 0)) (hd : Nat.blt d N = true) (h : WL P ops Q N rest ((d, .bool ao.isNone) :: E) w) :
    WL P ops Q N (⟨some d, .binOp .eql t x y tb, ty, pos, af, none⟩ :: rest) E w :=
  WL.run _ w (fun a ha => by simp [execOp, ev_eval ha hx, ev_eval ha hy, eqGuard, binOp, run_equal_slice_nil w t T ao n c ht]) hd h
theorem WL.isNil? {T : TypeId} {ao : Option Addr} {n c : Nat} (ht : P.underlying t = some (.slice T)) (hx : ev E x = some (.slice ao n c)) (hy : ev E y = some (.slice none 0 0)) (hd : Nat.blt d N = true) (hT : ao = none → WL P ops Q N rest ((d, .bool true) :: E) w) (hf : ao ≠ none → WL P ops Q N rest ((d, .bool false) :: E) w) :
    WL P ops Q N (⟨some d, .binOp .eql t x y tb, ty, pos, af, none⟩ :: rest) E w :=
  WL.isNil ht hx hy hd (by cases ao with
    | none => exact hT rfl
    | some a => exact hf (by simp))
/-- the complement -/
theorem WL.not32 {b : UInt32} (hx : ev E x = some (v32 b)) (hd : Nat.blt d N = true) (h : WL P ops Q N rest ((d, v32 (~~~b)) :: E) w) : WL P ops Q N (⟨some d, .unOp .xor t x, ty, pos, af, none⟩ :: rest) E w :=
  WL.run _ w (fun a ha => by
    have e1 : IntKind.u32.max = ((4294967295 : UInt32).toNat : Int) := by decide
    have e2 : (Op.intBits .xor .u32 ((4294967295 : UInt32).toNat : Int) (b.toNat : Int)).run P w = .ok (v32 ((4294967295 : UInt32) ^^^ b)) w := by
      have := n_xor32 (P := P) 0 w 4294967295 b
      simpa [binOp] using this
    have e3 : (4294967295 : UInt32) ^^^ b = ~~~b := by
      apply UInt32.toBitVec_inj.1
      show 4294967295#32 ^^^ b.toBitVec = ~~~b.toBitVec
      rw [← BitVec.allOnes_xor]
      rfl
    rw [e3] at e2
    have e4 : (Op.intBits .xor .u32 4294967295 (b.toNat : Int)).run P w = .ok (v32 (~~~b)) w := e2
    simp only [execOp, ev_eval ha hx, Op.unary, show IntKind.u32.signed = false from rfl, e1]
    simp [e4]) hd h
theorem WL.shl32v {a : UInt32} {m : Int} {k : IntKind} (n : Nat) (hx : ev E x = some (v32 a)) (hy : ev E y = some (.int k m)) (hm : m = (n : Int) ∧ n < 32) (hd : Nat.blt d N = true) (h : WL P ops Q N rest ((d, v32 (a <<< UInt32.ofNat n)) :: E) w) : WL P ops Q N (⟨some d, .binOp .shl t x y tb, ty, pos, af, none⟩ :: rest) E w :=
  WL.num hx hy (by rw [hm.1]; exact n_shl32 _ _ _ _ n hm.2) hd h
theorem WL.shr32v {a : UInt32} {m : Int} {k : IntKind} (n : Nat) (hx : ev E x = some (v32 a)) (hy : ev E y = some (.int k m)) (hm : m = (n : Int) ∧ n < 32) (hd : Nat.blt d N = true) (h : WL P ops Q N rest ((d, v32 (a >>> UInt32.ofNat n)) :: E) w) : WL P ops Q N (⟨some d, .binOp .shr t x y tb, ty, pos, af, none⟩ :: rest) E w :=
  WL.num hx hy (by rw [hm.1]; exact n_shr32 _ _ _ _ n hm.2) hd h
/-- a row of zeros -/
theorem make_cells (z : Array Value) (z0 : α) (n c : Nat) (hz : z.toList = e.f z0) (hnc : n ≤ c) : (madeCells z (c * e.sz)).toList.take (n * e.sz) = e.all (List.replicate n z0) := by
  have hsz : z.size = e.sz := by rw [← e.len z0, ← hz, Array.length_toList]
  have hp := e.pos
  apply List.ext_getElem?
  intro j
  have hlen : (e.all (List.replicate n z0)).length = n * e.sz := by rw [Enc.all_len]; simp
  by_cases hj : j < n * e.sz
  · have hjc : j < c * e.sz := Nat.lt_of_lt_of_le hj (Nat.mul_le_mul_right _ hnc)
    have hq : j % e.sz < e.sz := Nat.mod_lt _ hp
    have hd : j / e.sz < n := Nat.div_lt_of_lt_mul (by rw [Nat.mul_comm]; exact hj)
    have h1 := e.all_at (xs := List.replicate n z0) (j := j / e.sz) (x := z0) (by simp [hd]) hq
    rw [show j / e.sz * e.sz + j % e.sz = j from by rw [Nat.mul_comm]; exact Nat.div_add_mod j e.sz] at h1
    rw [h1, List.getElem?_take_of_lt hj]
    simp only [madeCells, Array.getElem?_toList, Array.getElem?_map, Array.getElem?_range, hjc, if_true, Option.map_some, hsz]
    have h2 : j % e.sz < z.size := by omega
    rw [← hz, Array.getElem?_toList, Array.getElem?_eq_getElem h2]
    simp [h2]
  · rw [List.getElem?_eq_none (by simp; omega), List.getElem?_eq_none (by omega)]
theorem WL.make {lo hi : Operand} {kl kc : IntKind} {l c : Int} {bytes : Nat} {z : Value} (z0 : α) (n m : Nat) (ht : P.underlying t = some (.slice T)) (hinfo : (P.info? T).map (fun i => (i.zero, i.size, i.bytes)) = some (some z, e.sz, bytes)) (hz : z.cells.toList = e.f z0)
    (hl : ev E lo = some (.int kl l)) (hc : ev E hi = some (.int kc c)) (hn : l = (n : Int) ∧ c = (m : Int) ∧ n ≤ m) (hb : bytes * m ≤ 140737488355328 ∧ m ≤ 9223372036854775807) (hd : Nat.blt d N = true)
    (h : ∀ g w', Row (w.heap.size ≤ ·) w' T e (some ⟨g, 0, none⟩) m (List.replicate n z0) → Chg Nob w w' → w'.heap.size = w.heap.size + 1 → g = w.heap.size → WL P ops Q N rest ((d, .slice (some ⟨g, 0, none⟩) (List.replicate n z0).length m) :: E) w') :
    WL P ops Q N (⟨some d, .makeSlice t lo hi, ty, pos, af, none⟩ :: rest) E w := by
  obtain ⟨i, hi1, h1, h2, h3⟩ := info_parts hinfo
  obtain ⟨rfl, rfl, hnm⟩ := hn
  have hbb : (bytes : Int) * (m : Int) ≤ 281474976710656 := by
    have : ((bytes * m : Nat) : Int) ≤ 281474976710656 := by omega
    rwa [Int.natCast_mul] at this
  have hr := run_make (P := P) w t T i z ht hi1 h1 kl kc (n : Int) (m : Int) (by omega) (by omega) (by rw [h3]; exact hbb) (by omega)
  simp only [Int.toNat_natCast, h2] at hr
  refine WL.run (.slice (some ⟨w.heap.size, 0, none⟩) n m) (w.alloc (.cells (madeCells z.cells (m * e.sz)) T)) (fun a ha => by simp [execOp, ev_eval ha hl, ev_eval ha hc, hr]) hd ?_
  have hsz : (madeCells z.cells (m * e.sz)).size = m * e.sz := by simp [madeCells]
  have := h w.heap.size (w.alloc (.cells (madeCells z.cells (m * e.sz)) T)) ⟨fun a ea => by injection ea with ea; subst ea; exact Nat.le_refl _, ?_⟩ (Chg.alloc _ _) (by simp) rfl
  · simpa using this
  · refine ⟨by rw [Enc.all_len], by simpa using hnm, .inr ⟨w.heap.size, _, (0, 0), rfl, ?_, ?_, ?_, hsz, ?_⟩⟩
    · show (w.heap.push _)[w.heap.size]? = _
      simp
    · intro j _ hh; omega
    · simpa [maxLen] using hb.2
    · rw [List.length_replicate]
      exact make_cells _ _ _ _ hz hnm
end
end Go.HL
namespace Go.HL
open Go.RowKit
section
variable {P : Program} {ops : Array Oper} {Q : Exit → Act → World → Prop} {N : Nat} {E : Env} {w : World} {rest : List Oper}
  {d : Nat} {ty : TypeId} {pos : String} {af : Array Edge} {t tb T : TypeId}
/-- an array whose elements are all written out, each of one cell -/
theorem WL.buildArr {n : Nat} {ps : List (Nat × Operand)} {z : Value} (vs : List Value) (ht : P.underlying t = some (.array n T)) (hs : ∀ w, (sizeOf T).run P w = .ok 1 w) (hz : ∀ w, (zeroValue t).run P w = .ok z w) (hzs : z.cells.size = n)
    (hx : evp E 0 ps = some vs) (hn : vs.length = n) (hv1 : ∀ v ∈ vs, v.cells = #[v]) (hd : Nat.blt d N = true)
    (h : WL P ops Q N rest ((d, .agg vs.toArray) :: E) w) : WL P ops Q N (⟨some d, .build t ps.toArray, ty, pos, af, none⟩ :: rest) E w :=
  WL.run _ w (fun a ha => by
    obtain ⟨h1, h2⟩ := evp_eval ha hx
    have hf := fill_enum 1 vs 0 z.cells (fun v hv => by rw [hv1 v hv]; rfl) (by rw [hzs, ← hn]; omega)
    have hflat : vs.flatMap (·.cells.toList) = vs := by
      clear hx hn h h2 h1 hf
      induction vs with
      | nil => rfl
      | cons v r ih => rw [List.flatMap_cons, hv1 v (by simp), ih (fun u hu => hv1 u (by simp [hu]))]; rfl
    rw [hflat] at hf
    simp only [Nat.zero_mul, List.take_zero, List.nil_append, Nat.mul_one] at hf
    simp [execOp, h1, Instr.build, hz, run_underlying ht, hs, hf]) hd h
theorem map_at {α β : Type} {xs : List α} {j : Nat} {x : α} (f : α → β) (h : xs[j]? = some x) : (xs.map f)[j]? = some (f x) := by simp [h]
end
end Go.HL
namespace Go.HL
open Go.RowKit
section
variable {P : Program} (t : TypeId) (w : World)
end
section
variable {P : Program} {ops : Array Oper} {Q : Exit → Act → World → Prop} {N : Nat} {E : Env} {w : World} {rest : List Oper} {ty : TypeId} {pos : String} {af : Array Edge} {α : Type} {e : Enc α} {S : Nat → Prop} {t T : TypeId} {x y : Operand}
theorem all_set (e : Enc α) (h1 : e.sz = 1) {z : α} {v : Value} (hz : e.f z = [v]) : ∀ (xs : List α) (j : Nat), e.all (xs.set j z) = (e.all xs).set j v
  | [], j => by simp [Enc.all]
  | x :: r, 0 => by
    have hl := e.len x
    rw [h1] at hl
    obtain ⟨u, hu⟩ := List.length_eq_one_iff.1 hl
    simp [Enc.all, hz, hu]
  | x :: r, j + 1 => by
    have hl := e.len x
    rw [h1] at hl
    obtain ⟨u, hu⟩ := List.length_eq_one_iff.1 hl
    have ih := all_set e h1 hz r j
    simp only [Enc.all] at ih
    simp [Enc.all, hu, ih]
theorem Row.place0 {T : TypeId} {ao : Option Addr} {c : Nat} {xs : List α} {j : Nat} (hr : Row S w T e ao c xs) (hz : j < xs.length) : ∃ g, ao = some ⟨g, 0, none⟩ := by
  rcases hr.own.2.2 with ⟨rfl, _⟩ | ⟨g, _, _, rfl, _⟩
  · have := hr.rsl.none_nil
    subst this
    simp at hz
  · exact ⟨g, rfl⟩
theorem WL.storeRow {g o c : Nat} {xs : List α} {z : α} {v : Value} (j : Nat) (hs : ∀ w, (sizeOf t).run P w = .ok 1 w) (hr : Row S w T e (some ⟨g, 0, none⟩) c xs) (h1 : e.sz = 1) (hz : e.f z = [v]) (hx : ev E x = some (.pointer (some ⟨g, o, none⟩))) (ho : o = j) (hj : j < xs.length) (hy : ev E y = some v)
    (h : ∀ w', w'.heap.size = w.heap.size → Row S w' T e (some ⟨g, 0, none⟩) c (xs.set j z) → Chg (· = g) w w' → WL P ops Q N rest E w') :
    WL P ops Q N (⟨none, .store t x y, ty, pos, af, none⟩ :: rest) E w := by
  subst ho
  have hv1 : v.oneCell' = true := e.one z v (by rw [hz]; simp)
  have hr' := hr
  obtain ⟨hat, hlen, hcap, hc | ⟨g', cur, fr, hg', hg, hfr, hmax, hsz, htk⟩⟩ := hr
  · cases hc.1
  · cases hg'
    rw [h1] at hsz htk hlen
    simp only [Nat.mul_one] at hsz htk hlen
    have hoc : o < cur.size := by omega
    refine WL.run0 (w.setCell ⟨g, o, none⟩ v) (fun a hh => by
      have hst : (Go.store ⟨g, o, none⟩ v).run P w = .ok () (w.setCell ⟨g, o, none⟩ v) := by
        rw [run_store P w _ v _ hv1]
        have h3 := hfr o hoc
        have hcell : w.cell? ⟨g, o, none⟩ = some (cur[o]'hoc) := by rw [cell_of_row w g o cur T fr hg, Array.getElem?_eq_getElem hoc]
        have hfz : w.frozen? ⟨g, o, none⟩ = false := by
          simp only [World.frozen?, hg]
          simp
          intro hh
          exact Nat.le_of_not_lt (fun hlt => h3 ⟨hh, hlt⟩)
        simp [hcell, hfz]
      have hc1 : v.cells = #[v] := by cases v <;> simp_all [Value.oneCell', Value.cells]
      simp [execOp, ev_eval hh hx, ev_eval hh hy, Instr.storeAt, Instr.sureAddr, storeVar, hs, hc1, storeCells, Addr.add_lit, hst]) (h _ (by simp) ?_ (Chg.setCell w ⟨g, o, none⟩ v))
    have hnew : (w.setCell ⟨g, o, none⟩ v).heap[g]? = some (.cells (cur.setIfInBounds o v) T fr) := by
      simp only [World.setCell, Array.getElem?_modify, hg, if_true, Option.map_some]
      simp
    refine ⟨hat, by rw [all_set e h1 hz, List.length_set, List.length_set, h1, Nat.mul_one]; exact hlen, by simpa using hcap, .inr ⟨g, cur.setIfInBounds o v, fr, rfl, hnew, by simpa using hfr, hmax, by rw [h1, Nat.mul_one]; simpa using hsz, ?_⟩⟩
    rw [all_set e h1 hz, h1, List.length_set, Nat.mul_one, ← htk, Array.toList_setIfInBounds, List.take_set]
end
end Go.HL
namespace Go.HL
open Go.RowKit
section
variable {P : Program} {ops : Array Oper} {Q : Exit → Act → World → Prop} {N : Nat} {E : Env} {w : World} {rest : List Oper} {ty : TypeId} {pos : String} {af : Array Edge} {d : Nat} {α : Type} {e : Enc α} {S : Nat → Prop} {t T : TypeId} {x y : Operand}
/-- append to a row of the call's own: what it held is read as before at its old place -/
theorem WL.append' {tx : TypeId} {s : Operand} {ao : Option Addr} {c bytes : Nat} {xs ys : List α} {z v : Value} (hinfo : (P.info? T).map (fun i => (i.zero, i.size, i.bytes)) = some (some z, e.sz, bytes)) (hzs : z.cells.size = e.sz)
    (ht : P.underlying t = some (.slice T)) (hs : ev E s = some (.slice ao xs.length c)) (hx : ev E x = some v) (ho : Row S w T e ao c xs) (hsrc : Src P e.sz tx v ys.length (e.all ys) w)
    (hb : (xs.length + ys.length) * bytes ≤ 140737488355328 ∧ xs.length + ys.length ≤ 9223372036854775807) (hS : ∀ b, w.heap.size ≤ b → S b) (hd : Nat.blt d N = true)
    (h : ∀ ao2 c2 w', Row S w' T e ao2 c2 (xs ++ ys) → Grow S w ao w' ao2 → (ao2 = none → xs ++ ys = []) → RSl S w' e ao c xs → WL P ops Q N rest ((d, .slice ao2 (xs ++ ys).length c2) :: E) w') :
    WL P ops Q N (⟨some d, .call ⟨.builtin .append, #[s, x], #[t, tx]⟩, ty, pos, af, none⟩ :: rest) E w := by
  obtain ⟨i, hi, h1, h2, h3⟩ := info_parts hinfo
  obtain ⟨ao', c', w', hr, how, hc, hor, hno⟩ := run_append_hl (P := P) w t tx ty T i z e.sz bytes ht hi h1 h2 h3 hzs ao xs.length c (e.all xs) ho.own v ys.length (e.all ys) hsrc (by simpa [maxLen] using hb.2) hb.1
  refine WL.run _ w' (fun a ha => by simp [execOp, resolve, invoke, builtin, ev_eval ha hs, ev_eval ha hx, hr]; rfl) hd ?_
  rw [← List.length_append]
  have hrow : Row S w' T e ao' c' (xs ++ ys) := ⟨by
    rcases hor with rfl | h5
    · exact ho.at_
    · exact h5.mono hS, by rw [List.length_append, Enc.all_append]; exact how⟩
  refine h ao' c' w' hrow ⟨hc.mono fun b _ hb => ⟨hb.1, ho.at_.eqb hb.1⟩, hor⟩ (fun hn => ?_) ?_
  · obtain ⟨rfl, h6⟩ := hno hn
    have h7 := ho.rsl.none_nil
    subst h7
    simpa using h6
  · by_cases he : ao' = ao
    · subst he
      have := hrow.rsl.take xs.length (by simp)
      rw [List.take_left] at this
      exact ⟨this.at_, ho.rsl.cap, this.sl⟩
    · exact ho.rsl.chg hc (fun b _ _ h9 => he h9.2)
end
end Go.HL
namespace Go.HL
open Go.RowKit
/-- a row of bytes among others: where it lies, its room, what it holds -/
structure Rw where
  ao : Option Addr
  cap : Nat
  xs : List UInt8
def erow : Enc Rw := ⟨1, fun r => [.slice r.ao r.xs.length r.cap], fun _ => rfl, by simp [Value.oneCell'], by decide⟩
/-- rows of bytes that are read -/
structure RS (S : Nat → Prop) (w : World) (ao : Option Addr) (c : Nat) (rs : List Rw) : Prop where
  outer : RSl S w erow ao c rs
  inner : ∀ r ∈ rs, RSl S w eb r.ao r.cap r.xs
section
variable {S : Nat → Prop} {w w' : World} {ao : Option Addr} {c : Nat} {rs : List Rw} {M : Nat → Prop}
theorem RS.chg (h : RS S w ao c rs) (k : Chg M w w') (hd : ∀ b, b < w.heap.size → S b → M b → False) : RS S w' ao c rs := ⟨h.outer.chg k hd, fun r hr => (h.inner r hr).chg k hd⟩
theorem RS.pure (h : RS S w ao c rs) (k : Chg Nob w w') : RS S w' ao c rs := ⟨h.outer.pure k, fun r hr => (h.inner r hr).pure k⟩
theorem RS.mono {S' : Nat → Prop} (h : RS S w ao c rs) (k : ∀ b, S b → S' b) : RS S' w ao c rs := ⟨h.outer.mono k, fun r hr => (h.inner r hr).mono k⟩
theorem RS.old (h : RS S w ao c rs) : RS (· < w.heap.size) w ao c rs := ⟨h.outer.old, fun r hr => (h.inner r hr).old⟩
theorem RS.at (h : RS S w ao c rs) {i : Nat} {r : Rw} (hr : rs[i]? = some r) : RSl S w eb r.ao r.cap r.xs := h.inner r (List.mem_of_getElem? hr)
end
end Go.HL
namespace Go.HL
open Go.RowKit
/-! regions that draw their order, the loud operations in any order that the edges allow -/
def preds (ops : Array Oper) (rs : List Nat) (i : Nat) : Bool := rs.any fun j => before? ops j i
def AllB : List Nat → (Nat → Bool) → (Nat → Prop) → Prop
  | [], _, _ => True
  | a :: l, p, f => (bif p a then True else f a) ∧ AllB l p f
theorem AllB_mem : ∀ {l : List Nat} {p : Nat → Bool} {f : Nat → Prop}, AllB l p f → ∀ i ∈ l, p i = false → f i
  | [], _, _, _, i, hi, _ => by cases hi
  | a :: l, p, f, h, i, hi, hp => by
    rcases List.mem_cons.1 hi with rfl | h1
    · have := h.1
      rw [hp] at this
      exact this
    · exact AllB_mem h.2 i h1 hp
def drawOkT (ops : Array Oper) (C R : List Nat) : Bool :=
  ((List.range ops.size).all fun i => C.contains i || R.contains i) && ((C ++ R).all fun i => decide (i < ops.size)) &&
  ((List.range ops.size).all fun i => (List.range ops.size).all fun j => i == j || dstOf ops i == none || dstOf ops i != dstOf ops j) &&
  ((List.range ops.size).all fun i => ((ops[i]?).map (·.after.toList.all fun e => !Region.binds .any e || decide (e.on < i))).getD true) &&
  srcOk ops [] (C ++ R) && (R.all fun i => (List.range ops.size).all fun j => (looks ops i).all fun t => dstOf ops j != some t || (if C.contains j then before? ops j i else before? ops j i || before? ops i j)) && nodupB (C ++ R)
section
variable (P : Program) (ops : Array Oper) (Q : Exit → Act → World → Prop) (N : Nat) (K : World → Prop) (w0 : World)
def DT : Nat → List Nat → Env → World → Prop
  | 0, _, E, w => ∀ w', Chg Nob w w' → WX Q .normal N E w'
  | n + 1, rs, E, w => AllB rs (preds ops rs) fun i => ∀ w', Chg Nob w w' → ∀ o, ops[i]? = some o → WL P ops (One o.dst fun v w'' => K w'' ∧ DT n (rs.erase i) (putE E o.dst v) w'') N [o] (restr ops i E) w'
def DQT (R : List Nat) : List Nat → Env → Prop
  | [], E => DT P ops Q N K R.length R E w0
  | i :: is, E => ∃ v, (∀ o, ops[i]? = some o → ∀ w', K w' → WL P ops (One o.dst fun u w'' => u = v ∧ Chg Nob w' w'') N [o] (restr ops i E) w') ∧ DQT R is (putE E (dstOf ops i) v)
end
section
variable {P : Program} {ops : Array Oper} {Q : Exit → Act → World → Prop} {N : Nat} {K : World → Prop} {w0 : World} {E0 : Env}
theorem DQT_spec {R : List Nat} : ∀ {is : List Nat} {E : Env}, is.Nodup → DQT P ops Q N K w0 R is E → ∃ c : Nat → Value, DT P ops Q N K R.length R (envAfter ops c is E) w0 ∧
    ∀ pre i post, is = pre ++ i :: post → ∀ o, ops[i]? = some o → ∀ w', K w' → WL P ops (One o.dst fun u w'' => u = c i ∧ Chg Nob w' w'') N [o] (restr ops i (envAfter ops c pre E)) w'
  | [], E, _, h => ⟨fun _ => undef, h, fun pre i post hx => by cases pre <;> cases hx⟩
  | i :: is, E, hn, h => by
    obtain ⟨v, h1, h2⟩ := h
    obtain ⟨c, h3, h4⟩ := DQT_spec (List.nodup_cons.1 hn).2 h2
    have hi := (List.nodup_cons.1 hn).1
    let c' : Nat → Value := fun j => if j = i then v else c j
    have hc : ∀ j, j ∈ is → c j = c' j := fun j hj => by
      have : j ≠ i := fun e => hi (e ▸ hj)
      simp [c', this]
    have hci : c' i = v := by simp [c']
    refine ⟨c', ?_, ?_⟩
    · show DT P ops Q N K R.length R (envAfter ops c' is (putE E (dstOf ops i) (c' i))) w0
      rw [hci, ← envAfter_congr ops c c' is _ hc]
      exact h3
    · intro pre j post hx o ho w' hw
      cases pre with
      | nil =>
        injection hx with hx1 hx2
        subst hx1
        rw [hci]
        exact h1 o ho w' hw
      | cons p pre =>
        injection hx with hx1 hx2
        subst hx1
        have := h4 pre j post hx2 o ho w' hw
        have hj : j ∈ is := by rw [hx2]; simp
        rw [hc j hj, envAfter_congr ops c c' pre _ (fun k hk => hc k (by rw [hx2]; simp [hk]))] at this
        show WL P ops _ N [o] (restr ops j (envAfter ops c' pre (putE E (dstOf ops i) (c' i)))) w'
        rw [hci]
        exact this

theorem WC.drawT {id : Nat} (K : World → World → Prop) (C R : List Nat) (hm : P.follows .mixedOrders = true) (hok : drawOkT ops C R = true) (hN : ((List.range ops.size).all fun i => (dstOf ops i).all fun t => Nat.blt t N) = true) {w : World} (hK0 : K w.drew w.drew) (hKp : ∀ wd a b, K wd a → Chg Nob a b → K wd b)
    (h0 : ∀ wd, Chg Nob w wd → wd.heap.size = w.heap.size → DQT P ops Q N (K wd) wd R C E0) : WC P (.region id ops true) Q N E0 w := fun a0 ha0 => by
  have h := h0 w.drew (Chg.drew w) rfl
  simp only [drawOkT, Bool.and_eq_true, decide_eq_true_eq] at hok
  obtain ⟨⟨⟨⟨⟨⟨hpart, hlt0⟩, hdst0⟩, hback0⟩, hsrc⟩, hsrcT⟩, hnd⟩ := hok
  replace hnd := nodupB_spec hnd
  have hlt : ∀ k ∈ C ++ R, k < ops.size := fun k hk => by simpa using List.all_eq_true.1 hlt0 k hk
  have hdst : ∀ i j, i < ops.size → j < ops.size → i ≠ j → ∀ t, dstOf ops i = some t → dstOf ops j ≠ some t := by
    intro i j hi hj hne t h1 h2
    have := List.all_eq_true.1 (List.all_eq_true.1 hdst0 i (by simpa using hi)) j (by simpa using hj)
    simp [h1, h2, hne] at this
  have hback : ∀ i, i < ops.size → ∀ o, ops[i]? = some o → ∀ e ∈ o.after, Region.binds .any e = true → e.on < i := by
    intro i hi o ho e he hb
    have := List.all_eq_true.1 hback0 i (by simpa using hi)
    simp only [ho, Option.map_some, Option.getD_some] at this
    rw [List.all_eq_true] at this
    have := this e (by simpa using he)
    simpa [hb] using this
  have hNt : ∀ i, i < ops.size → ∀ t, dstOf ops i = some t → t < N := by
    intro i hi t ht
    have := List.all_eq_true.1 hN i (by simpa using hi)
    simpa [ht] using this
  have hin : ∀ i, i < ops.size → i ∈ C ∨ i ∈ R := fun i hi => by simpa using List.all_eq_true.1 hpart i (by simpa using hi)
  have hCn : C.Nodup := (List.nodup_append.1 hnd).1
  obtain ⟨c, hDL, hq⟩ := DQT_spec hCn h
  have hgs : ∀ (listed : Array Bool) (i j : Nat), i < listed.size → (listed.setIfInBounds i true).getD j false = if j = i then true else listed.getD j false := by
    intro listed i j hil
    simp only [Array.getD_eq_getD_getElem?, Array.getElem?_setIfInBounds]
    by_cases e : j = i
    · subst e; simp [hil]
    · have : ¬ i = j := fun x => e x.symm
      simp [this, e]
  have henv : ∀ (vals : Nat → Value) (rd : List Nat), (∀ i ∈ C, vals i = c i) → envAfter ops vals rd (envAfter ops c C E0) = envAfter ops vals (C ++ rd) E0 := by
    intro vals rd hC
    rw [envAfter_append, envAfter_congr ops vals c C E0 hC]
  have fin : ∀ (listed : Array Bool) (a : Act) (w1 wp : World) (vals : Nat → Value) (rd rs : List Nat), (∀ i, i < ops.size → i ∈ C ∨ i ∈ rd ∨ i ∈ rs) → (∀ i ∈ rd ++ rs, i < ops.size) → Mid ops N E0 listed a vals → (∀ i ∈ C, vals i = c i) → (∀ i ∈ rs, listed.getD i false = false) →
      Chg Nob wp w1 → DT P ops Q N (K w.drew) rs.length rs (envAfter ops vals rd (envAfter ops c C E0)) wp → (∀ i, i < ops.size → listed.getD i false = true) → Q .normal a w1 := by
    intro listed a w1 wp vals rd rs hpt hrl m hC hrs hpw hdl hall
    cases rs with
    | cons r rs =>
      have h1 := hall r (hrl r (by simp))
      have h2 := hrs r (by simp)
      rw [h1] at h2; cases h2
    | nil =>
      refine hdl w1 hpw a ⟨m.tsz, m.dfs, fun t v ht => ?_⟩
      rw [henv vals rd hC] at ht
      rcases (Rep.start ops E0 vals).after (C ++ rd) t v ht with ⟨j, hj, hd, rfl⟩ | ⟨h1, h2⟩
      · have hjl : j < ops.size := by
          rcases List.mem_append.1 (by simpa using hj : j ∈ C ++ rd) with h | h
          · exact hlt j (by simp [h])
          · exact hrl j (by simp [h])
        exact m.done j hjl (hall j hjl) t hd
      · refine m.old t v h2 fun j hj _ => h1 j ?_
        rcases hpt j hj with h | h | h
        · simp [h]
        · simp [h]
        · cases h
  have key : ∀ (fuel : Nat) (listed : Array Bool) (a : Act) (w1 wp : World) (vals : Nat → Value) (rd rs : List Nat), (∀ i, i < ops.size → i ∈ C ∨ i ∈ rd ∨ i ∈ rs) → (∀ i ∈ rd ++ rs, i < ops.size ∧ i ∉ C) → rs.Nodup → (∀ i ∈ rd, i ∉ rs) → Mid ops N E0 listed a vals → (∀ i ∈ C, vals i = c i) → (∀ i ∈ rd, listed.getD i false = true) → (∀ i ∈ rs, listed.getD i false = false) →
      K w.drew w1 → Chg Nob wp w1 → DT P ops Q N (K w.drew) rs.length rs (envAfter ops vals rd (envAfter ops c C E0)) wp → ((List.range ops.size).filter fun i => !listed.getD i false).length ≤ fuel → wpAny P .any ops Q fuel listed a w1 := by
    intro fuel
    induction fuel with
    | zero =>
      intro listed a w1 wp vals rd rs hpt hrl hrn hdj m hC hrd hrs hM hpw hdl hf
      have hall : ∀ i, i < ops.size → listed.getD i false = true := by
        intro i hi
        have h0 := List.length_eq_zero_iff.1 (Nat.le_zero.1 hf)
        have : i ∉ (List.range ops.size).filter fun i => !listed.getD i false := by rw [h0]; simp
        simpa [hi] using this
      refine ⟨?_, fin listed a w1 wp vals rd rs hpt (fun i hi => (hrl i hi).1) m hC hrs hpw hdl hall⟩
      refine List.eq_nil_iff_forall_not_mem.2 fun i hi => ?_
      obtain ⟨h1, h2, _⟩ := mem_ready hi
      have h3 := hall i h1
      have : i < listed.size := by rw [m.sz]; exact h1
      simp [Array.getD_eq_getD_getElem?, this] at h2 h3
      rw [h2] at h3; cases h3
    | succ fuel ih =>
      intro listed a w1 wp vals rd rs hpt hrl hrn hdj m hC hrd hrs hM hpw hdl hf
      refine ⟨fun hnil => fin listed a w1 wp vals rd rs hpt (fun i hi => (hrl i hi).1) m hC hrs hpw hdl (ready_nil m.sz hback hnil), fun i hi => ?_⟩
      obtain ⟨hilt, hno, hpre⟩ := mem_ready hi
      have hil : i < listed.size := by rw [m.sz]; exact hilt
      have hno' : listed.getD i false = false := by
        simp [Array.getD_eq_getD_getElem?, hil] at hno ⊢; exact hno
      have ho : ops[i]? = some ops[i] := Array.getElem?_eq_getElem hilt
      have hdo := dstOf_eq ho
      have hf' : ((List.range ops.size).filter fun j => !(listed.setIfInBounds i true).getD j false).length ≤ fuel := by
        have e1 : ((List.range ops.size).filter fun j => !(listed.setIfInBounds i true).getD j false) = ((List.range ops.size).filter fun j => !listed.getD j false).filter fun j => j != i := by
          rw [List.filter_filter]
          congr 1
          funext j
          rw [hgs listed i j hil]
          by_cases e : j = i <;> simp [e]
        rw [e1]
        have : (((List.range ops.size).filter fun j => !listed.getD j false).filter fun j => j != i).length < ((List.range ops.size).filter fun j => !listed.getD j false).length := by
          rw [List.length_filter_lt_length_iff_exists]
          exact ⟨i, List.mem_filter.2 ⟨by simpa using hilt, by rw [hno']; rfl⟩, by simp⟩
        omega
      by_cases hiC : i ∈ C
      · obtain ⟨pre, post, hsp⟩ := List.append_of_mem hiC
        have h1 := hq pre i post hsp _ ho w1 hM
        have hpc : ∀ k ∈ pre, vals k = c k := fun k hk => hC k (by rw [hsp]; simp [hk])
        have hrep : Rep ops E0 vals pre (envAfter ops c pre E0) := by
          have := (Rep.start ops E0 vals).after pre
          rw [envAfter_congr ops vals c pre E0 hpc] at this
          simpa using this
        have hh := m.holds hsrc (pre := pre) (post := post ++ R) (i := i) (by rw [hsp]; simp) hlt hrep hpre hno
        refine wpOp_mono ?_ (wpOp_of_WL ho hh (fun t ht => hNt i hilt t (by rw [hdo]; exact ht)) h1)
        rintro a' w' ⟨v, rfl, rfl, k⟩
        rw [← hdo]
        have hv : ∀ j, (if j = i then c i else vals j) = vals j := fun j => by
          by_cases e : j = i
          · subst e; simp [hC j hiC]
          · simp [e]
        have hm' := m.put hilt hdst (hNt i hilt) hpre hno (c i)
        simp only [hv] at hm'
        refine ih _ _ w' wp vals rd rs hpt hrl hrn hdj hm' hC (fun j hj => ?_) (fun j hj => ?_) (hKp _ _ _ hM k) (hpw.pure k) hdl hf'
        · rw [hgs listed i j hil]; split
          · rfl
          · exact hrd j hj
        · have : j ≠ i := by rintro rfl; exact (hrl j (by simp [hj])).2 hiC
          rw [hgs listed i j hil, if_neg this]; exact hrs j hj
      · have hird : i ∉ rd := fun hx => by have := hrd i hx; rw [hno'] at this; cases this
        have hirs : i ∈ rs := (hpt i hilt).elim (fun h => absurd h hiC) (fun h => h.elim (fun h => absurd h hird) (fun h => h))
        have hpr : preds ops rs i = false := by
          rw [preds, List.any_eq_false]
          intro p hp hb
          have h1 := hpre p hb
          have h2 := hrs p hp
          rw [h1] at h2; cases h2
        obtain ⟨n, hn⟩ : ∃ n, rs.length = n + 1 := ⟨rs.length - 1, by have := List.length_pos_of_mem hirs; omega⟩
        rw [hn] at hdl
        have h1 := AllB_mem hdl i hirs hpr w1 hpw _ ho
        rw [henv vals rd hC] at h1
        have hrep : Rep ops E0 vals (C ++ rd) (envAfter ops vals (C ++ rd) E0) := by simpa using (Rep.start ops E0 vals).after (C ++ rd)
        have hh : Holds N (restr ops i (envAfter ops vals (C ++ rd) E0)) a := by
          have hsT : ∀ t ∈ looks ops i, ∀ j, j < ops.size → dstOf ops j = some t → (j ∈ C → before? ops j i = true) ∧ (before? ops j i = true ∨ before? ops i j = true) := by
            intro t ht j hj hd
            have q1 := List.all_eq_true.1 hsrcT i (by rcases hin i hilt with h | h; exact absurd h hiC; exact h)
            have q2 := List.all_eq_true.1 (List.all_eq_true.1 q1 j (by simpa using hj)) t ht
            simp only [hd, bne_self_eq_false, Bool.false_or] at q2
            by_cases hjC : C.contains j = true
            · rw [hjC] at q2
              simp at q2
              exact ⟨fun _ => q2, .inl q2⟩
            · simp only [Bool.not_eq_true] at hjC
              rw [hjC] at q2
              simp at q2
              exact ⟨fun h => by simp [h] at hjC, q2⟩
          refine ⟨m.tsz, m.dfs, fun t v ht => ?_⟩
          obtain ⟨g1, g2⟩ := restr_lookup ht
          rcases hrep t v g2 with ⟨j, hj, hd, rfl⟩ | ⟨g3, g4⟩
          · have hjl : j < ops.size := by
              rcases List.mem_append.1 (by simpa using hj : j ∈ C ++ rd) with h | h
              · exact hlt j (by simp [h])
              · exact (hrl j (by simp [h])).1
            have hb : before? ops j i = true := by
              rcases List.mem_append.1 (by simpa using hj : j ∈ C ++ rd) with h | h
              · exact (hsT t g1 j hjl hd).1 h
              · rcases (hsT t g1 j hjl hd).2 with h5 | h5
                · exact h5
                · have h6 := m.clo j hjl (hrd j h) i h5
                  rw [hno'] at h6; cases h6
            exact m.done j hjl (hpre j hb) t hd
          · refine m.old t v g4 fun j hj hl hd => ?_
            rcases hpt j hj with h | h | h
            · exact g3 j (by simp [h]) hd
            · exact g3 j (by simp [h]) hd
            · rw [hrs j h] at hl; cases hl
        refine wpOp_mono ?_ (wpOp_of_WL ho hh (fun t ht => hNt i hilt t (by rw [hdo]; exact ht)) h1)
        rintro a' w' ⟨v, rfl, hM', hdl'⟩
        have hm' := m.put hilt hdst (hNt i hilt) hpre hno v
        rw [← hdo]
        have hC' : ∀ j ∈ C, (if j = i then v else vals j) = c j := fun j hj => by
          have : j ≠ i := by rintro rfl; exact hiC hj
          rw [if_neg this]; exact hC j hj
        have hcr : ∀ j ∈ C ++ rd, vals j = (if j = i then v else vals j) := fun j hj => by
          have : j ≠ i := by rintro rfl; exact (List.mem_append.1 hj).elim hiC hird
          rw [if_neg this]
        have her : ∀ j, j ∈ rs.erase i ↔ j ≠ i ∧ j ∈ rs := fun j => List.Nodup.mem_erase_iff hrn
        refine ih _ _ w' w' (fun j => if j = i then v else vals j) (rd ++ [i]) (rs.erase i) (fun j hj => ?_) (fun j hj => ?_) (hrn.erase i) (fun j hj => ?_) hm' hC' (fun j hj => ?_) (fun j hj => ?_) hM' (Chg.refl _ _) ?_ hf'
        · rcases hpt j hj with h | h | h
          · exact .inl h
          · exact .inr (.inl (by simp [h]))
          · by_cases e : j = i
            · exact .inr (.inl (by simp [e]))
            · exact .inr (.inr ((her j).2 ⟨e, h⟩))
        · rcases List.mem_append.1 hj with h | h
          · rcases List.mem_append.1 h with h | h
            · exact hrl j (by simp [h])
            · have : j = i := by simpa using h
              subst this
              exact hrl j (by simp [hirs])
          · exact hrl j (by simp [((her j).1 h).2])
        · intro h
          have h5 := (her j).1 h
          rcases List.mem_append.1 hj with h6 | h6
          · exact hdj j h6 h5.2
          · exact h5.1 (by simpa using h6)
        · rw [hgs listed i j hil]; split
          · rfl
          · rename_i hne
            rcases List.mem_append.1 hj with hj | hj
            · exact hrd j hj
            · exact absurd (by simpa using hj) hne
        · have h5 := (her j).1 hj
          rw [hgs listed i j hil, if_neg h5.1]; exact hrs j h5.2
        · rw [henv _ (rd ++ [i]) hC', ← List.append_assoc, envAfter_append, ← envAfter_congr ops vals _ (C ++ rd) E0 hcr]
          simp only [envAfter, if_true]
          rw [hdo, List.length_erase_of_mem hirs, hn]
          exact hdl'
  refine wp_region_any hm ?_
  refine key ops.size _ a0 w.drew w.drew c [] R (fun i hi => (hin i hi).elim .inl (fun h => .inr (.inr h))) (fun i hi => ⟨hlt i (by simpa using Or.inr (by simpa using hi)), fun h => (List.nodup_append.1 hnd).2.2 i h i (by simpa using hi) rfl⟩) (List.nodup_append.1 hnd).2.1 (fun i h => by cases h) ?_ (fun _ _ => rfl) (fun _ h => by cases h) (fun i hi => ?_) hK0 (Chg.refl _ _) hDL ?_
  · refine ⟨by simp, ha0.size, ha0.defs, fun i hi hl => ?_, fun t v ht _ => ha0.env t v ht, fun i hi hl => ?_⟩
    · simp [Array.getD_eq_getD_getElem?, hi] at hl
    · simp [Array.getD_eq_getD_getElem?, hi] at hl
  · have hi' := hlt i (by simp [hi])
    simp [Array.getD_eq_getD_getElem?, hi']
  · refine Nat.le_trans (List.length_filter_le _ _) (by simp)
theorem WC.drawM {id : Nat} (M : Nat → Prop) (C R : List Nat) (hm : P.follows .mixedOrders = true) (hok : drawOkT ops C R = true) (hN : ((List.range ops.size).all fun i => (dstOf ops i).all fun t => Nat.blt t N) = true) {w : World}
    (h0 : ∀ wd, Chg Nob w wd → wd.heap.size = w.heap.size → DQT P ops Q N (Chg M wd) wd R C E0) : WC P (.region id ops true) Q N E0 w :=
  WC.drawT (fun wd => Chg M wd) C R hm hok hN (Chg.refl _ _) (fun _ _ _ h k => h.pure k) h0
end
section
variable {P : Program} {ops : Array Oper} {Q : Exit → Act → World → Prop} {N : Nat} {M : Nat → Prop} {K : World → Prop} {w0 w : World} {E E' : Env} {R is : List Nat} {i : Nat} {o : Oper}
theorem DQT.step {v : Value} (E' : Env) (ho : ops[i]? = some o) (hs : Sub E' E) (hk : (E'.all fun p => (looks ops i).contains p.1) = true)
    (h1 : ∀ w', K w' → WL P ops (One o.dst fun u w'' => u = v ∧ Chg Nob w' w'') N [o] E' w') (h2 : DQT P ops Q N K w0 R is (putE E o.dst v)) : DQT P ops Q N K w0 R (i :: is) E :=
  ⟨v, fun o' ho' w' hw => by rw [ho] at ho'; injection ho' with ho'; subst ho'; exact (h1 w' hw).sub (sub_restr hs hk), by rw [dstOf_eq ho]; exact h2⟩
theorem DQT.split {b : Bool} (E' : Env) (ho : ops[i]? = some o) (hs : Sub E' E) (hk : (E'.all fun p => (looks ops i).contains p.1) = true)
    (h1 : ∀ w', K w' → WL P ops (One o.dst fun u w'' => u = .bool b ∧ Chg Nob w' w'') N [o] E' w') (ht : b = true → DQT P ops Q N K w0 R is (putE E o.dst (.bool true))) (hf : b = false → DQT P ops Q N K w0 R is (putE E o.dst (.bool false))) : DQT P ops Q N K w0 R (i :: is) E :=
  DQT.step E' ho hs hk h1 (by
    cases b
    · exact hf rfl
    · exact ht rfl)
theorem DQT.done (h : Chg M w0 w0 → DT P ops Q N (Chg M w0) R.length R E w0) : DQT P ops Q N (Chg M w0) w0 R [] E := h (Chg.refl _ _)
theorem DT.step {T : Env → World → Prop} (E' : Env) (ho : ops[i]? = some o) (hs : Sub E' E) (hk : (E'.all fun p => (looks ops i).contains p.1) = true)
    (h1 : ∀ w', Chg Nob w w' → WL P ops (One o.dst fun v w'' => K w'' ∧ T (putE E o.dst v) w'') N [o] E' w') :
    ∀ w', Chg Nob w w' → ∀ o', ops[i]? = some o' → WL P ops (One o'.dst fun v w'' => K w'' ∧ T (putE E o'.dst v) w'') N [o'] (restr ops i E) w' :=
  fun w' hw o' ho' => by rw [ho] at ho'; injection ho' with ho'; subst ho'; exact (h1 w' hw).sub (sub_restr hs hk)
theorem DT.done (h : ∀ w', Chg Nob w w' → WX Q .normal N E w') (rs : List Nat) : DT P ops Q N K 0 rs E w := h
end
end Go.HL
namespace Go.HL
open Go.RowKit
section
variable {P : Program} {ops : Array Oper} {Q : Exit → Act → World → Prop} {N : Nat} {E : Env} {w : World} {rest : List Oper} {ty : TypeId} {pos : String} {af : Array Edge} {d : Nat} {α : Type} {e : Enc α} {S : Nat → Prop}
/-- append to a row that has no room: always a new block -/
theorem WL.append0 {t tx T : TypeId} {s x : Operand} {ao : Option Addr} {bytes : Nat} {ys : List α} {z v : Value} (hinfo : (P.info? T).map (fun i => (i.zero, i.size, i.bytes)) = some (some z, e.sz, bytes)) (hzs : z.cells.size = e.sz)
    (ht : P.underlying t = some (.slice T)) (hs : ev E s = some (.slice ao 0 0)) (hx : ev E x = some v) (ho : Row S w T e ao 0 ([] : List α)) (hsrc : Src P e.sz tx v ys.length (e.all ys) w) (hne : 0 < ys.length)
    (hb : ys.length * bytes ≤ 140737488355328 ∧ ys.length ≤ 9223372036854775807) (hd : Nat.blt d N = true)
    (h : ∀ g c2 w', Row (fun b => b = g) w' T e (some ⟨g, 0, none⟩) c2 ys → Chg Nob w w' → g = w.heap.size → w'.heap.size = w.heap.size + 1 → WL P ops Q N rest ((d, .slice (some ⟨g, 0, none⟩) ys.length c2) :: E) w') :
    WL P ops Q N (⟨some d, .call ⟨.builtin .append, #[s, x], #[t, tx]⟩, ty, pos, af, none⟩ :: rest) E w := by
  obtain ⟨i, hi, h1, h2, h3⟩ := info_parts hinfo
  have hn63 : 0 + ys.length ≤ maxLen := by simpa [maxLen] using hb.2
  have hold : (Builtin.firstCells i.size 0 (.slice ao 0 0)).run P w.drew = .ok ([] : List Value).toArray w.drew := by
    cases ao with
    | none => simp [Builtin.firstCells]
    | some b => exact run_firstCells_some w.drew i.size 0 b 0 0 [] (by simp) (fun j v h => by simp at h)
  have hr := run_append_grow_src (P := P) w t tx ty T i z ht hi h1 ao 0 0 [] hold v ys.length (e.all ys) (by rw [h2]; exact hsrc) (by omega) (by omega) (growslice_fits (by omega) (by rw [h3]; simpa using hb.1))
  have hge := grownCap_ge w (0 + ys.length) 0 T
  have hcm : grownCap w (0 + ys.length) 0 T ≤ maxLen := grownCap_le_maxLen w (0 + ys.length) 0 T hn63
  have hlen : (e.all ys).length = ys.length * e.sz := Enc.all_len _ _
  obtain ⟨cap, hcap⟩ : ∃ cap, cap = grownCap w (0 + ys.length) 0 T := ⟨_, rfl⟩
  rw [← hcap] at hr hge hcm
  obtain ⟨W', hW'⟩ : ∃ W', W' = w.drew.alloc (.cells (([] ++ e.all ys).toArray ++ Builtin.zeroCells z.cells (cap - (0 + ys.length))) T) := ⟨_, rfl⟩
  rw [← hW', Nat.zero_add] at hr
  refine WL.run (.slice (some ⟨w.heap.size, 0, none⟩) ys.length cap) W' (fun a ha => by simp [execOp, resolve, invoke, builtin, ev_eval ha hs, ev_eval ha hx, hr]) hd ?_
  subst hW'
  have hnew := h w.heap.size cap (w.drew.alloc (.cells (([] ++ e.all ys).toArray ++ Builtin.zeroCells z.cells (cap - (0 + ys.length))) T)) ?_ ⟨rfl, rfl, rfl, by simp, fun k hk _ => Below.heap_alloc w.drew _ k hk⟩ rfl (by simp)
  · exact hnew
  · refine ⟨fun a ea => by injection ea with ea; subst ea; rfl, hlen, by omega, .inr ⟨w.heap.size, _, (0, 0), rfl, heap_alloc_new w.drew _, fun j _ h => by omega, hcm, ?_, ?_⟩⟩
    · simp only [Array.size_append, List.size_toArray, size_zeroCells, hzs, List.nil_append, hlen, ← Nat.add_mul]
      congr 1
      omega
    · simp only [Array.toList_append, List.nil_append]
      rw [← hlen]
      exact List.take_left
end
end Go.HL
namespace Go.HL
open Go.RowKit
/-! maps whose keys and values are known by codes -/
section plain
variable {K V : Type} [DecidableEq K]
def mget : List (K × V) → K → Option V
  | [], _ => none
  | (k', v) :: r, k => if k = k' then some v else mget r k
def mput : List (K × V) → K → V → List (K × V)
  | [], k, v => [(k, v)]
  | (k', v') :: r, k, v => if k = k' then (k, v) :: r else (k', v') :: mput r k v
def mdel : List (K × V) → K → List (K × V)
  | [], _ => []
  | (k', v') :: r, k => if k = k' then r else (k', v') :: mdel r k
def fnd (l : List (K × V)) (k : K) : Nat → Option (Nat × V) := match l with
  | [] => fun _ => none
  | (k', v) :: r => fun i => if k = k' then some (i, v) else fnd r k (i + 1)
theorem fnd_none {k : K} : ∀ {l : List (K × V)} {i : Nat}, fnd l k i = none → mget l k = none ∧ (∀ v, mput l k v = l ++ [(k, v)]) ∧ mdel l k = l
  | [], _, _ => ⟨rfl, fun _ => rfl, rfl⟩
  | (k', v') :: r, i, h => by
    simp only [fnd] at h
    split at h
    · cases h
    · rename_i hne
      obtain ⟨h1, h2, h3⟩ := fnd_none h
      refine ⟨by simp [mget, hne, h1], fun v => by simp [mput, hne, h2 v], by simp [mdel, hne, h3]⟩
theorem fnd_some {k : K} {v : V} {j : Nat} : ∀ {l : List (K × V)} {i : Nat}, fnd l k i = some (j, v) → ∃ q, j = i + q ∧ l[q]? = some (k, v) ∧ mget l k = some v ∧ (∀ v', mput l k v' = l.set q (k, v')) ∧ mdel l k = l.eraseIdx q
  | [], _, h => by simp [fnd] at h
  | (k', v') :: r, i, h => by
    simp only [fnd] at h
    split at h
    · rename_i he
      subst he
      injection h with h
      injection h with h1 h2
      subst h1; subst h2
      exact ⟨0, rfl, rfl, by simp [mget], fun v' => by simp [mput], by simp [mdel]⟩
    · rename_i hne
      obtain ⟨q, h1, h2, h3, h4, h5⟩ := fnd_some h
      exact ⟨q + 1, by omega, by simpa using h2, by simp [mget, hne, h3], fun v' => by simp [mput, hne, h4 v'], by simp [mdel, hne, h5]⟩
end plain
section
variable {K V : Type} [DecidableEq K] {kv : K → Value} {vv : V → Value}
/-- a map in memory -/
def Mp (kv : K → Value) (vv : V → Value) (w : World) (m : Nat) (l : List (K × V)) : Prop := ∃ es clk, w.heap[m]? = some (.map es clk) ∧ es.toList.map (fun e => (e.key, e.val)) = l.map (fun p => (kv p.1, vv p.2))
omit [DecidableEq K] in
theorem Mp.lt {w : World} {m : Nat} {l : List (K × V)} (h : Mp kv vv w m l) : m < w.heap.size := by
  obtain ⟨es, clk, h1, _⟩ := h
  exact (Array.getElem?_eq_some_iff.1 h1).1
omit [DecidableEq K] in
theorem Mp.chg {M : Nat → Prop} {w w' : World} {m : Nat} {l : List (K × V)} (h : Mp kv vv w m l) (k : Chg M w w') (hm : ¬ M m) : Mp kv vv w' m l := by
  obtain ⟨es, clk, h1, h2⟩ := h
  exact ⟨es, clk, k.obj h1 hm, h2⟩
omit [DecidableEq K] in
theorem Mp.pure {w w' : World} {m : Nat} {l : List (K × V)} (h : Mp kv vv w m l) (k : Chg Nob w w') : Mp kv vv w' m l := h.chg k (fun x => x)
/-- what a type of keys must do -/
structure KeyOk (P : Program) (T : TypeId) (kv : K → Value) : Prop where
  chk : ∀ em w k, (Instr.checkKey em 10000 T (kv k)).run P w = .ok () w
  eq : ∀ w k k', (Op.equal T (kv k) (kv k')).run P w = .ok (decide (k = k')) w
  st : ∃ fs, P.underlying T = some (.struct fs)
  same : ∀ k, Instr.sameBits 10000 (kv k) (kv k) = true
variable {P : Program} {T : TypeId}
theorem run_findAsking (hk : KeyOk P T kv) (w : World) (k : K) : ∀ (es : List MapEntry) (l : List (K × V)) (i : Nat), es.map (fun e => (e.key, e.val)) = l.map (fun p => (kv p.1, vv p.2)) →
    (Instr.findAsking T (kv k) es i).run P w = .ok ((fnd l k i).map fun r => (r.1, vv r.2)) w
  | [], l, i, h => by
    cases l with
    | nil => simp [Instr.findAsking, fnd]
    | cons p r => simp at h
  | e :: es, l, i, h => by
    cases l with
    | nil => simp at h
    | cons p r =>
      obtain ⟨k', v'⟩ := p
      simp only [List.map_cons, List.cons.injEq, Prod.mk.injEq] at h
      obtain ⟨⟨h1, h2⟩, h3⟩ := h
      have ih := run_findAsking hk w k es r (i + 1) h3
      by_cases he : k = k'
      · simp [Instr.findAsking, h1, hk.eq, he, fnd, h2]
      · simp [Instr.findAsking, h1, hk.eq, he, fnd, ih]
theorem run_findKey (hk : KeyOk P T kv) (w : World) (k : K) (es : List MapEntry) (l : List (K × V)) (h : es.map (fun e => (e.key, e.val)) = l.map (fun p => (kv p.1, vv p.2))) :
    (Instr.findKey T (kv k) es).run P w = .ok ((fnd l k 0).map fun r => (r.1, vv r.2)) w := by
  obtain ⟨fs, hu⟩ := hk.st
  have ha := run_findAsking hk w k es l 0 h
  cases es with
  | nil =>
    cases l with
    | nil => simp [Instr.findKey, run_underlying hu, Instr.findNow, fnd]
    | cons p r => simp at h
  | cons e es => simp [Instr.findKey, run_underlying hu, Instr.findNow, Instr.sameNow, ha]
end
section
variable {K V : Type} [DecidableEq K] {kv : K → Value} {vv : V → Value} {P : Program} {ops : Array Oper} {Q : Exit → Act → World → Prop} {N : Nat} {E : Env} {w : World} {rest : List Oper} {d : Nat} {ty t T U : TypeId} {pos : String} {af : Array Edge} {x y z : Operand} {m : Nat} {l : List (K × V)} {k : K}
theorem WL.mlookup {zv : Value} (hk : KeyOk P T kv) (ht : P.underlying t = some (.map T U)) (hz : ∀ w, (zeroValue U).run P w = .ok zv w) (hm : Mp kv vv w m l) (hx : ev E x = some (.map (some m))) (hy : ev E y = some (kv k)) (hd : Nat.blt d N = true)
    (h : WL P ops Q N rest ((d, .tuple #[((mget l k).map vv).getD zv, .bool (mget l k).isSome]) :: E) w) : WL P ops Q N (⟨some d, .lookup t x y true, ty, pos, af, none⟩ :: rest) E w := by
  refine WL.run _ w (fun a ha => ?_) hd h
  obtain ⟨es, clk, h1, h2⟩ := hm
  have hf := run_findKey hk w k es.toList l h2
  simp only [execOp, ev_eval ha hx, ev_eval ha hy]
  cases hq : fnd l k 0 with
  | none =>
    obtain ⟨h3, _⟩ := fnd_none hq
    rw [hq] at hf
    simp [Instr.lookup, run_underlying ht, MapKept.run_getObj_map h1, hk.chk, hf, hz, h3]
  | some r =>
    obtain ⟨j, v⟩ := r
    obtain ⟨q, _, _, h3, _⟩ := fnd_some hq
    rw [hq] at hf
    simp [Instr.lookup, run_underlying ht, MapKept.run_getObj_map h1, hk.chk, hf, h3]
theorem Chg.setBlk (w : World) (m : Nat) (o : Obj) : Chg (· = m) w { w with heap := w.heap.setIfInBounds m o } :=
  ⟨rfl, rfl, rfl, by simp, fun k hk hm => by
    have : m ≠ k := fun e => hm e.symm
    simp [Array.getElem?_setIfInBounds_ne this]⟩
theorem setBlk_get {w : World} {m : Nat} (o : Obj) (h : m < w.heap.size) : ({ w with heap := w.heap.setIfInBounds m o } : World).heap[m]? = some o := by simp [h]
theorem run_thatStays (hk : KeyOk P T kv) (w : World) (k : K) : (Instr.keyThatStays (kv k) (kv k)).run P w = .ok (kv k) w := by
  simp [Instr.keyThatStays, hk.same]
theorem run_mapPut {v : V} (hk : KeyOk P T kv) (ht : P.underlying t = some (.map T U)) (hm : Mp kv vv w m l) (k : K) :
    ∃ w', (Instr.mapUpdate t (.map (some m)) (kv k) (vv v)).run P w = .ok () w' ∧ Mp kv vv w' m (mput l k v) ∧ Chg (· = m) w w' ∧ w'.heap.size = w.heap.size := by
  obtain ⟨es, clk, h1, h2⟩ := hm
  have hlt := (Array.getElem?_eq_some_iff.1 h1).1
  have hf := run_findKey hk w k es.toList l h2
  cases hq : fnd l k 0 with
  | none =>
    obtain ⟨_, h3, _⟩ := fnd_none hq
    rw [hq] at hf
    refine ⟨{ w with heap := w.heap.setIfInBounds m (.map (es.push ⟨kv k, vv v, clk⟩) (clk + 1)) }, ?_, ⟨_, _, setBlk_get _ hlt, ?_⟩, Chg.setBlk _ _ _, by simp⟩
    · simp [Instr.mapUpdate, run_underlying ht, MapKept.run_getObj_map h1, hk.chk, hf, MapKept.run_setObj_map _ h1]
    · rw [h3]
      simp [h2]
  | some r =>
    obtain ⟨j, u⟩ := r
    obtain ⟨q, h3, h4, _, h5, _⟩ := fnd_some hq
    rw [Nat.zero_add] at h3
    subst h3
    rw [hq] at hf
    have hlen : es.toList.length = l.length := by simpa using congrArg List.length h2
    have hjl : j < l.length := (List.getElem?_eq_some_iff.1 h4).1
    have hjs : j < es.size := by rw [← Array.length_toList, hlen]; exact hjl
    have hje : es[j]? = some es[j] := Array.getElem?_eq_getElem hjs
    have hkey : es[j].key = kv k := by
      have := congrArg (fun l : List (Value × Value) => l[j]?) h2
      simp only [List.getElem?_map, h4, Option.map_some, Array.getElem?_toList, hje] at this
      injection this with this
      injection this
    refine ⟨{ w with heap := w.heap.setIfInBounds m (.map (es.modify j fun e => { e with key := kv k, val := vv v }) clk) }, ?_, ⟨_, _, setBlk_get _ hlt, ?_⟩, Chg.setBlk _ _ _, by simp⟩
    · simp [Instr.mapUpdate, run_underlying ht, MapKept.run_getObj_map h1, hk.chk, hf, hje, hkey, run_thatStays hk, MapKept.run_setObj_map _ h1]
    · rw [h5 v]
      apply List.ext_getElem?
      intro i
      have hi := congrArg (fun l : List (Value × Value) => l[i]?) h2
      simp only [List.getElem?_map, Array.getElem?_toList] at hi
      simp only [List.getElem?_map, Array.getElem?_toList, Array.getElem?_modify, List.getElem?_set]
      by_cases e : j = i
      · subst e
        simp [hje, hjl]
      · simp [e, hi]
theorem WL.mput {v : V} (hk : KeyOk P T kv) (ht : P.underlying t = some (.map T U)) (hm : Mp kv vv w m l) (hx : ev E x = some (.map (some m))) (hy : ev E y = some (kv k)) (hv : ev E z = some (vv v))
    (h : ∀ w', w'.heap.size = w.heap.size → Mp kv vv w' m (mput l k v) → Chg (· = m) w w' → WL P ops Q N rest E w') : WL P ops Q N (⟨none, .mapUpdate t x y z, ty, pos, af, none⟩ :: rest) E w := by
  obtain ⟨w', h1, h2, h3, h4⟩ := run_mapPut (v := v) hk ht hm k
  exact WL.run0 w' (fun a ha => by simp [execOp, ev_eval ha hx, ev_eval ha hy, ev_eval ha hv, h1]) (h w' h4 h2 h3)
theorem WL.mdel {ats : Array TypeId} (hk : KeyOk P T kv) (ht : P.underlying t = some (.map T U)) (hm : Mp kv vv w m l) (hx : ev E x = some (.map (some m))) (hy : ev E y = some (kv k)) (hat : ats[0]? = some t) (hd : Nat.blt d N = true)
    (h : ∀ w', w'.heap.size = w.heap.size → Mp kv vv w' m (mdel l k) → Chg (· = m) w w' → WL P ops Q N rest ((d, .tuple #[]) :: E) w') : WL P ops Q N (⟨some d, .call ⟨.builtin .delete, #[x, y], ats⟩, ty, pos, af, none⟩ :: rest) E w := by
  obtain ⟨es, clk, h1, h2⟩ := hm
  have hlt := (Array.getElem?_eq_some_iff.1 h1).1
  have hf := run_findKey hk w k es.toList l h2
  cases hq : fnd l k 0 with
  | none =>
    obtain ⟨_, _, h3⟩ := fnd_none hq
    rw [hq] at hf
    refine WL.run _ { w with heap := w.heap.setIfInBounds m (.map es clk) } (fun a ha => ?_) hd (h _ (by simp) ⟨_, _, setBlk_get _ hlt, by rw [h3]; exact h2⟩ (Chg.setBlk _ _ _))
    simp [execOp, resolve, invoke, builtin, ev_eval ha hx, ev_eval ha hy, Builtin.delete_, hat, run_underlying ht, MapKept.run_getObj_map h1, hk.chk, hf, MapKept.run_setObj_map _ h1]
  | some r =>
    obtain ⟨j, u⟩ := r
    obtain ⟨q, h3, h4, _, _, h5⟩ := fnd_some hq
    rw [Nat.zero_add] at h3
    subst h3
    rw [hq] at hf
    refine WL.run _ { w with heap := w.heap.setIfInBounds m (.map (es.eraseIdxIfInBounds j) clk) } (fun a ha => ?_) hd (h _ (by simp) ⟨_, _, setBlk_get _ hlt, ?_⟩ (Chg.setBlk _ _ _))
    · simp [execOp, resolve, invoke, builtin, ev_eval ha hx, ev_eval ha hy, Builtin.delete_, hat, run_underlying ht, MapKept.run_getObj_map h1, hk.chk, hf, MapKept.run_setObj_map _ h1]
    · rw [h5]
      have hlen : es.toList.length = l.length := by simpa using congrArg List.length h2
      have hjl : j < l.length := (List.getElem?_eq_some_iff.1 h4).1
      have hje : j < es.size := by rw [← Array.length_toList, hlen]; exact hjl
      rw [Array.eraseIdxIfInBounds, dif_pos hje, Array.toList_eraseIdx, List.eraseIdx_eq_take_drop_succ, List.eraseIdx_eq_take_drop_succ, List.map_append, List.map_append, List.map_take, List.map_take, List.map_drop, List.map_drop, h2]
omit [DecidableEq K] in
theorem WL.makeMap (hd : Nat.blt d N = true) (h : ∀ g w', w.heap.size = g → g < w'.heap.size → Mp kv vv w' g [] → Chg Nob w w' → WL P ops Q N rest ((d, .map (some g)) :: E) w') :
    WL P ops Q N (⟨some d, .makeMap t none, ty, pos, af, none⟩ :: rest) E w :=
  WL.run _ (w.alloc (.map #[] 0)) (fun a ha => by simp [execOp, Instr.makeMap, newObj, Sem.run]) hd
    (h _ _ rfl (by simp) ⟨#[], 0, heap_alloc_new w _, rfl⟩ (Chg.alloc _ _))
end
end Go.HL
namespace Go.HL
open Go.RowKit
/-! kinds of blocks -/
def kb (w : World) (b : Nat) : Option (Option TypeId) := (w.heap[b]?).map fun o => match o with
  | .cells _ e _ => some e
  | _ => none
theorem Blk.kb {w : World} {b : Nat} {e : TypeId} {cs : List Value} (h : Blk w b e cs) : kb w b = some (some e) := by
  unfold Blk at h
  simp [Go.HL.kb, h]
theorem Mp.kb {K V : Type} {kv : K → Value} {vv : V → Value} {w : World} {m : Nat} {l : List (K × V)} (h : Mp kv vv w m l) : kb w m = some none := by
  obtain ⟨es, clk, h1, _⟩ := h
  simp [Go.HL.kb, h1]
theorem Own.kb {w : World} {e : TypeId} {sz : Nat} {ao : Option Addr} {n c : Nat} {cs : List Value} (h : Own w e sz ao n c cs) : At (fun b => kb w b = some (some e)) ao := fun a ea => by
  rcases h.2.2 with ⟨rfl, _⟩ | ⟨g, cur, fr, rfl, hg, _⟩
  · cases ea
  · injection ea with ea
    subst ea
    simp [Go.HL.kb, hg]
theorem Row.chgK {α : Type} {S M : Nat → Prop} {w w' : World} {T : TypeId} {e : Enc α} {ao : Option Addr} {c : Nat} {xs : List α} (h : Row S w T e ao c xs) (k : Chg M w w') (hd : ∀ b, b < w.heap.size → M b → kb w b ≠ some (some T)) : Row S w' T e ao c xs :=
  ⟨h.at_, h.own.chg k (fun a ea hm => hd _ (h.own.lt a ea) hm (h.own.kb a ea))⟩
theorem Row.kb {α : Type} {S : Nat → Prop} {w : World} {T : TypeId} {e : Enc α} {ao : Option Addr} {c : Nat} {xs : List α} (h : Row S w T e ao c xs) : Row (fun b => S b ∧ kb w b = some (some T)) w T e ao c xs := ⟨fun a ea => ⟨h.at_ a ea, h.own.kb a ea⟩, h.own⟩
/-! parts of a row of the call's own are written -/
theorem splice_take {α : Type} {L vs : List α} {o n : Nat} (h1 : o + vs.length ≤ n) (h2 : n ≤ L.length) : (L.take o ++ vs ++ L.drop (o + vs.length)).take n = (L.take n).take o ++ vs ++ (L.take n).drop (o + vs.length) := by
  apply List.ext_getElem?
  intro j
  simp only [List.append_assoc, List.getElem?_take, List.getElem?_append, List.length_take, List.getElem?_drop]
  rw [show min o L.length = o from by omega, show min o (min n L.length) = o from by omega]
  by_cases hj : j < n
  · simp only [hj, if_true]
    by_cases h3 : j < o
    · simp [h3, hj]
    · by_cases h4 : j - o < vs.length
      · simp [h3, h4]
      · simp [h3, h4, show o + vs.length + (j - o - vs.length) < n from by omega]
  · simp [hj, show ¬ j < o from by omega, show ¬ j - o < vs.length from by omega]
    intro h5
    exfalso
    omega
section
variable {α : Type} {e : Enc α} {S : Nat → Prop} {w : World} {T : TypeId} {g c : Nat} {xs ys : List α}
theorem Enc.all_set (e : Enc α) {xs : List α} {j : Nat} (hj : j < xs.length) (z : α) : e.all (xs.set j z) = (e.all xs).take (j * e.sz) ++ e.f z ++ (e.all xs).drop (j * e.sz + (e.f z).length) := by
  rw [List.set_eq_take_append_cons_drop, if_pos hj, Enc.all_append, e.len, Enc.all_take, show j * e.sz + e.sz = (j + 1) * e.sz from by rw [Nat.add_mul, Nat.one_mul], Enc.all_drop, List.append_assoc]
  rfl
theorem Row.splice (hr : Row S w T e (some ⟨g, 0, none⟩) c xs) {o : Nat} {vs : List Value} (ho : o + vs.length ≤ xs.length * e.sz) (hl : ys.length = xs.length) (he : (e.all xs).take o ++ vs ++ (e.all xs).drop (o + vs.length) = e.all ys) :
    Row S (w.setCells g o vs) T e (some ⟨g, 0, none⟩) c ys ∧ (∀ j, j < vs.length → (w.cell? ⟨g, o + j, none⟩).isSome = true) ∧ (∀ j, j < vs.length → w.frozen? ⟨g, o + j, none⟩ = false) := by
  obtain ⟨hat, hlen, hcap, hc | ⟨g', cur, fr, hg', hg, hfr, hmax, hsz, htk⟩⟩ := hr
  · cases hc.1
  · injection hg' with hg'
    injection hg' with hg' _ _
    subst hg'
    have hcs : xs.length * e.sz ≤ c * e.sz := Nat.mul_le_mul_right _ hcap
    have hs2 := setCells_same g T fr vs o w cur hg (by omega)
    refine ⟨⟨hat, Enc.all_len _ _, by omega, .inr ⟨g, _, fr, rfl, hs2, ?_, hmax, ?_, ?_⟩⟩, fun j hj => ?_, fun j hj => ?_⟩
    · intro j hj
      refine hfr j ?_
      simp only [List.size_toArray, List.length_append, List.length_take, List.length_drop, Array.length_toList] at hj
      omega
    · simp only [List.size_toArray, List.length_append, List.length_take, List.length_drop, Array.length_toList]
      omega
    · have hcl : cur.toList.length = cur.size := Array.length_toList
      rw [List.toList_toArray, hl, splice_take ho (by omega), htk]
      exact he
    · rw [cell_of_row w g _ cur T fr hg, Array.getElem?_eq_getElem (by omega)]
      rfl
    · have := hfr (o + j) (by omega)
      simp only [World.frozen?, hg]
      simpa using this
theorem Row.take (hr : Row S w T e (some ⟨g, 0, none⟩) c xs) (i : Nat) (hi : i ≤ xs.length) : Row S w T e (some ⟨g, 0, none⟩) c (xs.take i) := by
  obtain ⟨hat, hlen, hcap, hc | ⟨g', cur, fr, hg', hg, hfr, hmax, hsz, htk⟩⟩ := hr
  · cases hc.1
  · refine ⟨hat, Enc.all_len _ _, by simp; omega, .inr ⟨g', cur, fr, hg', hg, hfr, hmax, hsz, ?_⟩⟩
    rw [← Enc.all_take, ← htk, List.take_take, List.length_take, Nat.min_eq_left hi, Nat.min_eq_left (Nat.mul_le_mul_right _ hi)]
end
section
variable {P : Program} {ops : Array Oper} {Q : Exit → Act → World → Prop} {N : Nat} {E : Env} {w : World} {rest : List Oper}
  {d : Nat} {ty : TypeId} {pos : String} {af : Array Edge} {α : Type} {e : Enc α} {S : Nat → Prop} {t tb T : TypeId} {x y : Operand} {g o c : Nat} {xs ys : List α}
theorem Holds.dup {a : Act} (h : Holds N E a) {t : Nat} {v : Value} (hx : ev E (.tmp t) = some v) : Holds N ((t, v) :: E) a := ⟨h.size, h.defs, fun s u hu => by
  by_cases e : s = t
  · subst e
    simp at hu
    subst hu
    exact h.env _ _ hx
  · have hne : (s == t) = false := by simpa using e
    simp only [List.lookup, hne] at hu
    exact h.env s u hu⟩
/-- a bool that isn't known: both ways -/
theorem WL.caseB {l : List Oper} {t : Nat} {b : Bool} (hx : ev E (.tmp t) = some (.bool b)) (hT : b = true → WL P ops Q N l ((t, .bool true) :: E) w) (hF : b = false → WL P ops Q N l ((t, .bool false) :: E) w) : WL P ops Q N l E w := by
  cases b
  · exact fun a ha => hF rfl a (ha.dup hx)
  · exact fun a ha => hT rfl a (ha.dup hx)
theorem setCells_sz (vs : List Value) : ∀ (o : Nat) (w : World), (w.setCells g o vs).heap.size = w.heap.size := by
  induction vs with
  | nil => intro o w; rfl
  | cons v r ih => intro o w; rw [World.setCells, ih]; simp
/-- several cells of a row of the call's own are written -/
theorem WL.storeE {vs : List Value} {k : Nat} (hs : ∀ w, (sizeOf t).run P w = .ok k w) (hr : Row S w T e (some ⟨g, 0, none⟩) c xs) (hx : ev E x = some (.pointer (some ⟨g, o, none⟩))) (hy : ev E y = some (.agg vs.toArray)) (hk : vs.length = k) (h1 : ∀ u ∈ vs, u.oneCell' = true)
    (ho : o + vs.length ≤ xs.length * e.sz) (hl : ys.length = xs.length) (he : (e.all xs).take o ++ vs ++ (e.all xs).drop (o + vs.length) = e.all ys)
    (h : ∀ w', w'.heap.size = w.heap.size → Row S w' T e (some ⟨g, 0, none⟩) c ys → Chg (· = g) w w' → WL P ops Q N rest E w') :
    WL P ops Q N (⟨none, .store t x y, ty, pos, af, none⟩ :: rest) E w := by
  obtain ⟨h2, h3, h4⟩ := hr.splice ho hl he
  refine WL.run0 (w.setCells g o vs) (fun a hh => ?_) (h _ (setCells_sz _ _ _) h2 (setCells_chg g vs o w))
  have hst := run_storeCells_cells (P := P) g o vs 0 w (by simpa using h3) (by simpa using h4) h1
  simp only [Nat.add_zero] at hst
  simp [execOp, ev_eval hh hx, ev_eval hh hy, Instr.storeAt, Instr.sureAddr, storeVar, hs, Value.cells, hk, hst]
theorem WL.ptrNil {ao : Option Addr} (ht : P.underlying t = some (.pointer (P.pointee t))) (hx : ev E x = some (.pointer ao)) (hy : ev E y = some (.pointer none)) (hd : Nat.blt d N = true) (h : WL P ops Q N rest ((d, .bool ao.isNone) :: E) w) :
    WL P ops Q N (⟨some d, .binOp .eql t x y tb, ty, pos, af, none⟩ :: rest) E w :=
  WL.run _ w (fun a ha => by simp [execOp, ev_eval ha hx, ev_eval ha hy, eqGuard, binOp, run_equal_pointer_nil (P := P) w t ao ht]) hd h
theorem WL.ptrSome {ao : Option Addr} (ht : P.underlying t = some (.pointer (P.pointee t))) (hx : ev E x = some (.pointer ao)) (hy : ev E y = some (.pointer none)) (hd : Nat.blt d N = true) (h : WL P ops Q N rest ((d, .bool ao.isSome) :: E) w) :
    WL P ops Q N (⟨some d, .binOp .neq t x y tb, ty, pos, af, none⟩ :: rest) E w :=
  WL.run _ w (fun a ha => by
    have : (!ao.isNone) = ao.isSome := by cases ao <;> rfl
    simp [execOp, ev_eval ha hx, ev_eval ha hy, eqGuard, binOp, run_equal_pointer_nil (P := P) w t ao ht, this]) hd h
end
end Go.HL
namespace Go.HL
open Go.RowKit
/-! comparisons whose answer is known -/
section
variable {P : Program} {ops : Array Oper} {Q : Exit → Act → World → Prop} {N : Nat} {E : Env} {w : World} {rest : List Oper} {d : Nat} {ty : TypeId} {pos : String} {af : Array Edge} {t tb : TypeId} {x y : Operand} {k : IntKind} {m n : Int} {s u : ByteArray}
theorem WL.eqlT (hx : ev E x = some (.int k m)) (hy : ev E y = some (.int k n)) (hd : Nat.blt d N = true) (e : m = n) (h : WL P ops Q N rest ((d, .bool true) :: E) w) : WL P ops Q N (⟨some d, .binOp .eql t x y tb, ty, pos, af, none⟩ :: rest) E w :=
  WL.eql? hx hy hd (fun _ => h) (fun c => by exfalso; first | exact c e | exact e c | omega)
theorem WL.neqF (hx : ev E x = some (.int k m)) (hy : ev E y = some (.int k n)) (hd : Nat.blt d N = true) (e : m = n) (h : WL P ops Q N rest ((d, .bool false) :: E) w) : WL P ops Q N (⟨some d, .binOp .neq t x y tb, ty, pos, af, none⟩ :: rest) E w :=
  WL.neq? hx hy hd (fun c => by exfalso; first | exact c e | exact e c | omega) (fun _ => h)
theorem WL.lssT (hx : ev E x = some (.int k m)) (hy : ev E y = some (.int k n)) (hd : Nat.blt d N = true) (e : m < n) (h : WL P ops Q N rest ((d, .bool true) :: E) w) : WL P ops Q N (⟨some d, .binOp .lss t x y tb, ty, pos, af, none⟩ :: rest) E w :=
  WL.lss? hx hy hd (fun _ => h) (fun c => by exfalso; first | exact c e | exact e c | omega)
theorem WL.sneqF (hx : ev E x = some (.string s)) (hy : ev E y = some (.string u)) (hd : Nat.blt d N = true) (e : s = u) (h : WL P ops Q N rest ((d, .bool false) :: E) w) : WL P ops Q N (⟨some d, .binOp .neq t x y tb, ty, pos, af, none⟩ :: rest) E w :=
  WL.sneq? hx hy hd (fun c => by exfalso; first | exact c e | exact e c) (fun _ => h)
end
end Go.HL
namespace Go.Proofs.YtjeldcjchipdgaaDoor
open Go.RowKit Go.HL
set_option maxRecDepth 100000
theorem eg_9 : ∀ (args : Array Value) (w : World), (callFunc 9 args).run Tryd.prog w = .ok (.enter 9 args) w := eg_of Tryd.func9 (by kernel_rfl) rfl
theorem eg_10 : ∀ (args : Array Value) (w : World), (callFunc 10 args).run Tryd.prog w = .ok (.enter 10 args) w := eg_of Tryd.func10 (by kernel_rfl) rfl
theorem eg_11 : ∀ (args : Array Value) (w : World), (callFunc 11 args).run Tryd.prog w = .ok (.enter 11 args) w := eg_of Tryd.func11 (by kernel_rfl) rfl
theorem eg_12 : ∀ (args : Array Value) (w : World), (callFunc 12 args).run Tryd.prog w = .ok (.enter 12 args) w := eg_of Tryd.func12 (by kernel_rfl) rfl
theorem eg_13 : ∀ (args : Array Value) (w : World), (callFunc 13 args).run Tryd.prog w = .ok (.enter 13 args) w := eg_of Tryd.func13 (by kernel_rfl) rfl
theorem eg_14 : ∀ (args : Array Value) (w : World), (callFunc 14 args).run Tryd.prog w = .ok (.enter 14 args) w := eg_of Tryd.func14 (by kernel_rfl) rfl
theorem eg_15 : ∀ (args : Array Value) (w : World), (callFunc 15 args).run Tryd.prog w = .ok (.enter 15 args) w := eg_of Tryd.func15 (by kernel_rfl) rfl
theorem eg_16 : ∀ (args : Array Value) (w : World), (callFunc 16 args).run Tryd.prog w = .ok (.enter 16 args) w := eg_of Tryd.func16 (by kernel_rfl) rfl
theorem eg_17 : ∀ (args : Array Value) (w : World), (callFunc 17 args).run Tryd.prog w = .ok (.enter 17 args) w := eg_of Tryd.func17 (by kernel_rfl) rfl
theorem eg_20 : ∀ (args : Array Value) (w : World), (callFunc 20 args).run Tryd.prog w = .ok (.enter 20 args) w := eg_of Tryd.func20 (by kernel_rfl) rfl
theorem eg_27 : ∀ (args : Array Value) (w : World), (callFunc 27 args).run Tryd.prog w = .ok (.enter 27 args) w := eg_of Tryd.func27 (by kernel_rfl) rfl
theorem eg_34 : ∀ (args : Array Value) (w : World), (callFunc 34 args).run Tryd.prog w = .ok (.enter 34 args) w := eg_of Tryd.func34 (by kernel_rfl) rfl
theorem eg_35 : ∀ (args : Array Value) (w : World), (callFunc 35 args).run Tryd.prog w = .ok (.enter 35 args) w := eg_of Tryd.func35 (by kernel_rfl) rfl
theorem eg_36 : ∀ (args : Array Value) (w : World), (callFunc 36 args).run Tryd.prog w = .ok (.enter 36 args) w := eg_of Tryd.func36 (by kernel_rfl) rfl
theorem eg_37 : ∀ (args : Array Value) (w : World), (callFunc 37 args).run Tryd.prog w = .ok (.enter 37 args) w := eg_of Tryd.func37 (by kernel_rfl) rfl
theorem eg_38 : ∀ (args : Array Value) (w : World), (callFunc 38 args).run Tryd.prog w = .ok (.enter 38 args) w := eg_of Tryd.func38 (by kernel_rfl) rfl
theorem eg_39 : ∀ (args : Array Value) (w : World), (callFunc 39 args).run Tryd.prog w = .ok (.enter 39 args) w := eg_of Tryd.func39 (by kernel_rfl) rfl
theorem eg_40 : ∀ (args : Array Value) (w : World), (callFunc 40 args).run Tryd.prog w = .ok (.enter 40 args) w := eg_of Tryd.func40 (by kernel_rfl) rfl
theorem eg_41 : ∀ (args : Array Value) (w : World), (callFunc 41 args).run Tryd.prog w = .ok (.enter 41 args) w := eg_of Tryd.func41 (by kernel_rfl) rfl
theorem eg_42 : ∀ (args : Array Value) (w : World), (callFunc 42 args).run Tryd.prog w = .ok (.enter 42 args) w := eg_of Tryd.func42 (by kernel_rfl) rfl
theorem eg_43 : ∀ (args : Array Value) (w : World), (callFunc 43 args).run Tryd.prog w = .ok (.enter 43 args) w := eg_of Tryd.func43 (by kernel_rfl) rfl
theorem eg_44 : ∀ (args : Array Value) (w : World), (callFunc 44 args).run Tryd.prog w = .ok (.enter 44 args) w := eg_of Tryd.func44 (by kernel_rfl) rfl
theorem eg_45 : ∀ (args : Array Value) (w : World), (callFunc 45 args).run Tryd.prog w = .ok (.enter 45 args) w := eg_of Tryd.func45 (by kernel_rfl) rfl
theorem eg_46 : ∀ (args : Array Value) (w : World), (callFunc 46 args).run Tryd.prog w = .ok (.enter 46 args) w := eg_of Tryd.func46 (by kernel_rfl) rfl
theorem eg_47 : ∀ (args : Array Value) (w : World), (callFunc 47 args).run Tryd.prog w = .ok (.enter 47 args) w := eg_of Tryd.func47 (by kernel_rfl) rfl
theorem eg_48 : ∀ (args : Array Value) (w : World), (callFunc 48 args).run Tryd.prog w = .ok (.enter 48 args) w := eg_of Tryd.func48 (by kernel_rfl) rfl
theorem eg_49 : ∀ (args : Array Value) (w : World), (callFunc 49 args).run Tryd.prog w = .ok (.enter 49 args) w := eg_of Tryd.func49 (by kernel_rfl) rfl
theorem eg_50 : ∀ (args : Array Value) (w : World), (callFunc 50 args).run Tryd.prog w = .ok (.enter 50 args) w := eg_of Tryd.func50 (by kernel_rfl) rfl
theorem eg_51 : ∀ (args : Array Value) (w : World), (callFunc 51 args).run Tryd.prog w = .ok (.enter 51 args) w := eg_of Tryd.func51 (by kernel_rfl) rfl
theorem eg_53 : ∀ (args : Array Value) (w : World), (callFunc 53 args).run Tryd.prog w = .ok (.enter 53 args) w := eg_of Tryd.func53 (by kernel_rfl) rfl
theorem eg_59 : ∀ (args : Array Value) (w : World), (callFunc 59 args).run Tryd.prog w = .ok (.enter 59 args) w := eg_of Tryd.func59 (by kernel_rfl) rfl
theorem eg_60 : ∀ (args : Array Value) (w : World), (callFunc 60 args).run Tryd.prog w = .ok (.enter 60 args) w := eg_of Tryd.func60 (by kernel_rfl) rfl
theorem eg_61 : ∀ (args : Array Value) (w : World), (callFunc 61 args).run Tryd.prog w = .ok (.enter 61 args) w := eg_of Tryd.func61 (by kernel_rfl) rfl
theorem eg_62 : ∀ (args : Array Value) (w : World), (callFunc 62 args).run Tryd.prog w = .ok (.enter 62 args) w := eg_of Tryd.func62 (by kernel_rfl) rfl
theorem eg_63 : ∀ (args : Array Value) (w : World), (callFunc 63 args).run Tryd.prog w = .ok (.enter 63 args) w := eg_of Tryd.func63 (by kernel_rfl) rfl
theorem eg_64 : ∀ (args : Array Value) (w : World), (callFunc 64 args).run Tryd.prog w = .ok (.enter 64 args) w := eg_of Tryd.func64 (by kernel_rfl) rfl
theorem eg_65 : ∀ (args : Array Value) (w : World), (callFunc 65 args).run Tryd.prog w = .ok (.enter 65 args) w := eg_of Tryd.func65 (by kernel_rfl) rfl
theorem eg_66 : ∀ (args : Array Value) (w : World), (callFunc 66 args).run Tryd.prog w = .ok (.enter 66 args) w := eg_of Tryd.func66 (by kernel_rfl) rfl
theorem eg_67 : ∀ (args : Array Value) (w : World), (callFunc 67 args).run Tryd.prog w = .ok (.enter 67 args) w := eg_of Tryd.func67 (by kernel_rfl) rfl
theorem eg_68 : ∀ (args : Array Value) (w : World), (callFunc 68 args).run Tryd.prog w = .ok (.enter 68 args) w := eg_of Tryd.func68 (by kernel_rfl) rfl
theorem eg_69 : ∀ (args : Array Value) (w : World), (callFunc 69 args).run Tryd.prog w = .ok (.enter 69 args) w := eg_of Tryd.func69 (by kernel_rfl) rfl
theorem eg_70 : ∀ (args : Array Value) (w : World), (callFunc 70 args).run Tryd.prog w = .ok (.enter 70 args) w := eg_of Tryd.func70 (by kernel_rfl) rfl
theorem eg_76 : ∀ (args : Array Value) (w : World), (callFunc 76 args).run Tryd.prog w = .ok (.enter 76 args) w := eg_of Tryd.func76 (by kernel_rfl) rfl
theorem eg_77 : ∀ (args : Array Value) (w : World), (callFunc 77 args).run Tryd.prog w = .ok (.enter 77 args) w := eg_of Tryd.func77 (by kernel_rfl) rfl
theorem eg_78 : ∀ (args : Array Value) (w : World), (callFunc 78 args).run Tryd.prog w = .ok (.enter 78 args) w := eg_of Tryd.func78 (by kernel_rfl) rfl
theorem eg_79 : ∀ (args : Array Value) (w : World), (callFunc 79 args).run Tryd.prog w = .ok (.enter 79 args) w := eg_of Tryd.func79 (by kernel_rfl) rfl
theorem eg_80 : ∀ (args : Array Value) (w : World), (callFunc 80 args).run Tryd.prog w = .ok (.enter 80 args) w := eg_of Tryd.func80 (by kernel_rfl) rfl
theorem eg_81 : ∀ (args : Array Value) (w : World), (callFunc 81 args).run Tryd.prog w = .ok (.enter 81 args) w := eg_of Tryd.func81 (by kernel_rfl) rfl
theorem eg_82 : ∀ (args : Array Value) (w : World), (callFunc 82 args).run Tryd.prog w = .ok (.enter 82 args) w := eg_of Tryd.func82 (by kernel_rfl) rfl
theorem eg_83 : ∀ (args : Array Value) (w : World), (callFunc 83 args).run Tryd.prog w = .ok (.enter 83 args) w := eg_of Tryd.func83 (by kernel_rfl) rfl
theorem eg_84 : ∀ (args : Array Value) (w : World), (callFunc 84 args).run Tryd.prog w = .ok (.enter 84 args) w := eg_of Tryd.func84 (by kernel_rfl) rfl
theorem eg_85 : ∀ (args : Array Value) (w : World), (callFunc 85 args).run Tryd.prog w = .ok (.enter 85 args) w := eg_of Tryd.func85 (by kernel_rfl) rfl
theorem eg_86 : ∀ (args : Array Value) (w : World), (callFunc 86 args).run Tryd.prog w = .ok (.enter 86 args) w := eg_of Tryd.func86 (by kernel_rfl) rfl
theorem eg_87 : ∀ (args : Array Value) (w : World), (callFunc 87 args).run Tryd.prog w = .ok (.enter 87 args) w := eg_of Tryd.func87 (by kernel_rfl) rfl
theorem eg_88 : ∀ (args : Array Value) (w : World), (callFunc 88 args).run Tryd.prog w = .ok (.enter 88 args) w := eg_of Tryd.func88 (by kernel_rfl) rfl
theorem eg_89 : ∀ (args : Array Value) (w : World), (callFunc 89 args).run Tryd.prog w = .ok (.enter 89 args) w := eg_of Tryd.func89 (by kernel_rfl) rfl
theorem eg_95 : ∀ (args : Array Value) (w : World), (callFunc 95 args).run Tryd.prog w = .ok (.enter 95 args) w := eg_of Tryd.func95 (by kernel_rfl) rfl
theorem eg_99 : ∀ (args : Array Value) (w : World), (callFunc 99 args).run Tryd.prog w = .ok (.enter 99 args) w := eg_of Tryd.func99 (by kernel_rfl) rfl
theorem eg_100 : ∀ (args : Array Value) (w : World), (callFunc 100 args).run Tryd.prog w = .ok (.enter 100 args) w := eg_of Tryd.func100 (by kernel_rfl) rfl
theorem eg_101 : ∀ (args : Array Value) (w : World), (callFunc 101 args).run Tryd.prog w = .ok (.enter 101 args) w := eg_of Tryd.func101 (by kernel_rfl) rfl
theorem eg_102 : ∀ (args : Array Value) (w : World), (callFunc 102 args).run Tryd.prog w = .ok (.enter 102 args) w := eg_of Tryd.func102 (by kernel_rfl) rfl
theorem eg_103 : ∀ (args : Array Value) (w : World), (callFunc 103 args).run Tryd.prog w = .ok (.enter 103 args) w := eg_of Tryd.func103 (by kernel_rfl) rfl
theorem eg_104 : ∀ (args : Array Value) (w : World), (callFunc 104 args).run Tryd.prog w = .ok (.enter 104 args) w := eg_of Tryd.func104 (by kernel_rfl) rfl
theorem eg_105 : ∀ (args : Array Value) (w : World), (callFunc 105 args).run Tryd.prog w = .ok (.enter 105 args) w := eg_of Tryd.func105 (by kernel_rfl) rfl
theorem eg_106 : ∀ (args : Array Value) (w : World), (callFunc 106 args).run Tryd.prog w = .ok (.enter 106 args) w := eg_of Tryd.func106 (by kernel_rfl) rfl
theorem eg_111 : ∀ (args : Array Value) (w : World), (callFunc 111 args).run Tryd.prog w = .ok (.enter 111 args) w := eg_of Tryd.func111 (by kernel_rfl) rfl
theorem eg_112 : ∀ (args : Array Value) (w : World), (callFunc 112 args).run Tryd.prog w = .ok (.enter 112 args) w := eg_of Tryd.func112 (by kernel_rfl) rfl
theorem eg_113 : ∀ (args : Array Value) (w : World), (callFunc 113 args).run Tryd.prog w = .ok (.enter 113 args) w := eg_of Tryd.func113 (by kernel_rfl) rfl
theorem eg_114 : ∀ (args : Array Value) (w : World), (callFunc 114 args).run Tryd.prog w = .ok (.enter 114 args) w := eg_of Tryd.func114 (by kernel_rfl) rfl
theorem eg_117 : ∀ (args : Array Value) (w : World), (callFunc 117 args).run Tryd.prog w = .ok (.enter 117 args) w := eg_of Tryd.func117 (by kernel_rfl) rfl
theorem fld_23_0 (b o : Nat) (w : World) : (Instr.fieldAt 23 (.pointer (some ⟨b, o, none⟩)) 0).run Tryd.prog w = .ok (.pointer (some ⟨b, o + 0, none⟩)) w := by
  simp [Instr.fieldAt, run_underlying Tryd.underlying23, Instr.sureAddr, fieldPlace, Tryd.sizeOf3, Addr.add_lit]
theorem fld_23_1 (b o : Nat) (w : World) : (Instr.fieldAt 23 (.pointer (some ⟨b, o, none⟩)) 1).run Tryd.prog w = .ok (.pointer (some ⟨b, o + 1, none⟩)) w := by
  simp [Instr.fieldAt, run_underlying Tryd.underlying23, Instr.sureAddr, fieldPlace, Tryd.sizeOf3, Addr.add_lit]
theorem fld_23_2 (b o : Nat) (w : World) : (Instr.fieldAt 23 (.pointer (some ⟨b, o, none⟩)) 2).run Tryd.prog w = .ok (.pointer (some ⟨b, o + 2, none⟩)) w := by
  simp [Instr.fieldAt, run_underlying Tryd.underlying23, Instr.sureAddr, fieldPlace, Tryd.sizeOf3, Addr.add_lit]
theorem fld_23_3 (b o : Nat) (w : World) : (Instr.fieldAt 23 (.pointer (some ⟨b, o, none⟩)) 3).run Tryd.prog w = .ok (.pointer (some ⟨b, o + 3, none⟩)) w := by
  simp [Instr.fieldAt, run_underlying Tryd.underlying23, Instr.sureAddr, fieldPlace, Tryd.sizeOf9, Addr.add_lit]
theorem fld_25_0 (b o : Nat) (w : World) : (Instr.fieldAt 25 (.pointer (some ⟨b, o, none⟩)) 0).run Tryd.prog w = .ok (.pointer (some ⟨b, o + 0, none⟩)) w := by
  simp [Instr.fieldAt, run_underlying Tryd.underlying25, Instr.sureAddr, fieldPlace, Tryd.sizeOf3, Addr.add_lit]
theorem fld_25_1 (b o : Nat) (w : World) : (Instr.fieldAt 25 (.pointer (some ⟨b, o, none⟩)) 1).run Tryd.prog w = .ok (.pointer (some ⟨b, o + 1, none⟩)) w := by
  simp [Instr.fieldAt, run_underlying Tryd.underlying25, Instr.sureAddr, fieldPlace, Tryd.sizeOf23, Addr.add_lit]
theorem fld_31_0 (b o : Nat) (w : World) : (Instr.fieldAt 31 (.pointer (some ⟨b, o, none⟩)) 0).run Tryd.prog w = .ok (.pointer (some ⟨b, o + 0, none⟩)) w := by
  simp [Instr.fieldAt, run_underlying Tryd.underlying31, Instr.sureAddr, fieldPlace, Tryd.sizeOf3, Addr.add_lit]
theorem fld_31_1 (b o : Nat) (w : World) : (Instr.fieldAt 31 (.pointer (some ⟨b, o, none⟩)) 1).run Tryd.prog w = .ok (.pointer (some ⟨b, o + 1, none⟩)) w := by
  simp [Instr.fieldAt, run_underlying Tryd.underlying31, Instr.sureAddr, fieldPlace, Tryd.sizeOf23, Addr.add_lit]
theorem fld_75_0 (b o : Nat) (w : World) : (Instr.fieldAt 75 (.pointer (some ⟨b, o, none⟩)) 0).run Tryd.prog w = .ok (.pointer (some ⟨b, o + 0, none⟩)) w := by
  simp [Instr.fieldAt, run_underlying Tryd.underlying75, Instr.sureAddr, fieldPlace, Tryd.sizeOf3, Addr.add_lit]
theorem fld_75_1 (b o : Nat) (w : World) : (Instr.fieldAt 75 (.pointer (some ⟨b, o, none⟩)) 1).run Tryd.prog w = .ok (.pointer (some ⟨b, o + 1, none⟩)) w := by
  simp [Instr.fieldAt, run_underlying Tryd.underlying75, Instr.sureAddr, fieldPlace, Tryd.sizeOf3, Addr.add_lit]
theorem fld_75_2 (b o : Nat) (w : World) : (Instr.fieldAt 75 (.pointer (some ⟨b, o, none⟩)) 2).run Tryd.prog w = .ok (.pointer (some ⟨b, o + 2, none⟩)) w := by
  simp [Instr.fieldAt, run_underlying Tryd.underlying75, Instr.sureAddr, fieldPlace, Tryd.sizeOf9, Addr.add_lit]
theorem fld_86_0 (b o : Nat) (w : World) : (Instr.fieldAt 86 (.pointer (some ⟨b, o, none⟩)) 0).run Tryd.prog w = .ok (.pointer (some ⟨b, o + 0, none⟩)) w := by
  simp [Instr.fieldAt, run_underlying Tryd.underlying86, Instr.sureAddr, fieldPlace, Tryd.sizeOf3, Addr.add_lit]
theorem fld_86_1 (b o : Nat) (w : World) : (Instr.fieldAt 86 (.pointer (some ⟨b, o, none⟩)) 1).run Tryd.prog w = .ok (.pointer (some ⟨b, o + 1, none⟩)) w := by
  simp [Instr.fieldAt, run_underlying Tryd.underlying86, Instr.sureAddr, fieldPlace, Tryd.sizeOf3, Addr.add_lit]
theorem fld_86_2 (b o : Nat) (w : World) : (Instr.fieldAt 86 (.pointer (some ⟨b, o, none⟩)) 2).run Tryd.prog w = .ok (.pointer (some ⟨b, o + 2, none⟩)) w := by
  simp [Instr.fieldAt, run_underlying Tryd.underlying86, Instr.sureAddr, fieldPlace, Tryd.sizeOf83, Addr.add_lit]
theorem fld_86_3 (b o : Nat) (w : World) : (Instr.fieldAt 86 (.pointer (some ⟨b, o, none⟩)) 3).run Tryd.prog w = .ok (.pointer (some ⟨b, o + 3, none⟩)) w := by
  simp [Instr.fieldAt, run_underlying Tryd.underlying86, Instr.sureAddr, fieldPlace, Tryd.sizeOf67, Addr.add_lit]
theorem fld_86_4 (b o : Nat) (w : World) : (Instr.fieldAt 86 (.pointer (some ⟨b, o, none⟩)) 4).run Tryd.prog w = .ok (.pointer (some ⟨b, o + 4, none⟩)) w := by
  simp [Instr.fieldAt, run_underlying Tryd.underlying86, Instr.sureAddr, fieldPlace, Tryd.sizeOf84, Addr.add_lit]
theorem fld_86_5 (b o : Nat) (w : World) : (Instr.fieldAt 86 (.pointer (some ⟨b, o, none⟩)) 5).run Tryd.prog w = .ok (.pointer (some ⟨b, o + 5, none⟩)) w := by
  simp [Instr.fieldAt, run_underlying Tryd.underlying86, Instr.sureAddr, fieldPlace, Tryd.sizeOf4, Addr.add_lit]
theorem fld_86_6 (b o : Nat) (w : World) : (Instr.fieldAt 86 (.pointer (some ⟨b, o, none⟩)) 6).run Tryd.prog w = .ok (.pointer (some ⟨b, o + 6, none⟩)) w := by
  simp [Instr.fieldAt, run_underlying Tryd.underlying86, Instr.sureAddr, fieldPlace, Tryd.sizeOf4, Addr.add_lit]
theorem fld_86_7 (b o : Nat) (w : World) : (Instr.fieldAt 86 (.pointer (some ⟨b, o, none⟩)) 7).run Tryd.prog w = .ok (.pointer (some ⟨b, o + 7, none⟩)) w := by
  simp [Instr.fieldAt, run_underlying Tryd.underlying86, Instr.sureAddr, fieldPlace, Tryd.sizeOf3, Addr.add_lit]
theorem fld_92_0 (b o : Nat) (w : World) : (Instr.fieldAt 92 (.pointer (some ⟨b, o, none⟩)) 0).run Tryd.prog w = .ok (.pointer (some ⟨b, o + 0, none⟩)) w := by
  simp [Instr.fieldAt, run_underlying Tryd.underlying92, Instr.sureAddr, fieldPlace, Tryd.sizeOf90, Addr.add_lit]
theorem fld_92_1 (b o : Nat) (w : World) : (Instr.fieldAt 92 (.pointer (some ⟨b, o, none⟩)) 1).run Tryd.prog w = .ok (.pointer (some ⟨b, o + 2, none⟩)) w := by
  simp [Instr.fieldAt, run_underlying Tryd.underlying92, Instr.sureAddr, fieldPlace, Tryd.sizeOf26, Addr.add_lit]
theorem info_4 : (Tryd.prog.info? 4).map (fun i => (i.zero, i.size, i.bytes)) = some (some (.bool false), 1, 1) := by kernel_rfl
theorem info_5 : (Tryd.prog.info? 5).map (fun i => (i.zero, i.size, i.bytes)) = some (some (.int .u8 0), 1, 1) := by kernel_rfl
theorem info_25 : (Tryd.prog.info? 25).map (fun i => (i.zero, i.size, i.bytes)) = some (some (.agg #[(.int .i64 0), (.int .i64 0), (.int .i64 0), (.int .i64 0), (.string ⟨#[]⟩)]), 5, 48) := by kernel_rfl
theorem info_44 : (Tryd.prog.info? 44).map (fun i => (i.zero, i.size, i.bytes)) = some (some (.int .u64 0), 1, 8) := by kernel_rfl
theorem info_75 : (Tryd.prog.info? 75).map (fun i => (i.zero, i.size, i.bytes)) = some (some (.agg #[(.int .i64 0), (.int .i64 0), (.string ⟨#[]⟩)]), 3, 32) := by kernel_rfl
theorem info_92 : (Tryd.prog.info? 92).map (fun i => (i.zero, i.size, i.bytes)) = some (some (.agg #[(.int .i64 0), (.int .i64 0), (.slice none 0 0)]), 3, 40) := by kernel_rfl
theorem bld_25_0_1 (x0 : Int) (x1 : Int) (x2 : Int) (x3 : Int) (x4 : ByteArray) (w : World) : (Instr.build 25 #[(0, .int .i64 x0), (1, .agg #[.int .i64 x1, .int .i64 x2, .int .i64 x3, .string x4])]).run Tryd.prog w = .ok (.agg #[.int .i64 x0, .int .i64 x1, .int .i64 x2, .int .i64 x3, .string x4]) w := by
  simp [Instr.build, run_underlying Tryd.underlying25, Tryd.zeroValue25, Instr.fill, Value.cells, Tryd.sizeOf3, Tryd.sizeOf23]
theorem bld_25_z  (w : World) : (Instr.build 25 #[]).run Tryd.prog w = .ok (.agg #[(.int .i64 0), (.int .i64 0), (.int .i64 0), (.int .i64 0), (.string ⟨#[]⟩)]) w := by
  simp [Instr.build, run_underlying Tryd.underlying25, Tryd.zeroValue25, Instr.fill, Value.cells, Tryd.sizeOf3, Tryd.sizeOf23]
theorem bld_75_0_1 (x0 : Int) (x1 : Int) (w : World) : (Instr.build 75 #[(0, .int .i64 x0), (1, .int .i64 x1)]).run Tryd.prog w = .ok (.agg #[.int .i64 x0, .int .i64 x1, (.string ⟨#[]⟩)]) w := by
  simp [Instr.build, run_underlying Tryd.underlying75, Tryd.zeroValue75, Instr.fill, Value.cells, Tryd.sizeOf3, Tryd.sizeOf9]
theorem bld_75_0_2 (x0 : Int) (x1 : ByteArray) (w : World) : (Instr.build 75 #[(0, .int .i64 x0), (2, .string x1)]).run Tryd.prog w = .ok (.agg #[.int .i64 x0, (.int .i64 0), .string x1]) w := by
  simp [Instr.build, run_underlying Tryd.underlying75, Tryd.zeroValue75, Instr.fill, Value.cells, Tryd.sizeOf3, Tryd.sizeOf9]
theorem bld_31_0_1 (x0 : Int) (x1 : Int) (x2 : Int) (x3 : Int) (x4 : ByteArray) (w : World) : (Instr.build 31 #[(0, .int .i64 x0), (1, .agg #[.int .i64 x1, .int .i64 x2, .int .i64 x3, .string x4])]).run Tryd.prog w = .ok (.agg #[.int .i64 x0, .int .i64 x1, .int .i64 x2, .int .i64 x3, .string x4]) w := by
  simp [Instr.build, run_underlying Tryd.underlying31, Tryd.zeroValue31, Instr.fill, Value.cells, Tryd.sizeOf3, Tryd.sizeOf23]
theorem bld_31_z  (w : World) : (Instr.build 31 #[]).run Tryd.prog w = .ok (.agg #[(.int .i64 0), (.int .i64 0), (.int .i64 0), (.int .i64 0), (.string ⟨#[]⟩)]) w := by
  simp [Instr.build, run_underlying Tryd.underlying31, Tryd.zeroValue31, Instr.fill, Value.cells, Tryd.sizeOf3, Tryd.sizeOf23]
theorem bld_86_0_1_2_3 (x0 : Int) (x1 : Int) (x2 : Option Nat) (xa3 : Option Addr) (xn3 xc3 : Nat) (w : World) : (Instr.build 86 #[(0, .int .i64 x0), (1, .int .i64 x1), (2, .map x2), (3, .slice xa3 xn3 xc3)]).run Tryd.prog w = .ok (.agg #[.int .i64 x0, .int .i64 x1, .map x2, .slice xa3 xn3 xc3, (.slice none 0 0), (.bool false), (.bool false), (.int .i64 0)]) w := by
  simp [Instr.build, run_underlying Tryd.underlying86, Tryd.zeroValue86, Instr.fill, Value.cells, Tryd.sizeOf3, Tryd.sizeOf4, Tryd.sizeOf67, Tryd.sizeOf83, Tryd.sizeOf84]
theorem bld_23_0_1_2_3 (x0 : Int) (x1 : Int) (x2 : Int) (x3 : ByteArray) (w : World) : (Instr.build 23 #[(0, .int .i64 x0), (1, .int .i64 x1), (2, .int .i64 x2), (3, .string x3)]).run Tryd.prog w = .ok (.agg #[.int .i64 x0, .int .i64 x1, .int .i64 x2, .string x3]) w := by
  simp [Instr.build, run_underlying Tryd.underlying23, Tryd.zeroValue23, Instr.fill, Value.cells, Tryd.sizeOf3, Tryd.sizeOf9]
theorem bld_90_0_1 (x0 : Int) (x1 : Int) (w : World) : (Instr.build 90 #[(0, .int .i64 x0), (1, .int .i64 x1)]).run Tryd.prog w = .ok (.agg #[.int .i64 x0, .int .i64 x1]) w := by
  simp [Instr.build, run_underlying Tryd.underlying90, Tryd.zeroValue90, Instr.fill, Value.cells, Tryd.sizeOf3]
theorem bld_23_z  (w : World) : (Instr.build 23 #[]).run Tryd.prog w = .ok (.agg #[(.int .i64 0), (.int .i64 0), (.int .i64 0), (.string ⟨#[]⟩)]) w := by
  simp [Instr.build, run_underlying Tryd.underlying23, Tryd.zeroValue23, Instr.fill, Value.cells, Tryd.sizeOf3, Tryd.sizeOf9]
theorem bld_92_0_1 (x0 : Int) (x1 : Int) (xa2 : Option Addr) (xn2 xc2 : Nat) (w : World) : (Instr.build 92 #[(0, .agg #[.int .i64 x0, .int .i64 x1]), (1, .slice xa2 xn2 xc2)]).run Tryd.prog w = .ok (.agg #[.int .i64 x0, .int .i64 x1, .slice xa2 xn2 xc2]) w := by
  simp [Instr.build, run_underlying Tryd.underlying92, Tryd.zeroValue92, Instr.fill, Value.cells, Tryd.sizeOf26, Tryd.sizeOf90]
theorem bld_25_0 (x0 : Int) (w : World) : (Instr.build 25 #[(0, .int .i64 x0)]).run Tryd.prog w = .ok (.agg #[.int .i64 x0, (.int .i64 0), (.int .i64 0), (.int .i64 0), (.string ⟨#[]⟩)]) w := by
  simp [Instr.build, run_underlying Tryd.underlying25, Tryd.zeroValue25, Instr.fill, Value.cells, Tryd.sizeOf3, Tryd.sizeOf23]
theorem bld_161_0_1_2_3_4_5_6_7 (x0 : Int) (x1 : Int) (x2 : Int) (x3 : Int) (x4 : Int) (x5 : Int) (x6 : Int) (x7 : Int) (w : World) : (Instr.build 161 #[(0, .int .u32 x0), (1, .int .u32 x1), (2, .int .u32 x2), (3, .int .u32 x3), (4, .int .u32 x4), (5, .int .u32 x5), (6, .int .u32 x6), (7, .int .u32 x7)]).run Tryd.prog w = .ok (.agg #[.int .u32 x0, .int .u32 x1, .int .u32 x2, .int .u32 x3, .int .u32 x4, .int .u32 x5, .int .u32 x6, .int .u32 x7]) w := by
  simp [Instr.build, run_underlying Tryd.underlying161, Tryd.zeroValue161, Instr.fill, Value.cells, Tryd.sizeOf159]
theorem mixed : Tryd.prog.follows .mixedOrders = true := by kernel_rfl
end Go.Proofs.YtjeldcjchipdgaaDoor
namespace Go.HL
open Go.RowKit
section
variable {P : Program} {ops : Array Oper} {Q : Exit → Act → World → Prop} {N : Nat} {E : Env} {w : World} {rest : List Oper} {ty : TypeId} {pos : String} {af : Array Edge} {d : Nat} {α : Type} {e : Enc α} {t T tx : TypeId}
theorem all_app (xs ys : List α) : e.all (xs ++ ys) = e.all xs ++ e.all ys := by simp [Enc.all]
/-- copy into a row of the call's own, behind its first i elements; what is copied is no longer than what is there -/
theorem WL.copyRow {S S2 : Nat → Prop} {x y : Operand} {g c i cy : Nat} {ao : Option Addr} {xs ys : List α} (ht : P.underlying t = some (.slice T)) (hinfo : (P.info? T).map (·.size) = some 1) (h1 : e.sz = 1) (hr : Row S w T e (some ⟨g, 0, none⟩) c xs) (hy : RSl S2 w e ao cy ys) (hi : i + ys.length ≤ xs.length) (hne : 0 < ys.length)
    (hx : ev E x = some (.slice (cutAt (some ⟨g, 0, none⟩) c i e.sz) (xs.length - i) (c - i))) (hs : ev E y = some (.slice ao ys.length cy)) (hd : Nat.blt d N = true)
    (h : ∀ w', w'.heap.size = w.heap.size → Row S w' T e (some ⟨g, 0, none⟩) c (xs.take i ++ ys ++ xs.drop (i + ys.length)) → Chg (· = g) w w' → WL P ops Q N rest ((d, .int .i64 (ys.length : Int)) :: E) w') :
    WL P ops Q N (⟨some d, .call ⟨.builtin .copy, #[x, y], #[t, tx]⟩, ty, pos, af, none⟩ :: rest) E w := by
  have hcap := hr.own.cap
  have hne2 : ¬ c = i := by omega
  have hcut : cutAt (some (⟨g, 0, none⟩ : Addr)) c i e.sz = some ⟨g, i, none⟩ := by simp [cutAt, hne2, Addr.add_lit, h1]
  rw [hcut] at hx
  obtain ⟨vs, hvs⟩ : ∃ vs, vs = e.all ys := ⟨_, rfl⟩
  have hvl : vs.length = ys.length := by rw [hvs, Enc.all_len, h1, Nat.mul_one]
  have hv1 : ∀ u ∈ vs, u.oneCell' = true := by
    rw [hvs]
    intro u hu
    obtain ⟨q, _, hq⟩ := List.mem_flatMap.1 hu
    exact e.one q u hq
  obtain ⟨a, rfl⟩ : ∃ a, ao = some a := by
    cases ao with
    | none => have := hy.none_nil; subst this; simp at hne
    | some a => exact ⟨a, rfl⟩
  obtain ⟨hat, hlen, hcp, hc0 | ⟨g', cur, fr, hg', hg, hfr, hmax, hsz, htk⟩⟩ := hr
  · cases hc0.1
  · injection hg' with hg'
    injection hg' with hg' _ _
    subst hg'
    rw [h1] at hsz htk hlen
    simp only [Nat.mul_one] at hsz htk hlen
    have hl := run_loadCells_list (P := P) w a vs (fun j v hj => by
      rw [hvs] at hj
      obtain ⟨b, off, ea, hc⟩ := hy.sl.2 j v hj
      injection ea with ea
      subst ea
      rw [Addr.add_lit]
      exact hc)
    have hs2 := setCells_same g T fr vs i w cur hg (by omega)
    have hst := run_storeCells_cells (P := P) g i vs 0 w (fun j hj => by
      rw [Nat.add_zero, cell_of_row w g _ cur T fr hg, Array.getElem?_eq_getElem (by omega)]
      rfl) (fun j hj => by
      have := hfr (i + 0 + j) (by omega)
      simp only [World.frozen?, hg]
      simpa using this) hv1
    simp only [Nat.add_zero] at hst
    refine WL.run (.int .i64 (ys.length : Int)) (w.setCells g i vs) (fun a' ha => ?_) hd (h _ (setCells_sz _ _ _) ⟨hat, Enc.all_len _ _, by simp; omega, .inr ⟨g, _, fr, rfl, hs2, ?_, hmax, ?_, ?_⟩⟩ (setCells_chg g vs _ w))
    · have hmin : Nat.min ys.length (xs.length - i) = ys.length := Nat.min_eq_left (by omega)
      have hcl : (Builtin.copy_ #[t, tx] ty #[.slice (some ⟨g, i, none⟩) (xs.length - i) (c - i), .slice (some a) ys.length cy]).run P w = .ok (.int .i64 (ys.length : Int)) (w.setCells g i vs) := by
        cases hq : P.info? T with
        | none => simp [hq] at hinfo
        | some ii =>
          have hi1 : ii.size = 1 := by simpa [hq] using hinfo
          rw [hvl] at hl
          simp [Builtin.copy_, run_underlying ht, Builtin.lenOf, Builtin.firstCells, sizeOf, typeInfo, hq, hi1, hmin, hl, hst]
          rfl
      simp [execOp, resolve, invoke, builtin, ev_eval ha hx, ev_eval ha hs, hcl]
    · intro j hj
      refine hfr j ?_
      simp only [List.size_toArray, List.length_append, List.length_take, List.length_drop, Array.length_toList] at hj
      omega
    · simp only [List.size_toArray, List.length_append, List.length_take, List.length_drop, Array.length_toList, h1, Nat.mul_one]
      omega
    · have e1 : e.all (xs.take i) = cur.toList.take i := by
        have := Enc.all_take e xs i
        rw [h1, Nat.mul_one] at this
        rw [← this, ← htk, List.take_take, Nat.min_eq_left (by omega)]
      have e2 : e.all (xs.drop (i + ys.length)) = (cur.toList.take xs.length).drop (i + ys.length) := by
        have h5 : e.all xs = e.all (xs.take (i + ys.length)) ++ e.all (xs.drop (i + ys.length)) := by rw [← all_app, List.take_append_drop]
        have h6 : (e.all (xs.take (i + ys.length))).length = i + ys.length := by rw [Enc.all_len, h1, Nat.mul_one, List.length_take]; omega
        rw [htk, h5, List.drop_append_of_le_length (by omega), List.drop_of_length_le (l := e.all (xs.take (i + ys.length))) (by omega), List.nil_append]
      rw [all_app, all_app, e1, e2, ← hvs]
      have hcl : cur.toList.length = cur.size := Array.length_toList
      apply List.ext_getElem?
      intro j
      simp only [h1, Nat.mul_one, List.getElem?_take, List.getElem?_append, List.length_append, List.length_take, List.getElem?_drop, List.length_drop, hcl, hvl]
      by_cases h7 : j < i
      · have a1 : j < min i cur.size := by omega
        have a2 : j < min i cur.size + ys.length := by omega
        have a3 : j < min i xs.length + ys.length + (xs.length - (i + ys.length)) := by omega
        simp [a1, a2, a3]
      · by_cases h8 : j < i + ys.length
        · have a1 : ¬ j < min i cur.size := by omega
          have a2 : j < min i cur.size + ys.length := by omega
          have a3 : j < min i xs.length + ys.length + (xs.length - (i + ys.length)) := by omega
          simp [a1, a2, a3]
        · have a1 : ¬ j < min i cur.size := by omega
          have a2 : ¬ j < min i cur.size + ys.length := by omega
          have a4 : i + ys.length + (j - (min i cur.size + ys.length)) = j := by omega
          by_cases h9 : j < xs.length
          · have a3 : j < min i xs.length + ys.length + (xs.length - (i + ys.length)) := by omega
            simp only [a1, a2, a3, a4, h9, if_true, if_false]
          · have a3 : ¬ j < min i xs.length + ys.length + (xs.length - (i + ys.length)) := by omega
            simp only [a3, a1, a2, a4, h9, if_false]
end
end Go.HL
namespace Go.Proofs.YtjeldcjchipdgaaDoor
open Go.RowKit Go.HL
set_option maxRecDepth 100000

/-! bytes.Trim with one nought -/
theorem drop_pred {xs : List UInt8} {k : Nat} {x : UInt8} (hk : 0 < k) (hx : xs[k - 1]? = some x) : xs.drop (k - 1) = x :: xs.drop k := by
  obtain ⟨h1, h2⟩ := List.getElem?_eq_some_iff.1 hx
  rw [List.drop_eq_getElem_cons h1, h2, show k - 1 + 1 = k from by omega]
theorem trimR_calls {w : World} {ao : Option Addr} {c : Nat} {xs : List UInt8} (hr : RSl (· < w.heap.size) w eb ao c xs) (hl : xs.length ≤ 140737488351232) :
    Calls Tryd.prog 89 [.slice ao xs.length c, v8 0].toArray w (Ret fun v w' => (∃ (k : Nat) (ao' : Option Addr) (c' : Nat), k ≤ xs.length ∧ v = .slice ao' (xs.take k).length c' ∧ RSl (· < w.heap.size) w' eb ao' c' (xs.take k) ∧ (∀ x ∈ xs.drop k, x = 0) ∧ (k = 0 ∨ ∃ x, xs[k - 1]? = some x ∧ x ≠ 0)) ∧ Chg Nob w w') := by
  refine Calls.of_WC Tryd.func89 rfl Tryd.ntmps89 (by simp) ?_
  refine WC.seq (WC.region (WL.assign rfl rfl (WL.nil (WX.then_normal (WC.seq (WC.block (?_)))))))
  refine WC.loop (σ := List UInt8 × Option Addr × Nat) (fun q => [(0, .slice q.2.1 q.1.length q.2.2), (1, v8 0)])
    (fun q w' => RSl (· < w.heap.size) w' eb q.2.1 q.2.2 q.1 ∧ (∃ k, k ≤ xs.length ∧ q.1 = xs.take k ∧ ∀ x ∈ xs.drop k, x = 0) ∧ Chg Nob w w') (fun q => q.1.length) (xs, ao, c) ⟨rfl, rfl, trivial⟩ ⟨hr, ⟨xs.length, Nat.le_refl _, by simp, by simp⟩, Chg.refl _ _⟩ ?_
  clear hr
  rintro ⟨ys, ay, cy⟩ w1 ⟨hq, ⟨k, hk, hys, hz⟩, kk⟩
  dsimp only at hq hys ⊢
  have hln : ys.length = k := by rw [hys, List.length_take]; omega
  refine WC.seq (WC.seq (WC.region (WL.move rfl rfl (WL.len Tryd.underlying26 rfl rfl (?_)))))
  refine WL.gtr? rfl rfl rfl (fun h7 => ?_) (fun h7 => ?_)
  ·
    refine WL.move rfl rfl (WL.want rfl rfl rfl (WL.move rfl rfl (WL.want rfl rfl rfl (WL.move rfl rfl (WL.want rfl rfl rfl (WL.len Tryd.underlying26 rfl rfl (WL.want rfl rfl rfl (?_))))))))
    refine WL.sub64 rfl rfl (by constructor <;> omega) rfl ?_
    rw [show ((ys.length : Int) - 1) = ((k - 1 : Nat) : Int) from by omega]
    refine WL.want rfl rfl rfl (?_)
    obtain ⟨x, hx⟩ : ∃ x, ys[k - 1]? = some x := ⟨_, List.getElem?_eq_getElem (by omega)⟩
    refine WL.indexT Tryd.underlying26 Tryd.sizeOf5 hq rfl rfl ⟨hx, rfl⟩ rfl ?_
    intro b_1 o_1 hc_1
    refine WL.want rfl rfl rfl (WL.load Tryd.isAgg5 rfl (hc_1 0 _ rfl) rfl (WL.want rfl rfl rfl (WL.move rfl rfl (WL.want rfl rfl rfl (?_)))))
    refine WL.eql? rfl rfl rfl (fun h16 => ?_) (fun h16 => ?_)
    ·
      refine WL.pickT rfl rfl rfl (WL.nil (WX.then_normal (WC.cond_true rfl (WC.skip (WX.then_normal (WC.block (WC.region (?_))))))))
      refine WL.move rfl rfl (WL.move rfl rfl (WL.len Tryd.underlying26 rfl rfl (?_)))
      refine WL.sub64 rfl rfl (by constructor <;> omega) rfl ?_
      rw [show ((ys.length : Int) - 1) = ((k - 1 : Nat) : Int) from by omega]
      refine WL.slice (l := 0) (h := (k - 1)) (k := .i64) Tryd.underlying26 Tryd.sizeOf5 hq rfl (.inr ⟨rfl, rfl⟩) (.inl rfl) (by constructor <;> omega) rfl ?_
      intro a_hs c_hs hs n_hs
      refine WL.assign rfl rfl (WL.nil (WX.block_normal (?_)))
      have hk0 : 0 < k := by omega
      refine WX.loop_next (List.drop 0 (List.take (k - 1) ys), a_hs, c_hs) ⟨rfl, rfl, trivial⟩ ⟨hs, ⟨k - 1, by omega, ?_, ?_⟩, kk⟩ (by show List.length _ < _; simp; omega)
      ·
        show List.drop 0 (List.take (k - 1) ys) = _
        rw [List.drop_zero, hys, List.take_take, Nat.min_eq_left (by omega)]
      ·
        intro z hz2
        rw [hys, List.getElem?_take] at hx
        split at hx
        ·
          rw [drop_pred hk0 hx] at hz2
          rcases List.mem_cons.1 hz2 with rfl | hz2
          ·
            exact UInt8.toNat_inj.1 (by omega)
          ·
            exact hz z hz2
        ·
          cases hx
    ·
      refine WL.pickT rfl rfl rfl (WL.nil (WX.then_normal (WC.cond_false rfl (WC.exit (WX.then_exit (WX.then_exit (WX.block_here (?_))))))))
      refine WX.then_normal (WC.seq (WC.region (WL.move rfl rfl (WL.assign rfl rfl (WL.nil (WX.then_normal (WC.ret (?_))))))))
      refine WX.ret1 (.inl rfl) Tryd.results89 rfl ?_
      refine ⟨_, rfl, ⟨k, _, _, hk, by rw [← hys], by rw [← hys]; exact hq, hz, ?_⟩, kk⟩
      first
        | (left; omega)
        | (right
           refine ⟨x, ?_, ?_⟩
           ·
             rw [hys, List.getElem?_take] at hx
             split at hx
             ·
               exact hx
             ·
               cases hx
           ·
             exact fun h => h16 (by rw [h]))
  ·
    refine WL.move rfl rfl (WL.pass rfl rfl rfl rfl (WL.pass rfl rfl rfl rfl (WL.pass rfl rfl rfl rfl (WL.pass rfl rfl rfl rfl (WL.pass rfl rfl rfl rfl (WL.pass rfl rfl rfl rfl (WL.pass rfl rfl rfl rfl (?_))))))))
    refine WL.pass rfl rfl rfl rfl (WL.pickF rfl rfl rfl (WL.nil (WX.then_normal (WC.cond_false rfl (WC.exit (WX.then_exit (WX.then_exit (?_))))))))
    refine WX.block_here (WX.then_normal (WC.seq (WC.region (WL.move rfl rfl (WL.assign rfl rfl (WL.nil (WX.then_normal (?_))))))))
    refine WC.ret (?_)
    refine WX.ret1 (.inl rfl) Tryd.results89 rfl ?_
    refine ⟨_, rfl, ⟨k, _, _, hk, by rw [← hys], by rw [← hys]; exact hq, hz, ?_⟩, kk⟩
    first
      | (left; omega)
      | (right
         refine ⟨x, ?_, ?_⟩
         ·
           rw [hys, List.getElem?_take] at hx
           split at hx
           ·
             exact hx
           ·
             cases hx
         ·
           exact fun h => h16 (by rw [h]))
theorem trimL_calls {w : World} {ao : Option Addr} {c : Nat} {xs : List UInt8} (hr : RSl (· < w.heap.size) w eb ao c xs) (hl : xs.length ≤ 140737488351232) :
    Calls Tryd.prog 88 [.slice ao xs.length c, v8 0].toArray w (Ret fun v w' => (∃ (n : Nat) (ao' : Option Addr) (c' : Nat), v = .slice ao' n c' ∧ (n = 0 ↔ ∀ x ∈ xs, x = 0)) ∧ Chg Nob w w') := by
  refine Calls.of_WC Tryd.func88 rfl Tryd.ntmps88 (by simp) ?_
  refine WC.seq (WC.region (WL.assign rfl rfl (WL.nil (WX.then_normal (WC.seq (WC.block (?_)))))))
  refine WC.loop (σ := List UInt8 × Option Addr × Nat) (fun q => [(0, .slice q.2.1 q.1.length q.2.2), (1, v8 0)])
    (fun q w' => RSl (· < w.heap.size) w' eb q.2.1 q.2.2 q.1 ∧ ((∀ x ∈ q.1, x = 0) ↔ ∀ x ∈ xs, x = 0) ∧ q.1.length ≤ xs.length ∧ Chg Nob w w') (fun q => q.1.length) (xs, ao, c) ⟨rfl, rfl, trivial⟩ ⟨hr, Iff.rfl, Nat.le_refl _, Chg.refl _ _⟩ ?_
  clear hr
  rintro ⟨ys, ay, cy⟩ w1 ⟨hq, hz, hle, kk⟩
  dsimp only at hq hz hle ⊢
  refine WC.seq (WC.seq (WC.region (WL.move rfl rfl (WL.len Tryd.underlying26 rfl rfl (?_)))))
  refine WL.gtr? rfl rfl rfl (fun h7 => ?_) (fun h7 => ?_)
  ·
    refine WL.move rfl rfl (WL.want rfl rfl rfl (WL.move rfl rfl (WL.want rfl rfl rfl (?_))))
    obtain ⟨x, ys', rfl⟩ : ∃ x ys', ys = x :: ys' := by cases ys with | nil => simp at h7 | cons x r => exact ⟨x, r, rfl⟩
    have hx : (x :: ys')[0]? = some x := rfl
    refine WL.indexT Tryd.underlying26 Tryd.sizeOf5 hq rfl rfl ⟨hx, rfl⟩ rfl ?_
    intro b_1 o_1 hc_1
    refine WL.want rfl rfl rfl (WL.load Tryd.isAgg5 rfl (hc_1 0 _ rfl) rfl (WL.want rfl rfl rfl (WL.move rfl rfl (WL.want rfl rfl rfl (?_)))))
    refine WL.eql? rfl rfl rfl (fun h13 => ?_) (fun h13 => ?_)
    ·
      refine WL.pickT rfl rfl rfl (WL.nil (WX.then_normal (WC.cond_true rfl (WC.skip (WX.then_normal (WC.block (WC.region (?_))))))))
      refine WL.move rfl rfl (?_)
      refine WL.slice (l := 1) (h := (x :: ys').length) (j := .i64) Tryd.underlying26 Tryd.sizeOf5 hq rfl (.inl rfl) (.inr ⟨rfl, rfl⟩) (by simp) rfl ?_
      intro a_hs c_hs hs n_hs
      refine WL.assign rfl rfl (WL.nil (WX.block_normal (?_)))
      refine WX.loop_next (List.drop 1 (List.take (x :: ys').length (x :: ys')), a_hs, c_hs) ⟨rfl, rfl, trivial⟩ ⟨hs, ?_, ?_, kk⟩ (by show List.length _ < _; simp)
      ·
        have e1 : List.drop 1 (List.take (x :: ys').length (x :: ys')) = ys' := by simp
        have hx0 : x = 0 := UInt8.toNat_inj.1 (by omega)
        show (∀ z ∈ List.drop 1 (List.take (x :: ys').length (x :: ys')), z = 0) ↔ _
        rw [e1, ← hz, hx0]
        simp
      ·
        show (List.drop 1 (List.take (x :: ys').length (x :: ys'))).length ≤ _
        simp at hle ⊢
        omega
    ·
      refine WL.pickT rfl rfl rfl (WL.nil (WX.then_normal (WC.cond_false rfl (WC.exit (WX.then_exit (WX.then_exit (WX.block_here (?_))))))))
      refine WX.then_normal (WC.seq (WC.seq (WC.region (WL.move rfl rfl (WL.len Tryd.underlying26 rfl rfl (?_))))))
      refine WL.eql? rfl rfl rfl (fun h19 => ?_) (fun h19 => ?_)
      ·
        refine WL.nil (WX.then_normal (WC.cond_true rfl (WC.seq (WC.region (WL.assign rfl rfl (WL.nil (WX.then_normal (?_))))))))
        refine WC.ret (WX.then_ret (?_))
        refine WX.ret1 (.inl rfl) Tryd.results88 rfl ?_
        first
          | (exfalso; omega)
          | (exfalso; simp only [List.length_cons] at h19; omega)
          | (have h3 : (x :: ys').length ≠ 0 := by simp
             refine ⟨_, rfl, ⟨_, _, _, rfl, ⟨fun h => absurd h h3, fun h => ?_⟩⟩, kk⟩
             exact absurd (hz.2 h x (.head _)) (fun h9 => h13 (by rw [h9])))
          | (refine ⟨_, rfl, ⟨0, none, 0, rfl, ⟨fun _ => hz.1 (fun x hx => ?_), fun _ => rfl⟩⟩, kk⟩
             have : ys = [] := List.eq_nil_of_length_eq_zero (by omega)
             subst this
             cases hx
             done)
      ·
        refine WL.nil (WX.then_normal (WC.cond_false rfl (WC.skip (WX.then_normal (WC.seq (WC.region (WL.move rfl rfl (?_))))))))
        refine WL.assign rfl rfl (WL.nil (WX.then_normal (WC.ret (?_))))
        refine WX.ret1 (.inl rfl) Tryd.results88 rfl ?_
        first
          | (exfalso; omega)
          | (exfalso; simp only [List.length_cons] at h19; omega)
          | (have h3 : (x :: ys').length ≠ 0 := by simp
             refine ⟨_, rfl, ⟨_, _, _, rfl, ⟨fun h => absurd h h3, fun h => ?_⟩⟩, kk⟩
             exact absurd (hz.2 h x (.head _)) (fun h9 => h13 (by rw [h9])))
          | (refine ⟨_, rfl, ⟨0, none, 0, rfl, ⟨fun _ => hz.1 (fun x hx => ?_), fun _ => rfl⟩⟩, kk⟩
             have : ys = [] := List.eq_nil_of_length_eq_zero (by omega)
             subst this
             cases hx
             done)
  ·
    refine WL.move rfl rfl (WL.pass rfl rfl rfl rfl (WL.pass rfl rfl rfl rfl (WL.pass rfl rfl rfl rfl (WL.pass rfl rfl rfl rfl (WL.pass rfl rfl rfl rfl (WL.pickF rfl rfl rfl (WL.nil (?_))))))))
    refine WX.then_normal (WC.cond_false rfl (WC.exit (WX.then_exit (WX.then_exit (WX.block_here (WX.then_normal (WC.seq (?_))))))))
    refine WC.seq (WC.region (WL.move rfl rfl (WL.len Tryd.underlying26 rfl rfl (?_))))
    refine WL.eql? rfl rfl rfl (fun h19 => ?_) (fun h19 => ?_)
    ·
      refine WL.nil (WX.then_normal (WC.cond_true rfl (WC.seq (WC.region (WL.assign rfl rfl (WL.nil (WX.then_normal (?_))))))))
      refine WC.ret (WX.then_ret (?_))
      refine WX.ret1 (.inl rfl) Tryd.results88 rfl ?_
      first
        | (exfalso; omega)
        | (exfalso; simp only [List.length_cons] at h19; omega)
        | (have h3 : (x :: ys').length ≠ 0 := by simp
           refine ⟨_, rfl, ⟨_, _, _, rfl, ⟨fun h => absurd h h3, fun h => ?_⟩⟩, kk⟩
           exact absurd (hz.2 h x (.head _)) (fun h9 => h13 (by rw [h9])))
        | (refine ⟨_, rfl, ⟨0, none, 0, rfl, ⟨fun _ => hz.1 (fun x hx => ?_), fun _ => rfl⟩⟩, kk⟩
           have : ys = [] := List.eq_nil_of_length_eq_zero (by omega)
           subst this
           cases hx
           done)
    ·
      refine WL.nil (WX.then_normal (WC.cond_false rfl (WC.skip (WX.then_normal (WC.seq (WC.region (WL.move rfl rfl (?_))))))))
      refine WL.assign rfl rfl (WL.nil (WX.then_normal (WC.ret (?_))))
      refine WX.ret1 (.inl rfl) Tryd.results88 rfl ?_
      first
        | (exfalso; omega)
        | (exfalso; simp only [List.length_cons] at h19; omega)
        | (have h3 : (x :: ys').length ≠ 0 := by simp
           refine ⟨_, rfl, ⟨_, _, _, rfl, ⟨fun h => absurd h h3, fun h => ?_⟩⟩, kk⟩
           exact absurd (hz.2 h x (.head _)) (fun h9 => h13 (by rw [h9])))
        | (refine ⟨_, rfl, ⟨0, none, 0, rfl, ⟨fun _ => hz.1 (fun x hx => ?_), fun _ => rfl⟩⟩, kk⟩
           have : ys = [] := List.eq_nil_of_length_eq_zero (by omega)
           subst this
           cases hx
           done)
theorem trimmed {xs : List UInt8} {k : Nat} (h : ∀ x ∈ xs.take k, x = 0) (hz : ∀ x ∈ xs.drop k, x = 0) (hlast : k = 0 ∨ ∃ x, xs[k - 1]? = some x ∧ x ≠ 0) : ∀ x ∈ xs, x = 0 := by
  intro x hx
  rw [← List.take_append_drop k xs] at hx
  rcases List.mem_append.1 hx with hx | hx
  · exact h x hx
  · exact hz x hx
/-- what is left of bytes.Trim(xs, "\x00") is nothing just where xs holds noughts alone -/
theorem trim_calls {w : World} {ao : Option Addr} {c : Nat} {xs : List UInt8} (hr : RSl (· < w.heap.size) w eb ao c xs) (hl : xs.length ≤ 140737488351232) :
    Calls Tryd.prog 68 [.slice ao xs.length c, .string ⟨#[0]⟩].toArray w (Ret fun v w' => (∃ (n : Nat) (ao' : Option Addr) (c' : Nat), v = .slice ao' n c' ∧ (n = 0 ↔ ∀ x ∈ xs, x = 0)) ∧ Chg Nob w w') := by
  have kk := Chg.refl Nob w
  refine Calls.of_WC Tryd.func68 rfl Tryd.ntmps68 (by simp) ?_
  refine WC.seq (WC.region (WL.assign rfl rfl (WL.nil (WX.then_normal (WC.seq (WC.seq (WC.region (?_))))))))
  refine WL.move rfl rfl (WL.len Tryd.underlying26 rfl rfl (?_))
  refine WL.eql? rfl rfl rfl (fun h9 => ?_) (fun h9 => ?_)
  ·
    refine WL.nil (WX.then_normal (WC.cond_true rfl (WC.seq (WC.region (WL.assign rfl rfl (WL.nil (WX.then_normal (?_))))))))
    refine WC.ret (WX.then_ret (?_))
    refine WX.ret1 (.inl rfl) Tryd.results68 rfl ?_
    first
      | (exact ⟨_, rfl, ⟨n, a2, c2, rfl, hn.trans ⟨fun h => trimmed h hz hlast, fun h x hx => h x (List.mem_of_mem_take hx)⟩⟩, kk⟩)
      | (have : xs = [] := List.eq_nil_of_length_eq_zero (by omega)
         subst this
         exact ⟨_, rfl, ⟨0, none, 0, rfl, ⟨fun _ x hx => absurd hx List.not_mem_nil, fun _ => rfl⟩⟩, kk⟩)
      | (cases h11; done)
  ·
    refine WL.nil (WX.then_normal (WC.cond_false rfl (WC.skip (WX.then_normal (WC.seq (WC.seq (WC.region (?_))))))))
    refine WL.move rfl rfl (?_)
    refine WL.seql? rfl rfl rfl (fun h11 => ?_) (fun h11 => ?_)
    ·
      refine WL.nil (WX.then_normal (WC.cond_true rfl (WC.seq (WC.region (WL.move rfl rfl (WL.assign rfl rfl (WL.nil (?_))))))))
      refine WX.then_normal (WC.ret (WX.then_ret (?_)))
      refine WX.ret1 (.inl rfl) Tryd.results68 rfl ?_
      first
        | (exact ⟨_, rfl, ⟨n, a2, c2, rfl, hn.trans ⟨fun h => trimmed h hz hlast, fun h x hx => h x (List.mem_of_mem_take hx)⟩⟩, kk⟩)
        | (have : xs = [] := List.eq_nil_of_length_eq_zero (by omega)
           subst this
           exact ⟨_, rfl, ⟨0, none, 0, rfl, ⟨fun _ x hx => absurd hx List.not_mem_nil, fun _ => rfl⟩⟩, kk⟩)
        | (cases h11; done)
    ·
      refine WL.nil (WX.then_normal (WC.cond_false rfl (WC.skip (WX.then_normal (WC.seq (WC.seq (WC.region (?_))))))))
      refine WL.move rfl rfl (WL.lens Tryd.underlying9 rfl rfl (?_))
      refine WL.eqlT rfl rfl rfl ((by decide)) ?_
      refine WL.move rfl rfl (WL.want rfl rfl rfl (WL.move rfl rfl (WL.want rfl rfl rfl (?_))))
      refine WL.sindex Tryd.underlying9 rfl rfl _ rfl _ (show (⟨#[0]⟩ : ByteArray).data.toList[0]? = some 0 from rfl) rfl ?_
      refine WL.want rfl rfl rfl (?_)
      refine WL.lssT rfl rfl rfl ((by decide)) ?_
      refine WL.pickT rfl rfl rfl (WL.nil (WX.then_normal (WC.cond_true rfl (WC.seq (?_)))))
      refine WC.draw (Nob) [0, 1, 2, 4, 5] [3, 6, 7] mixed rfl rfl (fun wd_1 kd_1 zd_1 => ?_)
      have zs_kd_1 := kd_1.size
      replace hr := hr.pure kd_1
      replace kk := kk.pure kd_1
      apply DQ.step (E' := [(0, _)])
      case ho => rfl
      case hs => exact ⟨rfl, trivial⟩
      case hk => rfl
      case h1 =>
        intro wq_3 kq_3
        refine WL.move rfl rfl (?_)
        refine WL.nil ?_
        exact WX.one ⟨rfl, by exact Chg.refl _ _⟩
      apply DQ.step (E' := [(1, _)])
      case ho => rfl
      case hs => exact ⟨rfl, trivial⟩
      case hk => rfl
      case h1 =>
        intro wq_4 kq_4
        refine WL.move rfl rfl (?_)
        refine WL.nil ?_
        exact WX.one ⟨rfl, by exact Chg.refl _ _⟩
      apply DQ.step (E' := [(22, _)])
      case ho => rfl
      case hs => exact ⟨rfl, trivial⟩
      case hk => rfl
      case h1 =>
        intro wq_5 kq_5
        have zs_kq_5 := kq_5.size
        replace hr := hr.pure kq_5
        replace kk := kk.pure kq_5
        refine WL.sindex Tryd.underlying9 rfl rfl _ rfl _ (show (⟨#[0]⟩ : ByteArray).data.toList[0]? = some 0 from rfl) rfl ?_
        refine WL.nil ?_
        exact WX.one ⟨rfl, by exact Chg.refl _ _⟩
      apply DQ.step (E' := [(1, _)])
      case ho => rfl
      case hs => exact ⟨rfl, trivial⟩
      case hk => rfl
      case h1 =>
        intro wq_6 kq_6
        refine WL.move rfl rfl (?_)
        refine WL.nil ?_
        exact WX.one ⟨rfl, by exact Chg.refl _ _⟩
      apply DQ.step (E' := [(25, _)])
      case ho => rfl
      case hs => exact ⟨rfl, trivial⟩
      case hk => rfl
      case h1 =>
        intro wq_7 kq_7
        have zs_kq_7 := kq_7.size
        replace hr := hr.pure kq_7
        replace kk := kk.pure kq_7
        refine WL.sindex Tryd.underlying9 rfl rfl _ rfl _ (show (⟨#[0]⟩ : ByteArray).data.toList[0]? = some 0 from rfl) rfl ?_
        refine WL.nil ?_
        exact WX.one ⟨rfl, by exact Chg.refl _ _⟩
      refine DQ.done (fun hd_2 => ?_)
      refine DL.step [(21, _), (23, _)] rfl ⟨rfl, rfl, trivial⟩ rfl (fun wq_8 kq_8 => ?_)
      have zs_kq_8 := kq_8.size
      replace hr := hr.pure kq_8
      replace kk := kk.pure kq_8
      replace hd_2 := hd_2.pure kq_8
      have hr0 := hr.old
      refine WL.call eg_89 rfl rfl (trimR_calls hr0 hl) ?_
      rintro v w1 ⟨⟨k, a1, c1, hk, rfl, hq, hz, hlast⟩, k1⟩
      have zs_k1 := k1.size
      replace hr := hr.pure k1
      replace kk := kk.pure k1
      replace hd_2 := hd_2.pure k1
      refine WL.nil ?_
      refine WX.one ⟨hd_2, ?_⟩
      refine DL.step [(24, _), (26, _)] rfl ⟨rfl, rfl, trivial⟩ rfl (fun wq_9 kq_9 => ?_)
      have zs_kq_9 := kq_9.size
      replace hr := hr.pure kq_9
      replace kk := kk.pure kq_9
      replace hd_2 := hd_2.pure kq_9
      replace hq := hq.pure kq_9
      have hq0 := hq.old
      refine WL.call eg_88 rfl rfl (trimL_calls hq0 (by rw [List.length_take]; omega)) ?_
      rintro v w2 ⟨⟨n, a2, c2, rfl, hn⟩, k2⟩
      have zs_k2 := k2.size
      replace hr := hr.pure k2
      replace kk := kk.pure k2
      replace hd_2 := hd_2.pure k2
      replace hq := hq.pure k2
      refine WL.nil ?_
      refine WX.one ⟨hd_2, ?_⟩
      refine DL.step [(27, _)] rfl ⟨rfl, trivial⟩ rfl (fun wq_10 kq_10 => ?_)
      have zs_kq_10 := kq_10.size
      replace hr := hr.pure kq_10
      replace kk := kk.pure kq_10
      replace hd_2 := hd_2.pure kq_10
      replace hq := hq.pure kq_10
      refine WL.assign rfl rfl (?_)
      refine WL.nil ?_
      refine WX.one ⟨hd_2, ?_⟩
      refine DL.done (fun we_11 ke_11 => ?_)
      have zs_ke_11 := ke_11.size
      replace hr := hr.pure ke_11
      replace kk := kk.pure ke_11
      replace hd_2 := hd_2.pure ke_11
      replace hq := hq.pure ke_11
      refine WX.then_normal (WC.ret (WX.then_ret (?_)))
      refine WX.ret1 (.inl rfl) Tryd.results68 rfl ?_
      first
        | (exact ⟨_, rfl, ⟨n, a2, c2, rfl, hn.trans ⟨fun h => trimmed h hz hlast, fun h x hx => h x (List.mem_of_mem_take hx)⟩⟩, kk⟩)
        | (have : xs = [] := List.eq_nil_of_length_eq_zero (by omega)
           subst this
           exact ⟨_, rfl, ⟨0, none, 0, rfl, ⟨fun _ x hx => absurd hx List.not_mem_nil, fun _ => rfl⟩⟩, kk⟩)
        | (cases h11; done)
end Go.Proofs.YtjeldcjchipdgaaDoor
namespace Go.Proofs.YtjeldcjchipdgaaDoor
open Go.RowKit Go.HL
set_option maxRecDepth 100000

/-! a count as bytes -/
def cnt (n : Nat) : List UInt8 := if 128 ≤ n then UInt8.ofNat (n % 128 + 128) :: cnt (n / 128) else [UInt8.ofNat n]
termination_by n
decreasing_by omega
theorem cnt_big {n : Nat} (h : 128 ≤ n) : cnt n = UInt8.ofNat (n % 128 + 128) :: cnt (n / 128) := by rw [cnt, if_pos h]
theorem cnt_small {n : Nat} (h : n < 128) : cnt n = [UInt8.ofNat n] := by rw [cnt, if_neg (by omega)]
theorem cnt_len (k : Nat) : ∀ n, n < 128 ^ (k + 1) → (cnt n).length ≤ k + 1 := by
  induction k with
  | zero => intro n h; rw [cnt_small (by simpa using h)]; simp
  | succ k ih =>
    intro n h
    by_cases hn : 128 ≤ n
    · rw [cnt_big hn]
      have := ih (n / 128) (by rw [Nat.div_lt_iff_lt_mul (by decide)]; rw [Nat.pow_succ] at h; exact h)
      simp only [List.length_cons]
      omega
    · rw [cnt_small (by omega)]; simp
theorem cnt_len64 (n : UInt64) : (cnt n.toNat).length ≤ 10 := cnt_len 9 _ (by have := n.toNat_lt; omega)
theorem or128 (x : UInt8) : x ||| 128 = UInt8.ofNat (x.toNat % 128 + 128) := by
  have h : ∀ y : Fin 256, (UInt8.ofNat y.1 ||| 128) = UInt8.ofNat ((UInt8.ofNat y.1).toNat % 128 + 128) := by decide +kernel
  have := h ⟨x.toNat, x.toNat_lt⟩
  simpa using this

theorem count_calls {S : Nat → Prop} {w : World} {ao : Option Addr} {c : Nat} {xs : List UInt8} (n : UInt64) (hr : Row S w 5 eb ao c xs) (hS : ∀ b, w.heap.size ≤ b → S b) (hb : xs.length ≤ 70368744177664) :
    Calls Tryd.prog 84 [.slice ao xs.length c, v64 n].toArray w (Ret fun v w' => ∃ ao' c', v = .slice ao' (xs ++ cnt n.toNat).length c' ∧ Row S w' 5 eb ao' c' (xs ++ cnt n.toNat) ∧ Grow S w ao w' ao') := by
  refine Calls.of_WC Tryd.func84 rfl Tryd.ntmps84 (by simp) ?_
  refine WC.seq (WC.region (WL.assign rfl rfl (WL.nil (WX.then_normal (WC.seq (WC.block (?_)))))))
  refine WC.loop (σ := List UInt8 × Option Addr × Nat × UInt64) (fun s => [(0, .slice s.2.1 s.1.length s.2.2.1), (1, v64 s.2.2.2)])
    (fun s w' => s.1 ++ cnt s.2.2.2.toNat = xs ++ cnt n.toNat ∧ Row S w' 5 eb s.2.1 s.2.2.1 s.1 ∧ Grow S w ao w' s.2.1) (fun s => s.2.2.2.toNat) (xs, ao, c, n) ⟨rfl, rfl, trivial⟩ ⟨rfl, hr, Grow.refl _ _ _⟩ ?_
  rintro ⟨ys, a1, c1, m⟩ w1 ⟨he, hr1, hg⟩
  dsimp only at he hr1 hg ⊢
  have hlen : ys.length ≤ 70368744177680 := by
    have h1 := congrArg List.length he
    have h2 := cnt_len64 n
    simp only [List.length_append] at h1
    omega
  have hsz := hg.chg.size
  refine WC.seq (WC.seq (WC.region (WL.move rfl rfl (?_))))
  refine WL.geq? rfl rfl rfl (fun h => ?_) (fun h => ?_)
  ·
    refine WL.nil (WX.then_normal (WC.cond_true rfl (WC.skip (WX.then_normal (WC.seq (WC.block (WC.region (?_))))))))
    refine WL.move rfl rfl (WL.move rfl rfl (WL.c_u64_u8 Tryd.underlying44 Tryd.underlying5 rfl rfl (WL.num rfl rfl (n_or8 _ _ _ 128) rfl (?_))))
    refine WL.build (e := eb) [m.toUInt8 ||| 128] Tryd.underlying26 Tryd.sizeOf5 Tryd.zeroValue5 rfl rfl rfl (by simp [Value.cells] <;> rfl) (by decide) rfl ?_
    intro a_hr2 w_hr2 hr2 l_hr2 z_hr2 k_hr2
    have zs_k_hr2 := k_hr2.size
    replace hg := hg.pure k_hr2
    replace hr1 := hr1.pure k_hr2
    refine WL.append (e := eb) info_5 rfl Tryd.underlying26 rfl rfl hr1 (hr2.rsl.src Tryd.underlying26) (by (try simp only [List.length_append, List.length_cons, List.length_nil] at *); omega) (by intro b hb; first | (apply hS; omega) | ((try dsimp only); omega)) rfl ?_
    intro a_hr3 c_hr3 w_hr3 hr3 g_hr3 n_hr3
    have z_hr3 := g_hr3.chg.size
    replace hg := hg.trans g_hr3
    have zs_g_hr3_chg := g_hr3.chg.size
    refine WL.assign rfl rfl (WL.nil (WX.block_normal (WX.then_normal (WC.region (WL.move rfl rfl (WL.num rfl rfl (n_shr64 _ _ _ _ 7 (by decide)) rfl (WL.assign rfl rfl (?_))))))))
    refine WL.nil (?_)
    have hm : (m >>> UInt64.ofNat 7).toNat = m.toNat / 128 := by simp [Nat.shiftRight_eq_div_pow]
    refine WX.loop_next (ys ++ [m.toUInt8 ||| 128], a_hr3, c_hr3, m >>> UInt64.ofNat 7) ⟨rfl, rfl, trivial⟩ ⟨?_, hr3, hg⟩ ?_
    ·
      rw [← he, hm, cnt_big (n := m.toNat) (by omega), or128]
      simp
    ·
      show (m >>> UInt64.ofNat 7).toNat < m.toNat
      rw [hm]; omega
  ·
    refine WL.nil (WX.then_normal (WC.cond_false rfl (WC.exit (WX.then_exit (WX.then_exit (WX.block_here (WX.then_normal (?_))))))))
    refine WC.seq (WC.region (WL.move rfl rfl (WL.move rfl rfl (WL.c_u64_u8 Tryd.underlying44 Tryd.underlying5 rfl rfl (?_)))))
    refine WL.build (e := eb) [m.toUInt8] Tryd.underlying26 Tryd.sizeOf5 Tryd.zeroValue5 rfl rfl rfl (by simp [Value.cells] <;> rfl) (by decide) rfl ?_
    intro a_hr2 w_hr2 hr2 l_hr2 z_hr2 k_hr2
    have zs_k_hr2 := k_hr2.size
    replace hg := hg.pure k_hr2
    replace hr1 := hr1.pure k_hr2
    refine WL.append (e := eb) info_5 rfl Tryd.underlying26 rfl rfl hr1 (hr2.rsl.src Tryd.underlying26) (by (try simp only [List.length_append, List.length_cons, List.length_nil] at *); omega) (by intro b hb; first | (apply hS; omega) | ((try dsimp only); omega)) rfl ?_
    intro a_hr3 c_hr3 w_hr3 hr3 g_hr3 n_hr3
    have z_hr3 := g_hr3.chg.size
    replace hg := hg.trans g_hr3
    have zs_g_hr3_chg := g_hr3.chg.size
    refine WL.assign rfl rfl (WL.nil (WX.then_normal (WC.ret (?_))))
    have hx : xs ++ cnt n.toNat = ys ++ [m.toUInt8] := by
      rw [← he, cnt_small (by omega)]; rfl
    rw [hx]
    exact WX.ret1 (.inl rfl) Tryd.results84 rfl ⟨_, rfl, _, _, rfl, hr3, hg⟩
end Go.Proofs.YtjeldcjchipdgaaDoor
namespace Go.Proofs.YtjeldcjchipdgaaDoor
open Go.RowKit Go.HL
set_option maxRecDepth 100000

/-! items -/
structure Item where
  kind : Int
  n : Int
  s : ByteArray
theorem Item.eq_iff (a b : Item) : (a.kind = b.kind ∧ a.n = b.n ∧ a.s = b.s) ↔ a = b := by
  obtain ⟨k, n, s⟩ := a
  obtain ⟨k2, n2, s2⟩ := b
  simp
instance : DecidableEq Item := fun a b => decidable_of_iff _ (Item.eq_iff a b)
def eit : Enc Item := ⟨3, fun i => [vi i.kind, vi i.n, .string i.s], fun _ => rfl, by simp [Value.oneCell'], by decide⟩

theorem check1_calls (i : Item) (w : World) : Calls Tryd.prog 101 [.agg (eit.f i).toArray].toArray w (Ret fun v w' => v = .bool (decide (i.kind = 2 ∧ 4000 < i.s.size)) ∧ Chg Nob w w') := by
  refine Calls.of_WC Tryd.func101 rfl Tryd.ntmps101 (by simp) ?_
  refine WC.seq (WC.region (?_))
  refine WL.box rfl rfl ?_
  intro g_1 w_1 hge_1 hlt_1 hb_1 k_1
  have zs_k_1 := k_1.size
  refine WL.assign rfl rfl (WL.nil (WX.then_normal (WC.seq (WC.region (WL.fieldAddr (fld_75_0) rfl rfl (WL.loadB Tryd.isAgg3 hb_1 rfl rfl rfl (?_)))))))
  refine WL.eql? rfl rfl rfl (fun h => ?_) (fun h => ?_)
  ·
    refine WL.move rfl rfl (WL.want rfl rfl rfl (WL.fieldAddr (fld_75_2) rfl rfl (WL.want rfl rfl rfl (WL.loadB Tryd.isAgg9 hb_1 rfl rfl rfl (WL.want rfl rfl rfl (WL.lens Tryd.underlying9 rfl rfl (WL.want rfl rfl rfl (?_))))))))
    refine WL.gtr rfl rfl rfl (WL.pickT rfl rfl rfl (WL.assign rfl rfl (WL.nil (WX.then_normal (WC.ret (?_))))))
    have he : decide (i.kind = 2 ∧ 4000 < i.s.size) = decide (4000 < (i.s.size : Int)) := decide_eq_decide.2 (by omega)
    rw [he]
    exact WX.ret1 (.inl rfl) Tryd.results101 rfl ⟨_, rfl, rfl, k_1⟩
  ·
    refine WL.move rfl rfl (WL.pass rfl rfl rfl rfl (WL.pass rfl rfl rfl rfl (WL.pass rfl rfl rfl rfl (WL.pass rfl rfl rfl rfl (WL.pickF rfl rfl rfl (WL.assign rfl rfl (WL.nil (?_))))))))
    refine WX.then_normal (WC.ret (?_))
    have he : decide (i.kind = 2 ∧ 4000 < i.s.size) = false := by simp [h]
    rw [he]
    exact WX.ret1 (.inl rfl) Tryd.results101 rfl ⟨_, rfl, rfl, k_1⟩

/-- the closure: what it must answer at every later moment -/
def Pred {α : Type} (P : Program) (f : FuncId) (lb : Array Value) (val : α → Value) (p : α → Bool) (w : World) : Prop :=
  ∀ (W : World) (x : α), Chg Nob w W → Calls P f (#[] ++ [val x].toArray ++ lb) W (Ret fun v w' => v = .bool (p x) ∧ Chg Nob W w')

theorem indexFunc_item {S : Nat → Prop} {w : World} {ao : Option Addr} {c : Nat} {l : List Item} (hr : RSl S w eit ao c l) (g : FuncId) (lb : Array Value) (p : Item → Bool) (eg : ∀ (args : Array Value) (w : World), (callFunc g args).run Tryd.prog w = .ok (.enter g args) w)
    (hp : Pred Tryd.prog g lb (fun x => .agg (eit.f x).toArray) p w) (hl : l.length ≤ 9223372036854775807) :
    Calls Tryd.prog 112 [.slice ao l.length c, .func (.func g) #[] lb].toArray w (Ret fun v w' => ∃ r : Int, v = vi r ∧ decide (0 ≤ r) = l.any p ∧ Chg Nob w w') := by
  refine Calls.of_WC Tryd.func112 rfl Tryd.ntmps112 (by simp) ?_
  refine WC.seq (WC.region (WL.assign rfl rfl (WL.nil (WX.then_normal (WC.seq (WC.seq (WC.region (?_))))))))
  refine WL.move rfl rfl (WL.len Tryd.underlying76 rfl rfl (WL.move rfl rfl (WL.nil (WX.then_normal (WC.block (?_))))))
  refine WC.loop (σ := Nat) (fun k => [(0, .slice ao l.length c), (1, .func (.func g) #[] lb), (7, vi l.length), (8, vi k)])
    (fun k w' => k ≤ l.length ∧ (l.take k).any p = false ∧ Chg Nob w w') (fun k => l.length - k) 0 ⟨rfl, rfl, rfl, rfl, trivial⟩ ⟨Nat.zero_le _, by simp, Chg.refl _ _⟩ ?_
  rintro k w1 ⟨hk, hno, k1⟩
  replace hr := hr.pure k1
  refine WC.seq (WC.region (?_))
  refine WL.lss? rfl rfl rfl (fun h => ?_) (fun h => ?_)
  ·
    refine WL.nil (WX.then_normal (WC.seq (WC.cond_true rfl (WC.skip (WX.then_normal (WC.seq (WC.block (?_))))))))
    refine WC.seq (WC.region (WL.move rfl rfl (WL.assign rfl rfl (WL.nil (WX.then_normal (WC.seq (WC.region (?_))))))))
    refine WL.move rfl rfl (WL.move rfl rfl (WL.move rfl rfl (?_)))
    obtain ⟨x, hx⟩ : ∃ x, l[k]? = some x := ⟨_, List.getElem?_eq_getElem (by omega)⟩
    refine WL.indexT Tryd.underlying76 Tryd.sizeOf75 hr rfl rfl ⟨hx, rfl⟩ rfl ?_
    intro b_1 o_1 hc_1
    refine WL.loads _ Tryd.isAgg75 Tryd.sizeOf75 rfl hc_1 rfl rfl (?_)
    refine WL.callv eg rfl rfl rfl (hp w1 x k1) ?_
    rintro v w2 ⟨rfl, k2⟩
    refine WL.nil (WX.then_normal (?_))
    cases hpx : p x
    ·
      refine WC.cond_false rfl (WC.skip (WX.block_normal (WX.then_normal (WC.region (WL.add64 rfl rfl (by omega) rfl (WL.move rfl rfl (WL.nil (?_))))))))
      refine WX.loop_next (k + 1) ⟨rfl, rfl, rfl, rfl, trivial⟩ ⟨by omega, ?_, k1.pure k2⟩ (by show _ - _ < _ - _; omega)
      rw [List.take_add_one, hx]
      simp [hno, hpx]
    ·
      refine WC.cond_true rfl (WC.seq (WC.region (WL.move rfl rfl (WL.assign rfl rfl (WL.nil (WX.then_normal (WC.ret (?_))))))))
      refine WX.block_ret (WX.then_ret (WX.then_ret (WX.block_ret (WX.then_ret (?_)))))
      refine WX.ret1 (.inl rfl) Tryd.results112 rfl ⟨_, rfl, _, rfl, ?_, k1.pure k2⟩
      have : l.any p = true := List.any_eq_true.2 ⟨x, List.mem_of_getElem? hx, hpx⟩
      rw [this]; simp
  ·
    refine WL.nil (WX.then_normal (WC.seq (WC.cond_false rfl (WC.exit (WX.then_exit (WX.then_exit (WX.block_here (?_))))))))
    refine WX.then_normal (WC.seq (WC.region (WL.assign rfl rfl (WL.nil (WX.then_normal (WC.ret (?_)))))))
    refine WX.ret1 (.inl rfl) Tryd.results112 rfl ⟨_, rfl, _, rfl, ?_, k1⟩
    have : l.any p = false := by rw [List.take_of_length_le (by omega)] at hno; exact hno
    rw [this]; simp

theorem containsFunc_item {S : Nat → Prop} {w : World} {ao : Option Addr} {c : Nat} {l : List Item} (hr : RSl S w eit ao c l) (g : FuncId) (lb : Array Value) (p : Item → Bool) (eg : ∀ (args : Array Value) (w : World), (callFunc g args).run Tryd.prog w = .ok (.enter g args) w)
    (hp : Pred Tryd.prog g lb (fun x => .agg (eit.f x).toArray) p w) (hl : l.length ≤ 9223372036854775807) :
    Calls Tryd.prog 102 [.slice ao l.length c, .func (.func g) #[] lb].toArray w (Ret fun v w' => v = .bool (l.any p) ∧ Chg Nob w w') := by
  refine Calls.of_WC Tryd.func102 rfl Tryd.ntmps102 (by simp) ?_
  refine WC.seq (WC.region (WL.assign rfl rfl (WL.nil (WX.then_normal (WC.seq (WC.region (WL.move rfl rfl (?_))))))))
  refine WL.move rfl rfl (?_)
  refine WL.call eg_112 rfl rfl (indexFunc_item hr g lb p eg hp hl) ?_
  rintro v w1 ⟨r, rfl, h, k⟩
  refine WL.geq rfl rfl rfl (WL.assign rfl rfl (WL.nil (WX.then_normal (WC.ret (?_)))))
  rw [← h]
  exact WX.ret1 (.inl rfl) Tryd.results102 rfl ⟨_, rfl, rfl, k⟩
end Go.Proofs.YtjeldcjchipdgaaDoor
namespace Go.Proofs.YtjeldcjchipdgaaDoor
open Go.RowKit Go.HL
set_option maxRecDepth 100000

def longI (i : Item) : Bool := decide (i.kind = 2 ∧ 4000 < i.s.size)
def okI (i : Item) : Bool := decide (i.kind = 1 ∧ i.s = ⟨#[]⟩ ∨ i.kind = 2 ∧ i.n = 0)
def checkE (l : List Item) : Int := if 2000 < l.length ∨ l.any longI = true then 14 else if l.all okI = true then 0 else 2

theorem check_calls {S : Nat → Prop} {w : World} {ao : Option Addr} {c : Nat} {l : List Item} (hr : RSl S w eit ao c l) (hl : l.length ≤ 9223372036854775807) :
    Calls Tryd.prog 83 [.slice ao l.length c].toArray w (Ret fun v w' => v = vi (checkE l) ∧ Chg Nob w w') := by
  replace hr := hr.old
  refine Calls.of_WC Tryd.func83 rfl Tryd.ntmps83 (by simp) ?_
  refine WC.seq (WC.region (WL.assign rfl rfl (WL.nil (WX.then_normal (WC.seq (WC.region (WL.assign rfl rfl (?_))))))))
  refine WL.nil (WX.then_normal (WC.seq (WC.seq (WC.region (WL.move rfl rfl (WL.len Tryd.underlying76 rfl rfl (?_)))))))
  refine WL.gtr? rfl rfl rfl (fun h => ?_) (fun h => ?_)
  ·
    refine WL.move rfl rfl (WL.pass rfl rfl rfl rfl (WL.pass rfl rfl rfl rfl (WL.pass rfl rfl rfl rfl (WL.pickT rfl rfl rfl (WL.nil (WX.then_normal (WC.cond_true rfl (?_))))))))
    refine WC.seq (WC.region (WL.assign rfl rfl (WL.nil (WX.then_normal (WC.ret (WX.then_ret (?_)))))))
    have : checkE l = 14 := by unfold checkE; rw [if_pos (.inl (by omega))]
    rw [this]
    exact WX.ret1 (.inl rfl) Tryd.results83 rfl ⟨_, rfl, rfl, Chg.refl _ _⟩
  ·
    refine WL.move rfl rfl (WL.want rfl rfl rfl (WL.move rfl rfl (WL.want rfl rfl rfl (WL.move rfl rfl (WL.want rfl rfl rfl (?_))))))
    refine WL.call eg_102 rfl rfl (containsFunc_item hr _ _ longI eg_101 (fun W x k => check1_calls x W) hl) ?_
    rintro v w1 ⟨rfl, k⟩
    have zs_k := k.size
    replace hr := hr.pure k
    cases hlong : l.any longI
    ·
      refine WL.pickF rfl rfl rfl (WL.nil (WX.then_normal (WC.cond_false rfl (WC.skip (WX.then_normal (WC.seq (WC.seq (?_))))))))
      refine WC.region (WL.move rfl rfl (WL.len Tryd.underlying76 rfl rfl (WL.move rfl rfl (WL.nil (WX.then_normal (WC.block (?_)))))))
      refine WC.loop (σ := Nat) (fun i => [(14, .slice ao l.length c), (15, vi l.length), (16, vi i)])
        (fun i w' => i ≤ l.length ∧ (l.take i).all okI = true ∧ Chg Nob w1 w') (fun i => l.length - i) 0 ⟨rfl, rfl, rfl, trivial⟩ ⟨Nat.zero_le _, by simp, Chg.refl _ _⟩ ?_
      rintro i w2 ⟨hi, hall, k2⟩
      replace hr := hr.pure k2
      have kk := k.pure k2
      have zk := kk.size
      refine WC.seq (WC.region (?_))
      refine WL.lss? rfl rfl rfl (fun h17 => ?_) (fun h17 => ?_)
      ·
        refine WL.nil (WX.then_normal (WC.seq (WC.cond_true rfl (WC.skip (WX.then_normal (WC.seq (WC.block (?_))))))))
        refine WC.seq (WC.region (?_))
        obtain ⟨x, hx⟩ : ∃ x, l[i]? = some x := ⟨_, List.getElem?_eq_getElem (by omega)⟩
        refine WL.indexT Tryd.underlying76 Tryd.sizeOf75 hr rfl rfl ⟨hx, rfl⟩ rfl ?_
        intro b_1 o_1 hc_1
        refine WL.loads _ Tryd.isAgg75 Tryd.sizeOf75 rfl hc_1 rfl rfl (?_)
        refine WL.alloc Tryd.zeroValue75 rfl ?_
        intro g_2 w_2 hge_2 hlt_2 hb_2 k_2
        have zs_k_2 := k_2.size
        replace hr := hr.pure k_2
        replace kk := kk.pure k_2
        refine WL.stores Tryd.sizeOf75 hb_2 rfl rfl (by rfl) (by exact Enc.one _ _) (by exact Nat.le_of_ble_eq_true rfl) rfl ?_
        intro w_3 hs_3 hn_3 k_3
        have zs_k_3 := k_3.size
        replace hr := hr.chg k_3 (by intro b h1 h2 h3; have h4 : _ = _ := h3; (try dsimp only at h2); exfalso; omega)
        replace kk := kk.chg k_3 (by intro x h1 h2; have h3 : _ = _ := h2; exfalso; omega)
        replace hb_2 := hn_3
        refine WL.nil (WX.then_normal (WC.block (WC.seq (WC.seq (WC.region (WL.fieldAddr (fld_75_0) rfl rfl (WL.loadB Tryd.isAgg3 hb_2 rfl rfl rfl (?_))))))))
        refine WL.eql? rfl rfl rfl (fun h23 => ?_) (fun h23 => ?_)
        ·
          refine WL.move rfl rfl (WL.want rfl rfl rfl (WL.fieldAddr (fld_75_2) rfl rfl (WL.want rfl rfl rfl (WL.loadB Tryd.isAgg9 hb_2 rfl rfl rfl (WL.want rfl rfl rfl (?_))))))
          refine WL.seql? rfl rfl rfl (fun h27 => ?_) (fun h27 => ?_)
          ·
            refine WL.pickT rfl rfl rfl (WL.assign rfl rfl (WL.nil (WX.then_normal (WC.cond_true rfl (WC.skip (WX.then_normal (WC.cond_true rfl (?_))))))))
            refine WC.skip (WX.block_normal (WX.block_normal (WX.then_normal (WC.region (WL.add64 rfl rfl (by omega) rfl (WL.move rfl rfl (WL.nil (?_))))))))
            refine WX.loop_next (i + 1) ⟨rfl, rfl, rfl, trivial⟩ ⟨by omega, ?_, k2.pure ?_⟩ (by show _ - _ < _ - _; omega)
            ·
              rw [List.take_add_one, hx]
              simp_all [okI]
            ·
              exact (k_2.chg k_3 (by intro x h1 h2; have h3 : _ = _ := h2; exfalso; omega))
          ·
            refine WL.pickT rfl rfl rfl (WL.assign rfl rfl (WL.nil (WX.then_normal (WC.cond_false rfl (WC.region (WL.fieldAddr (fld_75_0) rfl rfl (WL.loadB Tryd.isAgg3 hb_2 rfl rfl rfl (?_))))))))
            refine WL.eql? rfl rfl rfl (fun h31 => ?_) (fun h31 => ?_)
            ·
              refine WL.move rfl rfl (WL.want rfl rfl rfl (WL.fieldAddr (fld_75_1) rfl rfl (WL.want rfl rfl rfl (WL.loadB Tryd.isAgg3 hb_2 rfl rfl rfl (WL.want rfl rfl rfl (?_))))))
              refine WL.eql? rfl rfl rfl (fun h35 => ?_) (fun h35 => ?_)
              ·
                refine WL.pickT rfl rfl rfl (WL.assign rfl rfl (WL.nil (WX.then_normal (WC.cond_true rfl (WC.skip (WX.block_normal (WX.block_normal (?_))))))))
                refine WX.then_normal (WC.region (WL.add64 rfl rfl (by omega) rfl (WL.move rfl rfl (WL.nil (?_)))))
                refine WX.loop_next (i + 1) ⟨rfl, rfl, rfl, trivial⟩ ⟨by omega, ?_, k2.pure ?_⟩ (by show _ - _ < _ - _; omega)
                ·
                  rw [List.take_add_one, hx]
                  simp_all [okI]
                ·
                  exact (k_2.chg k_3 (by intro x h1 h2; have h3 : _ = _ := h2; exfalso; omega))
              ·
                refine WL.pickT rfl rfl rfl (WL.assign rfl rfl (WL.nil (WX.then_normal (WC.cond_false rfl (WC.seq (WC.region (WL.assign rfl rfl (?_))))))))
                refine WL.nil (WX.then_normal (WC.ret (WX.block_ret (WX.block_ret (WX.then_ret (WX.then_ret (WX.block_ret (?_))))))))
                refine WX.then_ret (?_)
                refine WX.ret1 (.inl rfl) Tryd.results83 rfl ?_
                refine ⟨_, rfl, ?_, kk⟩
                congr 1
                unfold checkE
                rw [if_neg (by simp [hlong]; omega)]
                first | (rw [if_pos (by rw [List.take_of_length_le (by omega)] at hall; exact hall)]; done) | (rw [if_neg (fun ha => by have := List.all_eq_true.1 ha x (List.mem_of_getElem? hx); simp_all [okI])])
            ·
              refine WL.move rfl rfl (WL.pass rfl rfl rfl rfl (WL.pass rfl rfl rfl rfl (WL.pass rfl rfl rfl rfl (WL.pickF rfl rfl rfl (WL.assign rfl rfl (WL.nil (WX.then_normal (?_))))))))
              refine WC.cond_false rfl (WC.seq (WC.region (WL.assign rfl rfl (WL.nil (WX.then_normal (WC.ret (WX.block_ret (?_))))))))
              refine WX.block_ret (WX.then_ret (WX.then_ret (WX.block_ret (WX.then_ret (?_)))))
              refine WX.ret1 (.inl rfl) Tryd.results83 rfl ?_
              refine ⟨_, rfl, ?_, kk⟩
              congr 1
              unfold checkE
              rw [if_neg (by simp [hlong]; omega)]
              first | (rw [if_pos (by rw [List.take_of_length_le (by omega)] at hall; exact hall)]; done) | (rw [if_neg (fun ha => by have := List.all_eq_true.1 ha x (List.mem_of_getElem? hx); simp_all [okI])])
        ·
          refine WL.move rfl rfl (WL.pass rfl rfl rfl rfl (WL.pass rfl rfl rfl rfl (WL.pass rfl rfl rfl rfl (WL.pickF rfl rfl rfl (WL.assign rfl rfl (WL.nil (WX.then_normal (?_))))))))
          refine WC.cond_false rfl (WC.region (WL.fieldAddr (fld_75_0) rfl rfl (WL.loadB Tryd.isAgg3 hb_2 rfl rfl rfl (?_))))
          refine WL.eql? rfl rfl rfl (fun h31 => ?_) (fun h31 => ?_)
          ·
            refine WL.move rfl rfl (WL.want rfl rfl rfl (WL.fieldAddr (fld_75_1) rfl rfl (WL.want rfl rfl rfl (WL.loadB Tryd.isAgg3 hb_2 rfl rfl rfl (WL.want rfl rfl rfl (?_))))))
            refine WL.eql? rfl rfl rfl (fun h35 => ?_) (fun h35 => ?_)
            ·
              refine WL.pickT rfl rfl rfl (WL.assign rfl rfl (WL.nil (WX.then_normal (WC.cond_true rfl (WC.skip (WX.block_normal (WX.block_normal (?_))))))))
              refine WX.then_normal (WC.region (WL.add64 rfl rfl (by omega) rfl (WL.move rfl rfl (WL.nil (?_)))))
              refine WX.loop_next (i + 1) ⟨rfl, rfl, rfl, trivial⟩ ⟨by omega, ?_, k2.pure ?_⟩ (by show _ - _ < _ - _; omega)
              ·
                rw [List.take_add_one, hx]
                simp_all [okI]
              ·
                exact (k_2.chg k_3 (by intro x h1 h2; have h3 : _ = _ := h2; exfalso; omega))
            ·
              refine WL.pickT rfl rfl rfl (WL.assign rfl rfl (WL.nil (WX.then_normal (WC.cond_false rfl (WC.seq (WC.region (WL.assign rfl rfl (?_))))))))
              refine WL.nil (WX.then_normal (WC.ret (WX.block_ret (WX.block_ret (WX.then_ret (WX.then_ret (WX.block_ret (?_))))))))
              refine WX.then_ret (?_)
              refine WX.ret1 (.inl rfl) Tryd.results83 rfl ?_
              refine ⟨_, rfl, ?_, kk⟩
              congr 1
              unfold checkE
              rw [if_neg (by simp [hlong]; omega)]
              first | (rw [if_pos (by rw [List.take_of_length_le (by omega)] at hall; exact hall)]; done) | (rw [if_neg (fun ha => by have := List.all_eq_true.1 ha x (List.mem_of_getElem? hx); simp_all [okI])])
          ·
            refine WL.move rfl rfl (WL.pass rfl rfl rfl rfl (WL.pass rfl rfl rfl rfl (WL.pass rfl rfl rfl rfl (WL.pickF rfl rfl rfl (WL.assign rfl rfl (WL.nil (WX.then_normal (?_))))))))
            refine WC.cond_false rfl (WC.seq (WC.region (WL.assign rfl rfl (WL.nil (WX.then_normal (WC.ret (WX.block_ret (?_))))))))
            refine WX.block_ret (WX.then_ret (WX.then_ret (WX.block_ret (WX.then_ret (?_)))))
            refine WX.ret1 (.inl rfl) Tryd.results83 rfl ?_
            refine ⟨_, rfl, ?_, kk⟩
            congr 1
            unfold checkE
            rw [if_neg (by simp [hlong]; omega)]
            first | (rw [if_pos (by rw [List.take_of_length_le (by omega)] at hall; exact hall)]; done) | (rw [if_neg (fun ha => by have := List.all_eq_true.1 ha x (List.mem_of_getElem? hx); simp_all [okI])])
      ·
        refine WL.nil (WX.then_normal (WC.seq (WC.cond_false rfl (WC.exit (WX.then_exit (WX.then_exit (WX.block_here (?_))))))))
        refine WX.then_normal (WC.seq (WC.region (WL.assign rfl rfl (WL.nil (WX.then_normal (WC.ret (?_)))))))
        refine WX.ret1 (.inl rfl) Tryd.results83 rfl ?_
        refine ⟨_, rfl, ?_, kk⟩
        congr 1
        unfold checkE
        rw [if_neg (by simp [hlong]; omega)]
        first | (rw [if_pos (by rw [List.take_of_length_le (by omega)] at hall; exact hall)]; done) | (rw [if_neg (fun ha => by have := List.all_eq_true.1 ha x (List.mem_of_getElem? hx); simp_all [okI])])
    ·
      refine WL.pickF rfl rfl rfl (WL.nil (WX.then_normal (WC.cond_true rfl (WC.seq (WC.region (WL.assign rfl rfl (WL.nil (?_))))))))
      refine WX.then_normal (WC.ret (WX.then_ret (?_)))
      have : checkE l = 14 := by unfold checkE; rw [if_pos (.inr hlong)]
      rw [this]
      exact WX.ret1 (.inl rfl) Tryd.results83 rfl ⟨_, rfl, rfl, k⟩
end Go.Proofs.YtjeldcjchipdgaaDoor
