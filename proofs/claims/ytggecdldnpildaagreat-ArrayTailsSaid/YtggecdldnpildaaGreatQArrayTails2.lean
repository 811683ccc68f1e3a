import Derived.Laws.ResultCell
import Derived.Test.YtggecdldnpildaaGreatProg
import Derived.Tactics
import Derived.Tactics2
import Derived.Defers
import Derived.Laws.Pointers
import Derived.Laws.LoneSync
import Derived.RegionTactic
import Derived.RegionCalls
import Derived.ChangeAlike
import Derived.Test.YtggecdldnpildaaGreatQArrayTails1
namespace Go.HL
open Go.RowKit
section
variable {P : Program} (t : TypeId) (w : World)
end
section
variable {P : Program} {ops : Array Oper} {Q : Exit → Act → World → Prop} {N : Nat} {E : Env} {w : World} {rest : List Oper} {ty : TypeId} {pos : String} {af : Array Edge} {α : Type} {e : Enc α} {S : Nat → Prop} {t T : TypeId} {x y : Operand}
theorem all_set (e : Enc α) (h1 : e.sz = 1) {z : α} {v : Value} (hz : e.f z = [v]) : ∀ (xs : List α) (j : Nat), e.all (xs.set j z) = (e.all xs).set j v
  | [], j => by simp [Enc.all]
  | x :: r, 0 => by
    have hl := e.len x
    rw [h1] at hl
    obtain ⟨u, hu⟩ := List.length_eq_one_iff.1 hl
    simp [Enc.all, hz, hu]
  | x :: r, j + 1 => by
    have hl := e.len x
    rw [h1] at hl
    obtain ⟨u, hu⟩ := List.length_eq_one_iff.1 hl
    have ih := all_set e h1 hz r j
    simp only [Enc.all] at ih
    simp [Enc.all, hu, ih]
theorem Row.place0 {T : TypeId} {ao : Option Addr} {c : Nat} {xs : List α} {j : Nat} (hr : Row S w T e ao c xs) (hz : j < xs.length) : ∃ g, ao = some ⟨g, 0, none⟩ := by
  rcases hr.own.2.2 with ⟨rfl, _⟩ | ⟨g, _, _, rfl, _⟩
  · have := hr.rsl.none_nil
    subst this
    simp at hz
  · exact ⟨g, rfl⟩
theorem WL.storeRow {g o c : Nat} {xs : List α} {z : α} {v : Value} (j : Nat) (hs : ∀ w, (sizeOf t).run P w = .ok 1 w) (hr : Row S w T e (some ⟨g, 0, none⟩) c xs) (h1 : e.sz = 1) (hz : e.f z = [v]) (hx : ev E x = some (.pointer (some ⟨g, o, none⟩))) (ho : o = j) (hj : j < xs.length) (hy : ev E y = some v)
    (h : ∀ w', w'.heap.size = w.heap.size → Row S w' T e (some ⟨g, 0, none⟩) c (xs.set j z) → Chg (· = g) w w' → WL P ops Q N rest E w') :
    WL P ops Q N (⟨none, .store t x y, ty, pos, af, none⟩ :: rest) E w := by
  subst ho
  have hv1 : v.oneCell' = true := e.one z v (by rw [hz]; simp)
  have hr' := hr
  obtain ⟨hat, hlen, hcap, hc | ⟨g', cur, fr, hg', hg, hfr, hmax, hsz, htk⟩⟩ := hr
  · cases hc.1
  · cases hg'
    rw [h1] at hsz htk hlen
    simp only [Nat.mul_one] at hsz htk hlen
    have hoc : o < cur.size := by omega
    refine WL.run0 (w.setCell ⟨g, o, none⟩ v) (fun a hh => by
      have hst : (Go.store ⟨g, o, none⟩ v).run P w = .ok () (w.setCell ⟨g, o, none⟩ v) := by
        rw [run_store P w _ v _ hv1]
        have h3 := hfr o hoc
        have hcell : w.cell? ⟨g, o, none⟩ = some (cur[o]'hoc) := by rw [cell_of_row w g o cur T fr hg, Array.getElem?_eq_getElem hoc]
        have hfz : w.frozen? ⟨g, o, none⟩ = false := by
          simp only [World.frozen?, hg]
          simp
          intro hh
          exact Nat.le_of_not_lt (fun hlt => h3 ⟨hh, hlt⟩)
        simp [hcell, hfz]
      have hc1 : v.cells = #[v] := by cases v <;> simp_all [Value.oneCell', Value.cells]
      simp [execOp, ev_eval hh hx, ev_eval hh hy, Instr.storeAt, Instr.sureAddr, storeVar, hs, hc1, storeCells, Addr.add_lit, hst]) (h _ (by simp) ?_ (Chg.setCell w ⟨g, o, none⟩ v))
    have hnew : (w.setCell ⟨g, o, none⟩ v).heap[g]? = some (.cells (cur.setIfInBounds o v) T fr) := by
      simp only [World.setCell, Array.getElem?_modify, hg, if_true, Option.map_some]
      simp
    refine ⟨hat, by rw [all_set e h1 hz, List.length_set, List.length_set, h1, Nat.mul_one]; exact hlen, by simpa using hcap, .inr ⟨g, cur.setIfInBounds o v, fr, rfl, hnew, by simpa using hfr, hmax, by rw [h1, Nat.mul_one]; simpa using hsz, ?_⟩⟩
    rw [all_set e h1 hz, h1, List.length_set, Nat.mul_one, ← htk, Array.toList_setIfInBounds, List.take_set]
end
end Go.HL
namespace Go.HL
open Go.RowKit
/-! more on ints, arrays that lie within a block -/
section
variable {P : Program}
theorem xor_int (a b : Nat) (ha : a < 4611686018427387904) (hb : b < 4611686018427387904) : IntKind.i64.wrap ((BitVec.ofInt 64 (a : Int) ^^^ BitVec.ofInt 64 (b : Int)).toNat : Int) = ((a ^^^ b : Nat) : Int) := by
  have e1 : BitVec.ofInt 64 (a : Int) = BitVec.ofNat 64 a := by simp
  have e2 : BitVec.ofInt 64 (b : Int) = BitVec.ofNat 64 b := by simp
  have h3 : a ^^^ b < 2 ^ 62 := Nat.xor_lt_two_pow (by omega) (by omega)
  rw [e1, e2, BitVec.toNat_xor, BitVec.toNat_ofNat, BitVec.toNat_ofNat, Nat.mod_eq_of_lt (by omega), Nat.mod_eq_of_lt (by omega)]
  exact wrap_i64 (by omega)
theorem n_xori (t : TypeId) (w : World) (a b : Nat) (ha : a < 4611686018427387904) (hb : b < 4611686018427387904) : (binOp .xor t (vi a) (vi b)).run P w = .ok (vi ((a ^^^ b : Nat) : Int)) w := by
  rw [← xor_int a b ha hb]
  simp only [binOp, Op.intBits, IntKind.bits]
  simp only [ne_eq, not_true_eq_false, if_false, Sem.run_pure]
  rfl
theorem n_shli (t : TypeId) (w : World) (a n : Nat) (hn : n < 62) (ha : a * 2 ^ n < 4611686018427387904) (k : IntKind) : (binOp .shl t (vi a) (.int k (n : Int))).run P w = .ok (vi ((a * 2 ^ n : Nat) : Int)) w := by
  have h1 : ¬ ((n : Int) < 0) := by omega
  have h2 : min n 64 = n := by omega
  simp only [binOp, Op.shift, if_neg h1, IntKind.bits, Int.toNat_natCast, h2]
  have h3 : (a : Int) * 2 ^ n = ((a * 2 ^ n : Nat) : Int) := by simp
  rw [h3, wrap_i64 (by omega)]
  rfl
end
section
variable {P : Program} {ops : Array Oper} {Q : Exit → Act → World → Prop} {N : Nat} {E : Env} {w : World} {rest : List Oper} {d : Nat} {ty : TypeId} {pos : String} {af : Array Edge} {t T tb : TypeId} {x y : Operand}
theorem WL.indexArrO {b o n : Nat} {k : IntKind} {i : Int} (j : Nat) (ht : P.underlying t = some (.array n T)) (hs : ∀ w, (sizeOf T).run P w = .ok 1 w) (hx : ev E x = some (.pointer (some ⟨b, o, none⟩))) (hy : ev E y = some (.int k i)) (hi : i = (j : Int) ∧ j < n) (hd : Nat.blt d N = true)
    (h : WL P ops Q N rest ((d, .pointer (some ⟨b, o + j, none⟩)) :: E) w) : WL P ops Q N (⟨some d, .indexAddr t x y, ty, pos, af, none⟩ :: rest) E w :=
  WL.run _ w (fun a ha => by
    obtain ⟨rfl, hj⟩ := hi
    have h2 : ((j : Int) < (n : Int)) := by omega
    simp [execOp, ev_eval ha hx, ev_eval ha hy, Instr.indexAt, asIntOf, run_underlying ht, hs, Instr.sureAddr, hj, Addr.add_lit]) hd h
end
end Go.HL
namespace Go.HL
open Go.RowKit
/-- a row of bytes among others: where it lies, its room, what it holds -/
structure Rw where
  ao : Option Addr
  cap : Nat
  xs : List UInt8
def erow : Enc Rw := ⟨1, fun r => [.slice r.ao r.xs.length r.cap], fun _ => rfl, by simp [Value.oneCell'], by decide⟩
/-- rows of bytes that are read -/
structure RS (S : Nat → Prop) (w : World) (ao : Option Addr) (c : Nat) (rs : List Rw) : Prop where
  outer : RSl S w erow ao c rs
  inner : ∀ r ∈ rs, RSl S w eb r.ao r.cap r.xs
section
variable {S : Nat → Prop} {w w' : World} {ao : Option Addr} {c : Nat} {rs : List Rw} {M : Nat → Prop}
theorem RS.chg (h : RS S w ao c rs) (k : Chg M w w') (hd : ∀ b, b < w.heap.size → S b → M b → False) : RS S w' ao c rs := ⟨h.outer.chg k hd, fun r hr => (h.inner r hr).chg k hd⟩
theorem RS.pure (h : RS S w ao c rs) (k : Chg Nob w w') : RS S w' ao c rs := ⟨h.outer.pure k, fun r hr => (h.inner r hr).pure k⟩
theorem RS.mono {S' : Nat → Prop} (h : RS S w ao c rs) (k : ∀ b, S b → S' b) : RS S' w ao c rs := ⟨h.outer.mono k, fun r hr => (h.inner r hr).mono k⟩
theorem RS.old (h : RS S w ao c rs) : RS (· < w.heap.size) w ao c rs := ⟨h.outer.old, fun r hr => (h.inner r hr).old⟩
theorem RS.at (h : RS S w ao c rs) {i : Nat} {r : Rw} (hr : rs[i]? = some r) : RSl S w eb r.ao r.cap r.xs := h.inner r (List.mem_of_getElem? hr)
end
end Go.HL
namespace Go.HL
open Go.ChangeShapes Go.WideShapes Go.ChangeAt Go.RowKit Go.Deep
section
variable {H : Type} {enc : TypeId × Value → H} {P : Program} {W : World} {α : Type}
/-- cells that are a slice: what it reads, as a list -/
theorem open_trod {t T : TypeId} (ht : P.underlying t = some (.slice T)) (e : Enc α) (WF : α → DataW H → Prop) (hC : P.cellsOf T = e.sz)
    (hel : ∀ (n : Nat) (cs : List Value) (y : DataW H × List MemPlace), cs.length = e.sz → (∀ (q : Nat) (v : Value), cs[q]? = some v → True) → DataW.trod enc P W 0 (fun _ => true) true n T cs = some y → ∃ x, cs = e.f x ∧ WF x y.1)
    {fuel : Nat} {cs0 : List Value} {y0 : DataW H × List MemPlace} (hf : DataW.trod enc P W 0 (fun _ => true) true fuel t cs0 = some y0) :
    ∃ (ao : Option Addr) (c : Nat) (xs : List α), cs0 = [.slice ao xs.length c] ∧ RSl (· < W.heap.size) W e ao c xs ∧ (y0.1 = .nil ∧ xs = [] ∨ ∃ el sp, y0.1 = .slice el sp ∧ xs.length = el.length ∧ ∀ (i : Nat) (x : α), xs[i]? = some x → ∃ d, el[i]? = some d ∧ WF x d) := by
  rcases open_slice ht hf with ⟨hcs, hx⟩ | ⟨a, len0, cap0, m, n, D, Pl, hcs, hb, hl, hm, hmm, hx, hi⟩
  · exact ⟨none, 0, [], hcs, RSl.nil _ _ _ _ _, .inl ⟨congrArg Prod.fst hx, rfl⟩⟩
  · simp only [if_true] at hmm
    subst hmm
    obtain ⟨X, hX⟩ := choose_lt (α := Option α) (n := len0) (p := fun i x => ∃ z, x = some z ∧ WF z (D i) ∧ ∀ q u, (e.f z)[q]? = some u → W.cell? ((a.add (i * e.sz)).add q) = some u) (fun i hil => by
      obtain ⟨cs', h1, h2⟩ := hi i (by omega)
      rw [hC] at h1
      obtain ⟨_, hlen, hat⟩ := World.cells?_some h1
      obtain ⟨z, rfl, hz⟩ := hel n cs' _ hlen (fun _ _ _ => trivial) h2
      refine ⟨some z, z, rfl, hz, fun q u hq => ?_⟩
      have hql := (List.getElem?_eq_some_iff.1 hq).1
      rw [hat q (by rw [← hlen]; exact hql)]
      exact hq)
    have hlx : ∀ (k : Nat), k ≤ len0 → ∃ xs : List α, xs.length = k ∧ ∀ i, i < k → ∃ z, xs[i]? = some z ∧ X i = some z := by
      intro k
      induction k with
      | zero => intro _; exact ⟨[], rfl, fun i hi => by omega⟩
      | succ k ih =>
        intro hk
        obtain ⟨xs, hxl, hxs⟩ := ih (by omega)
        obtain ⟨z, hz, _⟩ := hX k (by omega)
        refine ⟨xs ++ [z], by simp [hxl], fun i hi => ?_⟩
        by_cases e : i = k
        · subst e; exact ⟨z, by simp [← hxl], hz⟩
        · obtain ⟨y, h1, h2⟩ := hxs i (by omega)
          exact ⟨y, by rw [List.getElem?_append_left (by omega)]; exact h1, h2⟩
    obtain ⟨xs, hxl, hxs⟩ := hlx len0 (Nat.le_refl _)
    have hmem : ∀ (i : Nat) (x : α), xs[i]? = some x → ∃ d, ((List.range len0).map D)[i]? = some d ∧ WF x d := by
      intro i x hx
      have hil : i < len0 := by rw [← hxl]; exact (List.getElem?_eq_some_iff.1 hx).1
      obtain ⟨z, h1, h2⟩ := hxs i hil
      obtain ⟨z', h3, h4, _⟩ := hX i hil
      rw [h2] at h3; injection h3 with h3; subst h3
      rw [hx] at h1; injection h1 with h1; subst h1
      exact ⟨D i, by simp [hil], h4⟩
    have hspot : xs ≠ [] → ∃ b off, a = ⟨b, off, none⟩ := by
      intro hne
      have hpos : 0 < len0 := by rw [← hxl]; exact List.length_pos_iff.2 hne
      obtain ⟨z, _, _, hc⟩ := hX 0 hpos
      have hq : (e.f z)[0]? = some ((e.f z)[0]'(by rw [e.len]; exact e.pos)) := List.getElem?_eq_getElem _
      have h1 := hc 0 _ hq
      rw [Nat.zero_mul] at h1
      have h2 : ((a.add 0).add 0) = a := by simp [Addr.add]
      rw [h2] at h1
      unfold World.cell? at h1
      obtain ⟨b, off, sp⟩ := a
      cases sp with
      | none => exact ⟨b, off, rfl⟩
      | some s => simp at h1; split at h1 <;> simp at h1
    have hcell : ∀ j u, (e.all xs)[j]? = some u → ∃ b off, (some a) = some (⟨b, off, none⟩ : Addr) ∧ W.cell? ⟨b, off + j, none⟩ = some u := by
      intro j u hj
      have hjl := (List.getElem?_eq_some_iff.1 hj).1
      rw [Enc.all_len, hxl] at hjl
      have hil : j / e.sz < len0 := Nat.div_lt_of_lt_mul (by rw [Nat.mul_comm]; exact hjl)
      obtain ⟨z, h1, h2⟩ := hxs (j / e.sz) hil
      obtain ⟨z', h3, _, h4⟩ := hX (j / e.sz) hil
      rw [h2] at h3; injection h3 with h3; subst h3
      have hdm : j / e.sz * e.sz + j % e.sz = j := by rw [Nat.mul_comm]; exact Nat.div_add_mod j e.sz
      have hq : j % e.sz < e.sz := Nat.mod_lt _ e.pos
      have h5 := e.all_at h1 hq
      rw [hdm, hj] at h5
      obtain ⟨b, off, rfl⟩ := hspot (by rintro rfl; rw [← hxl] at hil; exact absurd hil (Nat.not_lt_zero _))
      refine ⟨b, off, rfl, ?_⟩
      have h6 := h4 (j % e.sz) u h5.symm
      rw [Addr.add_lit, Addr.add_lit] at h6
      rwa [Nat.add_assoc, hdm] at h6
    refine ⟨some a, m, xs, by rw [hxl]; exact hcs, ⟨fun hne a' ea => ?_, by omega, Enc.all_len _ _, hcell⟩, .inr ⟨_, _, congrArg Prod.fst hx, by simp [hxl], hmem⟩⟩
    injection ea with ea
    subst ea
    have hl0 : 0 < (e.all xs).length := by rw [Enc.all_len]; exact Nat.mul_pos (List.length_pos_iff.2 hne) e.pos
    obtain ⟨b, off, h1, h2⟩ := hcell 0 _ (List.getElem?_eq_getElem hl0)
    injection h1 with h1
    subst h1
    exact World.block_lt_of_cell? W _ h2
end
end Go.HL
namespace Go.Proofs.YtggecdldnpildaaGreat
open Go.RowKit Go.HL
set_option maxRecDepth 100000
theorem eg_12 : ∀ (args : Array Value) (w : World), (callFunc 12 args).run Tryz.prog w = .ok (.enter 12 args) w := eg_of Tryz.func12 (by kernel_rfl) rfl
theorem eg_13 : ∀ (args : Array Value) (w : World), (callFunc 13 args).run Tryz.prog w = .ok (.enter 13 args) w := eg_of Tryz.func13 (by kernel_rfl) rfl
theorem eg_14 : ∀ (args : Array Value) (w : World), (callFunc 14 args).run Tryz.prog w = .ok (.enter 14 args) w := eg_of Tryz.func14 (by kernel_rfl) rfl
theorem eg_15 : ∀ (args : Array Value) (w : World), (callFunc 15 args).run Tryz.prog w = .ok (.enter 15 args) w := eg_of Tryz.func15 (by kernel_rfl) rfl
theorem eg_16 : ∀ (args : Array Value) (w : World), (callFunc 16 args).run Tryz.prog w = .ok (.enter 16 args) w := eg_of Tryz.func16 (by kernel_rfl) rfl
theorem eg_17 : ∀ (args : Array Value) (w : World), (callFunc 17 args).run Tryz.prog w = .ok (.enter 17 args) w := eg_of Tryz.func17 (by kernel_rfl) rfl
theorem eg_18 : ∀ (args : Array Value) (w : World), (callFunc 18 args).run Tryz.prog w = .ok (.enter 18 args) w := eg_of Tryz.func18 (by kernel_rfl) rfl
theorem eg_19 : ∀ (args : Array Value) (w : World), (callFunc 19 args).run Tryz.prog w = .ok (.enter 19 args) w := eg_of Tryz.func19 (by kernel_rfl) rfl
theorem eg_20 : ∀ (args : Array Value) (w : World), (callFunc 20 args).run Tryz.prog w = .ok (.enter 20 args) w := eg_of Tryz.func20 (by kernel_rfl) rfl
theorem eg_21 : ∀ (args : Array Value) (w : World), (callFunc 21 args).run Tryz.prog w = .ok (.enter 21 args) w := eg_of Tryz.func21 (by kernel_rfl) rfl
theorem eg_22 : ∀ (args : Array Value) (w : World), (callFunc 22 args).run Tryz.prog w = .ok (.enter 22 args) w := eg_of Tryz.func22 (by kernel_rfl) rfl
theorem eg_23 : ∀ (args : Array Value) (w : World), (callFunc 23 args).run Tryz.prog w = .ok (.enter 23 args) w := eg_of Tryz.func23 (by kernel_rfl) rfl
theorem eg_24 : ∀ (args : Array Value) (w : World), (callFunc 24 args).run Tryz.prog w = .ok (.enter 24 args) w := eg_of Tryz.func24 (by kernel_rfl) rfl
theorem eg_25 : ∀ (args : Array Value) (w : World), (callFunc 25 args).run Tryz.prog w = .ok (.enter 25 args) w := eg_of Tryz.func25 (by kernel_rfl) rfl
theorem eg_26 : ∀ (args : Array Value) (w : World), (callFunc 26 args).run Tryz.prog w = .ok (.enter 26 args) w := eg_of Tryz.func26 (by kernel_rfl) rfl
theorem eg_28 : ∀ (args : Array Value) (w : World), (callFunc 28 args).run Tryz.prog w = .ok (.enter 28 args) w := eg_of Tryz.func28 (by kernel_rfl) rfl
theorem eg_29 : ∀ (args : Array Value) (w : World), (callFunc 29 args).run Tryz.prog w = .ok (.enter 29 args) w := eg_of Tryz.func29 (by kernel_rfl) rfl
theorem eg_30 : ∀ (args : Array Value) (w : World), (callFunc 30 args).run Tryz.prog w = .ok (.enter 30 args) w := eg_of Tryz.func30 (by kernel_rfl) rfl
theorem eg_31 : ∀ (args : Array Value) (w : World), (callFunc 31 args).run Tryz.prog w = .ok (.enter 31 args) w := eg_of Tryz.func31 (by kernel_rfl) rfl
theorem eg_34 : ∀ (args : Array Value) (w : World), (callFunc 34 args).run Tryz.prog w = .ok (.enter 34 args) w := eg_of Tryz.func34 (by kernel_rfl) rfl
theorem eg_35 : ∀ (args : Array Value) (w : World), (callFunc 35 args).run Tryz.prog w = .ok (.enter 35 args) w := eg_of Tryz.func35 (by kernel_rfl) rfl
theorem eg_36 : ∀ (args : Array Value) (w : World), (callFunc 36 args).run Tryz.prog w = .ok (.enter 36 args) w := eg_of Tryz.func36 (by kernel_rfl) rfl
theorem eg_37 : ∀ (args : Array Value) (w : World), (callFunc 37 args).run Tryz.prog w = .ok (.enter 37 args) w := eg_of Tryz.func37 (by kernel_rfl) rfl
theorem eg_38 : ∀ (args : Array Value) (w : World), (callFunc 38 args).run Tryz.prog w = .ok (.enter 38 args) w := eg_of Tryz.func38 (by kernel_rfl) rfl
theorem eg_39 : ∀ (args : Array Value) (w : World), (callFunc 39 args).run Tryz.prog w = .ok (.enter 39 args) w := eg_of Tryz.func39 (by kernel_rfl) rfl
theorem eg_40 : ∀ (args : Array Value) (w : World), (callFunc 40 args).run Tryz.prog w = .ok (.enter 40 args) w := eg_of Tryz.func40 (by kernel_rfl) rfl
theorem eg_41 : ∀ (args : Array Value) (w : World), (callFunc 41 args).run Tryz.prog w = .ok (.enter 41 args) w := eg_of Tryz.func41 (by kernel_rfl) rfl
theorem eg_42 : ∀ (args : Array Value) (w : World), (callFunc 42 args).run Tryz.prog w = .ok (.enter 42 args) w := eg_of Tryz.func42 (by kernel_rfl) rfl
theorem eg_43 : ∀ (args : Array Value) (w : World), (callFunc 43 args).run Tryz.prog w = .ok (.enter 43 args) w := eg_of Tryz.func43 (by kernel_rfl) rfl
theorem eg_44 : ∀ (args : Array Value) (w : World), (callFunc 44 args).run Tryz.prog w = .ok (.enter 44 args) w := eg_of Tryz.func44 (by kernel_rfl) rfl
theorem eg_45 : ∀ (args : Array Value) (w : World), (callFunc 45 args).run Tryz.prog w = .ok (.enter 45 args) w := eg_of Tryz.func45 (by kernel_rfl) rfl
theorem eg_46 : ∀ (args : Array Value) (w : World), (callFunc 46 args).run Tryz.prog w = .ok (.enter 46 args) w := eg_of Tryz.func46 (by kernel_rfl) rfl
theorem eg_47 : ∀ (args : Array Value) (w : World), (callFunc 47 args).run Tryz.prog w = .ok (.enter 47 args) w := eg_of Tryz.func47 (by kernel_rfl) rfl
theorem eg_48 : ∀ (args : Array Value) (w : World), (callFunc 48 args).run Tryz.prog w = .ok (.enter 48 args) w := eg_of Tryz.func48 (by kernel_rfl) rfl
theorem eg_49 : ∀ (args : Array Value) (w : World), (callFunc 49 args).run Tryz.prog w = .ok (.enter 49 args) w := eg_of Tryz.func49 (by kernel_rfl) rfl
theorem eg_50 : ∀ (args : Array Value) (w : World), (callFunc 50 args).run Tryz.prog w = .ok (.enter 50 args) w := eg_of Tryz.func50 (by kernel_rfl) rfl
theorem eg_51 : ∀ (args : Array Value) (w : World), (callFunc 51 args).run Tryz.prog w = .ok (.enter 51 args) w := eg_of Tryz.func51 (by kernel_rfl) rfl
theorem eg_52 : ∀ (args : Array Value) (w : World), (callFunc 52 args).run Tryz.prog w = .ok (.enter 52 args) w := eg_of Tryz.func52 (by kernel_rfl) rfl
theorem eg_53 : ∀ (args : Array Value) (w : World), (callFunc 53 args).run Tryz.prog w = .ok (.enter 53 args) w := eg_of Tryz.func53 (by kernel_rfl) rfl
theorem eg_54 : ∀ (args : Array Value) (w : World), (callFunc 54 args).run Tryz.prog w = .ok (.enter 54 args) w := eg_of Tryz.func54 (by kernel_rfl) rfl
theorem eg_55 : ∀ (args : Array Value) (w : World), (callFunc 55 args).run Tryz.prog w = .ok (.enter 55 args) w := eg_of Tryz.func55 (by kernel_rfl) rfl
theorem eg_56 : ∀ (args : Array Value) (w : World), (callFunc 56 args).run Tryz.prog w = .ok (.enter 56 args) w := eg_of Tryz.func56 (by kernel_rfl) rfl
theorem eg_57 : ∀ (args : Array Value) (w : World), (callFunc 57 args).run Tryz.prog w = .ok (.enter 57 args) w := eg_of Tryz.func57 (by kernel_rfl) rfl
theorem eg_58 : ∀ (args : Array Value) (w : World), (callFunc 58 args).run Tryz.prog w = .ok (.enter 58 args) w := eg_of Tryz.func58 (by kernel_rfl) rfl
theorem eg_59 : ∀ (args : Array Value) (w : World), (callFunc 59 args).run Tryz.prog w = .ok (.enter 59 args) w := eg_of Tryz.func59 (by kernel_rfl) rfl
theorem eg_60 : ∀ (args : Array Value) (w : World), (callFunc 60 args).run Tryz.prog w = .ok (.enter 60 args) w := eg_of Tryz.func60 (by kernel_rfl) rfl
theorem eg_61 : ∀ (args : Array Value) (w : World), (callFunc 61 args).run Tryz.prog w = .ok (.enter 61 args) w := eg_of Tryz.func61 (by kernel_rfl) rfl
theorem eg_62 : ∀ (args : Array Value) (w : World), (callFunc 62 args).run Tryz.prog w = .ok (.enter 62 args) w := eg_of Tryz.func62 (by kernel_rfl) rfl
theorem eg_63 : ∀ (args : Array Value) (w : World), (callFunc 63 args).run Tryz.prog w = .ok (.enter 63 args) w := eg_of Tryz.func63 (by kernel_rfl) rfl
theorem eg_64 : ∀ (args : Array Value) (w : World), (callFunc 64 args).run Tryz.prog w = .ok (.enter 64 args) w := eg_of Tryz.func64 (by kernel_rfl) rfl
theorem eg_65 : ∀ (args : Array Value) (w : World), (callFunc 65 args).run Tryz.prog w = .ok (.enter 65 args) w := eg_of Tryz.func65 (by kernel_rfl) rfl
theorem eg_66 : ∀ (args : Array Value) (w : World), (callFunc 66 args).run Tryz.prog w = .ok (.enter 66 args) w := eg_of Tryz.func66 (by kernel_rfl) rfl
theorem eg_67 : ∀ (args : Array Value) (w : World), (callFunc 67 args).run Tryz.prog w = .ok (.enter 67 args) w := eg_of Tryz.func67 (by kernel_rfl) rfl
theorem eg_68 : ∀ (args : Array Value) (w : World), (callFunc 68 args).run Tryz.prog w = .ok (.enter 68 args) w := eg_of Tryz.func68 (by kernel_rfl) rfl
theorem eg_69 : ∀ (args : Array Value) (w : World), (callFunc 69 args).run Tryz.prog w = .ok (.enter 69 args) w := eg_of Tryz.func69 (by kernel_rfl) rfl
theorem eg_70 : ∀ (args : Array Value) (w : World), (callFunc 70 args).run Tryz.prog w = .ok (.enter 70 args) w := eg_of Tryz.func70 (by kernel_rfl) rfl
theorem eg_71 : ∀ (args : Array Value) (w : World), (callFunc 71 args).run Tryz.prog w = .ok (.enter 71 args) w := eg_of Tryz.func71 (by kernel_rfl) rfl
theorem eg_74 : ∀ (args : Array Value) (w : World), (callFunc 74 args).run Tryz.prog w = .ok (.enter 74 args) w := eg_of Tryz.func74 (by kernel_rfl) rfl
theorem eg_75 : ∀ (args : Array Value) (w : World), (callFunc 75 args).run Tryz.prog w = .ok (.enter 75 args) w := eg_of Tryz.func75 (by kernel_rfl) rfl
theorem eg_76 : ∀ (args : Array Value) (w : World), (callFunc 76 args).run Tryz.prog w = .ok (.enter 76 args) w := eg_of Tryz.func76 (by kernel_rfl) rfl
theorem eg_77 : ∀ (args : Array Value) (w : World), (callFunc 77 args).run Tryz.prog w = .ok (.enter 77 args) w := eg_of Tryz.func77 (by kernel_rfl) rfl
theorem eg_78 : ∀ (args : Array Value) (w : World), (callFunc 78 args).run Tryz.prog w = .ok (.enter 78 args) w := eg_of Tryz.func78 (by kernel_rfl) rfl
theorem eg_79 : ∀ (args : Array Value) (w : World), (callFunc 79 args).run Tryz.prog w = .ok (.enter 79 args) w := eg_of Tryz.func79 (by kernel_rfl) rfl
theorem eg_91 : ∀ (args : Array Value) (w : World), (callFunc 91 args).run Tryz.prog w = .ok (.enter 91 args) w := eg_of Tryz.func91 (by kernel_rfl) rfl
theorem eg_92 : ∀ (args : Array Value) (w : World), (callFunc 92 args).run Tryz.prog w = .ok (.enter 92 args) w := eg_of Tryz.func92 (by kernel_rfl) rfl
theorem eg_93 : ∀ (args : Array Value) (w : World), (callFunc 93 args).run Tryz.prog w = .ok (.enter 93 args) w := eg_of Tryz.func93 (by kernel_rfl) rfl
theorem eg_100 : ∀ (args : Array Value) (w : World), (callFunc 100 args).run Tryz.prog w = .ok (.enter 100 args) w := eg_of Tryz.func100 (by kernel_rfl) rfl
theorem eg_101 : ∀ (args : Array Value) (w : World), (callFunc 101 args).run Tryz.prog w = .ok (.enter 101 args) w := eg_of Tryz.func101 (by kernel_rfl) rfl
theorem eg_102 : ∀ (args : Array Value) (w : World), (callFunc 102 args).run Tryz.prog w = .ok (.enter 102 args) w := eg_of Tryz.func102 (by kernel_rfl) rfl
theorem eg_104 : ∀ (args : Array Value) (w : World), (callFunc 104 args).run Tryz.prog w = .ok (.enter 104 args) w := eg_of Tryz.func104 (by kernel_rfl) rfl
theorem eg_105 : ∀ (args : Array Value) (w : World), (callFunc 105 args).run Tryz.prog w = .ok (.enter 105 args) w := eg_of Tryz.func105 (by kernel_rfl) rfl
theorem eg_106 : ∀ (args : Array Value) (w : World), (callFunc 106 args).run Tryz.prog w = .ok (.enter 106 args) w := eg_of Tryz.func106 (by kernel_rfl) rfl
theorem eg_107 : ∀ (args : Array Value) (w : World), (callFunc 107 args).run Tryz.prog w = .ok (.enter 107 args) w := eg_of Tryz.func107 (by kernel_rfl) rfl
theorem eg_108 : ∀ (args : Array Value) (w : World), (callFunc 108 args).run Tryz.prog w = .ok (.enter 108 args) w := eg_of Tryz.func108 (by kernel_rfl) rfl
theorem eg_109 : ∀ (args : Array Value) (w : World), (callFunc 109 args).run Tryz.prog w = .ok (.enter 109 args) w := eg_of Tryz.func109 (by kernel_rfl) rfl
theorem eg_110 : ∀ (args : Array Value) (w : World), (callFunc 110 args).run Tryz.prog w = .ok (.enter 110 args) w := eg_of Tryz.func110 (by kernel_rfl) rfl
theorem eg_111 : ∀ (args : Array Value) (w : World), (callFunc 111 args).run Tryz.prog w = .ok (.enter 111 args) w := eg_of Tryz.func111 (by kernel_rfl) rfl
theorem eg_112 : ∀ (args : Array Value) (w : World), (callFunc 112 args).run Tryz.prog w = .ok (.enter 112 args) w := eg_of Tryz.func112 (by kernel_rfl) rfl
theorem fld_47_0 (b o : Nat) (w : World) : (Instr.fieldAt 47 (.pointer (some ⟨b, o, none⟩)) 0).run Tryz.prog w = .ok (.pointer (some ⟨b, o + 0, none⟩)) w := by
  simp [Instr.fieldAt, run_underlying Tryz.underlying47, Instr.sureAddr, fieldPlace, Tryz.sizeOf3, Addr.add_lit]
theorem fld_47_1 (b o : Nat) (w : World) : (Instr.fieldAt 47 (.pointer (some ⟨b, o, none⟩)) 1).run Tryz.prog w = .ok (.pointer (some ⟨b, o + 1, none⟩)) w := by
  simp [Instr.fieldAt, run_underlying Tryz.underlying47, Instr.sureAddr, fieldPlace, Tryz.sizeOf9, Addr.add_lit]
theorem fld_47_2 (b o : Nat) (w : World) : (Instr.fieldAt 47 (.pointer (some ⟨b, o, none⟩)) 2).run Tryz.prog w = .ok (.pointer (some ⟨b, o + 2, none⟩)) w := by
  simp [Instr.fieldAt, run_underlying Tryz.underlying47, Instr.sureAddr, fieldPlace, Tryz.sizeOf3, Addr.add_lit]
theorem fld_79_0 (b o : Nat) (w : World) : (Instr.fieldAt 79 (.pointer (some ⟨b, o, none⟩)) 0).run Tryz.prog w = .ok (.pointer (some ⟨b, o + 0, none⟩)) w := by
  simp [Instr.fieldAt, run_underlying Tryz.underlying79, Instr.sureAddr, fieldPlace, Tryz.sizeOf3, Addr.add_lit]
theorem fld_79_1 (b o : Nat) (w : World) : (Instr.fieldAt 79 (.pointer (some ⟨b, o, none⟩)) 1).run Tryz.prog w = .ok (.pointer (some ⟨b, o + 1, none⟩)) w := by
  simp [Instr.fieldAt, run_underlying Tryz.underlying79, Instr.sureAddr, fieldPlace, Tryz.sizeOf3, Addr.add_lit]
theorem fld_79_2 (b o : Nat) (w : World) : (Instr.fieldAt 79 (.pointer (some ⟨b, o, none⟩)) 2).run Tryz.prog w = .ok (.pointer (some ⟨b, o + 2, none⟩)) w := by
  simp [Instr.fieldAt, run_underlying Tryz.underlying79, Instr.sureAddr, fieldPlace, Tryz.sizeOf76, Addr.add_lit]
theorem fld_79_3 (b o : Nat) (w : World) : (Instr.fieldAt 79 (.pointer (some ⟨b, o, none⟩)) 3).run Tryz.prog w = .ok (.pointer (some ⟨b, o + 3, none⟩)) w := by
  simp [Instr.fieldAt, run_underlying Tryz.underlying79, Instr.sureAddr, fieldPlace, Tryz.sizeOf55, Addr.add_lit]
theorem fld_79_4 (b o : Nat) (w : World) : (Instr.fieldAt 79 (.pointer (some ⟨b, o, none⟩)) 4).run Tryz.prog w = .ok (.pointer (some ⟨b, o + 4, none⟩)) w := by
  simp [Instr.fieldAt, run_underlying Tryz.underlying79, Instr.sureAddr, fieldPlace, Tryz.sizeOf77, Addr.add_lit]
theorem fld_79_5 (b o : Nat) (w : World) : (Instr.fieldAt 79 (.pointer (some ⟨b, o, none⟩)) 5).run Tryz.prog w = .ok (.pointer (some ⟨b, o + 5, none⟩)) w := by
  simp [Instr.fieldAt, run_underlying Tryz.underlying79, Instr.sureAddr, fieldPlace, Tryz.sizeOf4, Addr.add_lit]
theorem fld_79_6 (b o : Nat) (w : World) : (Instr.fieldAt 79 (.pointer (some ⟨b, o, none⟩)) 6).run Tryz.prog w = .ok (.pointer (some ⟨b, o + 6, none⟩)) w := by
  simp [Instr.fieldAt, run_underlying Tryz.underlying79, Instr.sureAddr, fieldPlace, Tryz.sizeOf4, Addr.add_lit]
theorem fld_79_7 (b o : Nat) (w : World) : (Instr.fieldAt 79 (.pointer (some ⟨b, o, none⟩)) 7).run Tryz.prog w = .ok (.pointer (some ⟨b, o + 7, none⟩)) w := by
  simp [Instr.fieldAt, run_underlying Tryz.underlying79, Instr.sureAddr, fieldPlace, Tryz.sizeOf3, Addr.add_lit]
theorem fld_81_0 (b o : Nat) (w : World) : (Instr.fieldAt 81 (.pointer (some ⟨b, o, none⟩)) 0).run Tryz.prog w = .ok (.pointer (some ⟨b, o + 0, none⟩)) w := by
  simp [Instr.fieldAt, run_underlying Tryz.underlying81, Instr.sureAddr, fieldPlace, Tryz.sizeOf27, Addr.add_lit]
theorem fld_81_1 (b o : Nat) (w : World) : (Instr.fieldAt 81 (.pointer (some ⟨b, o, none⟩)) 1).run Tryz.prog w = .ok (.pointer (some ⟨b, o + 1, none⟩)) w := by
  simp [Instr.fieldAt, run_underlying Tryz.underlying81, Instr.sureAddr, fieldPlace, Tryz.sizeOf3, Addr.add_lit]
theorem fld_81_2 (b o : Nat) (w : World) : (Instr.fieldAt 81 (.pointer (some ⟨b, o, none⟩)) 2).run Tryz.prog w = .ok (.pointer (some ⟨b, o + 2, none⟩)) w := by
  simp [Instr.fieldAt, run_underlying Tryz.underlying81, Instr.sureAddr, fieldPlace, Tryz.sizeOf3, Addr.add_lit]
theorem fld_85_0 (b o : Nat) (w : World) : (Instr.fieldAt 85 (.pointer (some ⟨b, o, none⟩)) 0).run Tryz.prog w = .ok (.pointer (some ⟨b, o + 0, none⟩)) w := by
  simp [Instr.fieldAt, run_underlying Tryz.underlying85, Instr.sureAddr, fieldPlace, Tryz.sizeOf3, Addr.add_lit]
theorem fld_85_1 (b o : Nat) (w : World) : (Instr.fieldAt 85 (.pointer (some ⟨b, o, none⟩)) 1).run Tryz.prog w = .ok (.pointer (some ⟨b, o + 1, none⟩)) w := by
  simp [Instr.fieldAt, run_underlying Tryz.underlying85, Instr.sureAddr, fieldPlace, Tryz.sizeOf3, Addr.add_lit]
theorem fld_103_0 (b o : Nat) (w : World) : (Instr.fieldAt 103 (.pointer (some ⟨b, o, none⟩)) 0).run Tryz.prog w = .ok (.pointer (some ⟨b, o + 0, none⟩)) w := by
  simp [Instr.fieldAt, run_underlying Tryz.underlying103, Instr.sureAddr, fieldPlace, Tryz.sizeOf3, Addr.add_lit]
theorem fld_105_0 (b o : Nat) (w : World) : (Instr.fieldAt 105 (.pointer (some ⟨b, o, none⟩)) 0).run Tryz.prog w = .ok (.pointer (some ⟨b, o + 0, none⟩)) w := by
  simp [Instr.fieldAt, run_underlying Tryz.underlying105, Instr.sureAddr, fieldPlace, Tryz.sizeOf103, Addr.add_lit]
theorem fld_105_1 (b o : Nat) (w : World) : (Instr.fieldAt 105 (.pointer (some ⟨b, o, none⟩)) 1).run Tryz.prog w = .ok (.pointer (some ⟨b, o + 2, none⟩)) w := by
  simp [Instr.fieldAt, run_underlying Tryz.underlying105, Instr.sureAddr, fieldPlace, Tryz.sizeOf26, Addr.add_lit]
theorem fld_121_0 (b o : Nat) (w : World) : (Instr.fieldAt 121 (.pointer (some ⟨b, o, none⟩)) 0).run Tryz.prog w = .ok (.pointer (some ⟨b, o + 0, none⟩)) w := by
  simp [Instr.fieldAt, run_underlying Tryz.underlying121, Instr.sureAddr, fieldPlace, Tryz.sizeOf87, Addr.add_lit]
theorem fld_121_1 (b o : Nat) (w : World) : (Instr.fieldAt 121 (.pointer (some ⟨b, o, none⟩)) 1).run Tryz.prog w = .ok (.pointer (some ⟨b, o + 1, none⟩)) w := by
  simp [Instr.fieldAt, run_underlying Tryz.underlying121, Instr.sureAddr, fieldPlace, Tryz.sizeOf39, Addr.add_lit]
theorem fld_146_0 (b o : Nat) (w : World) : (Instr.fieldAt 146 (.pointer (some ⟨b, o, none⟩)) 0).run Tryz.prog w = .ok (.pointer (some ⟨b, o + 0, none⟩)) w := by
  simp [Instr.fieldAt, run_underlying Tryz.underlying146, Instr.sureAddr, fieldPlace, Tryz.sizeOf142, Addr.add_lit]
theorem fld_146_1 (b o : Nat) (w : World) : (Instr.fieldAt 146 (.pointer (some ⟨b, o, none⟩)) 1).run Tryz.prog w = .ok (.pointer (some ⟨b, o + 3, none⟩)) w := by
  simp [Instr.fieldAt, run_underlying Tryz.underlying146, Instr.sureAddr, fieldPlace, Tryz.sizeOf143, Addr.add_lit]
theorem fld_146_2 (b o : Nat) (w : World) : (Instr.fieldAt 146 (.pointer (some ⟨b, o, none⟩)) 2).run Tryz.prog w = .ok (.pointer (some ⟨b, o + 513, none⟩)) w := by
  simp [Instr.fieldAt, run_underlying Tryz.underlying146, Instr.sureAddr, fieldPlace, Tryz.sizeOf144, Addr.add_lit]
theorem info_3 : (Tryz.prog.info? 3).map (fun i => (i.zero, i.size, i.bytes)) = some (some (.int .i64 0), 1, 8) := by kernel_rfl
theorem info_4 : (Tryz.prog.info? 4).map (fun i => (i.zero, i.size, i.bytes)) = some (some (.bool false), 1, 1) := by kernel_rfl
theorem info_5 : (Tryz.prog.info? 5).map (fun i => (i.zero, i.size, i.bytes)) = some (some (.int .u8 0), 1, 1) := by kernel_rfl
theorem info_26 : (Tryz.prog.info? 26).map (fun i => (i.zero, i.size, i.bytes)) = some (some (.slice none 0 0), 1, 24) := by kernel_rfl
theorem info_85 : (Tryz.prog.info? 85).map (fun i => (i.zero, i.size, i.bytes)) = some (some (.agg #[(.int .i64 0), (.int .i64 0)]), 2, 16) := by kernel_rfl
theorem info_105 : (Tryz.prog.info? 105).map (fun i => (i.zero, i.size, i.bytes)) = some (some (.agg #[(.int .i64 0), (.int .i64 0), (.slice none 0 0)]), 3, 40) := by kernel_rfl
theorem info_121 : (Tryz.prog.info? 121).map (fun i => (i.zero, i.size, i.bytes)) = some (some (.agg #[(.slice none 0 0), (.slice none 0 0)]), 2, 48) := by kernel_rfl
theorem bld_79_0_1_2_3 (x0 : Int) (x1 : Int) (x2 : Option Nat) (xa3 : Option Addr) (xn3 xc3 : Nat) (w : World) : (Instr.build 79 #[(0, .int .i64 x0), (1, .int .i64 x1), (2, .map x2), (3, .slice xa3 xn3 xc3)]).run Tryz.prog w = .ok (.agg #[.int .i64 x0, .int .i64 x1, .map x2, .slice xa3 xn3 xc3, (.slice none 0 0), (.bool false), (.bool false), (.int .i64 0)]) w := by
  simp [Instr.build, run_underlying Tryz.underlying79, Tryz.zeroValue79, Instr.fill, Value.cells, Tryz.sizeOf3, Tryz.sizeOf4, Tryz.sizeOf55, Tryz.sizeOf76, Tryz.sizeOf77]
theorem bld_81_0_1_2 (x0 : Option Addr) (x1 : Int) (x2 : Int) (w : World) : (Instr.build 81 #[(0, .pointer x0), (1, .int .i64 x1), (2, .int .i64 x2)]).run Tryz.prog w = .ok (.agg #[.pointer x0, .int .i64 x1, .int .i64 x2]) w := by
  simp [Instr.build, run_underlying Tryz.underlying81, Tryz.zeroValue81, Instr.fill, Value.cells, Tryz.sizeOf3, Tryz.sizeOf27]
theorem bld_103_0_1 (x0 : Int) (x1 : Int) (w : World) : (Instr.build 103 #[(0, .int .i64 x0), (1, .int .i64 x1)]).run Tryz.prog w = .ok (.agg #[.int .i64 x0, .int .i64 x1]) w := by
  simp [Instr.build, run_underlying Tryz.underlying103, Tryz.zeroValue103, Instr.fill, Value.cells, Tryz.sizeOf3]
theorem bld_105_0_1 (x0 : Int) (x1 : Int) (xa2 : Option Addr) (xn2 xc2 : Nat) (w : World) : (Instr.build 105 #[(0, .agg #[.int .i64 x0, .int .i64 x1]), (1, .slice xa2 xn2 xc2)]).run Tryz.prog w = .ok (.agg #[.int .i64 x0, .int .i64 x1, .slice xa2 xn2 xc2]) w := by
  simp [Instr.build, run_underlying Tryz.underlying105, Tryz.zeroValue105, Instr.fill, Value.cells, Tryz.sizeOf26, Tryz.sizeOf103]
theorem bld_68_0_1_2_3_4_5_6_7 (x0 : Int) (x1 : Int) (x2 : Int) (x3 : Int) (x4 : Int) (x5 : Int) (x6 : Int) (x7 : Int) (w : World) : (Instr.build 68 #[(0, .int .u32 x0), (1, .int .u32 x1), (2, .int .u32 x2), (3, .int .u32 x3), (4, .int .u32 x4), (5, .int .u32 x5), (6, .int .u32 x6), (7, .int .u32 x7)]).run Tryz.prog w = .ok (.agg #[.int .u32 x0, .int .u32 x1, .int .u32 x2, .int .u32 x3, .int .u32 x4, .int .u32 x5, .int .u32 x6, .int .u32 x7]) w := by
  simp [Instr.build, run_underlying Tryz.underlying68, Tryz.zeroValue68, Instr.fill, Value.cells, Tryz.sizeOf66]
theorem bld_85_0_1 (x0 : Int) (x1 : Int) (w : World) : (Instr.build 85 #[(0, .int .i64 x0), (1, .int .i64 x1)]).run Tryz.prog w = .ok (.agg #[.int .i64 x0, .int .i64 x1]) w := by
  simp [Instr.build, run_underlying Tryz.underlying85, Tryz.zeroValue85, Instr.fill, Value.cells, Tryz.sizeOf3]
theorem bld_167_0_1_2 (x0 : Int) (x1 : Int) (x2 : Int) (w : World) : (Instr.build 167 #[(0, .int .u8 x0), (1, .int .u8 x1), (2, .int .u8 x2)]).run Tryz.prog w = .ok (.agg #[.int .u8 x0, .int .u8 x1, .int .u8 x2]) w := by
  simp [Instr.build, run_underlying Tryz.underlying167, Tryz.zeroValue167, Instr.fill, Value.cells, Tryz.sizeOf5]
theorem mixed : Tryz.prog.follows .mixedOrders = true := by kernel_rfl
end Go.Proofs.YtggecdldnpildaaGreat
namespace Go.Proofs.YtggecdldnpildaaGreat
open Go.RowKit Go.HL
set_option maxRecDepth 100000

/-! sync.Once, one goroutine: its parts -/
theorem raceDisable (w : World) : (callFunc 124 #[]).run Tryz.prog w = .ok (.value (.tuple #[])) w := run_call_mark0 Tryz.func124 (by kernel_rfl) (by kernel_rfl) (by kernel_rfl) .disable (by kernel_rfl) w
theorem raceEnable (w : World) : (callFunc 126 #[]).run Tryz.prog w = .ok (.value (.tuple #[])) w := run_call_mark0 Tryz.func126 (by kernel_rfl) (by kernel_rfl) (by kernel_rfl) .enable (by kernel_rfl) w
theorem raceAcquire (a : Addr) (w : World) : (callFunc 127 #[.pointer (some a)]).run Tryz.prog w = .ok (.value (.tuple #[])) w := run_call_marked Tryz.func127 (by kernel_rfl) (by kernel_rfl) (by kernel_rfl) .acquire (by kernel_rfl) a w
theorem raceRelease (a : Addr) (w : World) : (callFunc 129 #[.pointer (some a)]).run Tryz.prog w = .ok (.value (.tuple #[])) w := run_call_marked Tryz.func129 (by kernel_rfl) (by kernel_rfl) (by kernel_rfl) .releaseMerge (by kernel_rfl) a w
theorem store_deferred (a : Addr) (x : Value) (u : FrameMode) (w : World) (hc : w.cell? a = some x) (hz : w.frozen? a = false) :
    CallsD Tryz.prog 119 #[.pointer (some a), .bool true] u w fun e u' w' => u' = u ∧ (e = .returned (.tuple #[]) ∧ w' = w.drew.setCell a (.int .u32 1)) := by
  have hc' : w.drew.cell? a = some x := by go_simp
  have hz' : w.drew.frozen? a = false := by go_simp
  have hst := run_call_store (P := Tryz.prog) Tryz.func122 (by kernel_rfl) (by kernel_rfl) (by kernel_rfl) (by kernel_rfl) (k := .u32) (y := 1) hc' hz'
  go_enter_d Tryz.func119, Tryz.ntmps119
  go_wp2
  go_region_calls
  all_goals (go_end0; exact ⟨rfl, rfl⟩)
set_option maxRecDepth 100000 in
theorem unlock_deferred (a : Addr) (u : FrameMode) (w : World) (hc : w.cell? a = some (.int .i32 1)) (hz : w.frozen? a = false) :
    CallsD Tryz.prog 118 #[.pointer (some a)] u w fun e u' w' => u' = u ∧ (e = .returned (.tuple #[]) ∧ w' = w.setCell a (.int .i32 0)) := by
  have hd := raceDisable
  have he := raceEnable
  have hr := raceRelease
  have hadd := run_call_add (P := Tryz.prog) Tryz.func130 (by kernel_rfl) (by kernel_rfl) (by kernel_rfl) .i32 (by kernel_rfl) (y := -1) (s := 0) hc hz (by simp [go_sem]; rfl)
  have hcv := run_convert_to_unsafe (P := Tryz.prog) (src := 190) (dst := 194) Tryz.underlying190 Tryz.underlying194 (by kernel_rfl) hc
  go_enter_d Tryz.func118, Tryz.ntmps118
  go_wp2
  go_end0
  go_wp2
  go_end0
  exact ⟨rfl, rfl⟩
set_option maxRecDepth 100000 in
theorem lock_free (a : Addr) (w : World) (hc : w.cell? a = some (.int .i32 0)) (hz : w.frozen? a = false) :
    Calls Tryz.prog 117 #[.pointer (some a)] w fun e w' => e = .returned (.tuple #[]) ∧ w' = w.setCell a (.int .i32 1) := by
  have hd := raceDisable
  have he := raceEnable
  have ha := raceAcquire
  have hcas := run_call_cas_hit (P := Tryz.prog) Tryz.func125 (by kernel_rfl) (by kernel_rfl) (by kernel_rfl) .i32 (by kernel_rfl) (y := 1) hc hz
  have hc' : (w.setCell a (.int .i32 1)).cell? a = some (.int .i32 1) := World.cell?_setCell_same w a _ hc
  have hcv := run_convert_to_unsafe (P := Tryz.prog) (src := 190) (dst := 194) Tryz.underlying190 Tryz.underlying194 (by kernel_rfl) hc'
  go_enter Tryz.func117, Tryz.ntmps117
  go_wp2
  first | go_end0 | (simp only [Exit.inBlock, Exit.then]; refine bodyPost_ret (results_none rfl _ _ _) rfl ?_) | refine bodyPost_ret (results_none rfl _ _ _) rfl ?_
  go_wp2
  go_end0
  exact ⟨rfl, rfl⟩
end Go.Proofs.YtggecdldnpildaaGreat
/-! the field of 256 elements: plain laws -/
namespace Go.HL
/-- twice an element -/
def xt (b : UInt8) : UInt8 := if b < 128 then b <<< 1 else (b <<< 1) ^^^ 0x1D
theorem fin_all {p : UInt8 → Prop} (h : ∀ n : Fin 256, p (UInt8.ofNat n.1)) (b : UInt8) : p b := by
  have := h ⟨b.toNat, b.toNat_lt⟩
  simpa using this
def hi1 (u : UInt8) : UInt8 := if u = 0 then 0 else 0x1D
theorem xt_eq (b : UInt8) : xt b = (b <<< 1) ^^^ hi1 (b >>> 7) ∧ (b >>> 7 = 0 ∨ b >>> 7 = 1) :=
  fin_all (p := fun b => xt b = (b <<< 1) ^^^ hi1 (b >>> 7) ∧ (b >>> 7 = 0 ∨ b >>> 7 = 1)) (by decide +kernel) b
theorem hi1_xor {u v : UInt8} (hu : u = 0 ∨ u = 1) (hv : v = 0 ∨ v = 1) : hi1 (u ^^^ v) = hi1 u ^^^ hi1 v := by
  rcases hu with rfl | rfl <;> rcases hv with rfl | rfl <;> decide
theorem xor4 (a b c d : UInt8) : (a ^^^ b) ^^^ (c ^^^ d) = (a ^^^ c) ^^^ (b ^^^ d) := by
  rw [UInt8.xor_assoc, ← UInt8.xor_assoc b, UInt8.xor_comm b c, UInt8.xor_assoc c, ← UInt8.xor_assoc]
theorem xt_xor (b c : UInt8) : xt (b ^^^ c) = xt b ^^^ xt c := by
  have hs : (b ^^^ c) <<< 1 = b <<< 1 ^^^ c <<< 1 := by
    apply UInt8.toBitVec_inj.1
    simp [BitVec.shiftLeft_xor_distrib]
  have hr : (b ^^^ c) >>> 7 = b >>> 7 ^^^ c >>> 7 := by
    apply UInt8.toBitVec_inj.1
    simp [BitVec.ushiftRight_xor_distrib]
  rw [(xt_eq b).1, (xt_eq c).1, (xt_eq (b ^^^ c)).1, hs, hr, hi1_xor (xt_eq b).2 (xt_eq c).2, xor4]
def xtN : Nat → UInt8 → UInt8
  | 0, b => b
  | k + 1, b => xt (xtN k b)
theorem xtN_xor (k : Nat) (b c : UInt8) : xtN k (b ^^^ c) = xtN k b ^^^ xtN k c := by
  induction k with
  | zero => rfl
  | succ k ih => rw [xtN, ih, xt_xor]; rfl
def EXP : List UInt8 := [1, 2, 4, 8, 16, 32, 64, 128, 29, 58, 116, 232, 205, 135, 19, 38, 76, 152, 45, 90, 180, 117, 234, 201, 143, 3, 6, 12, 24, 48, 96, 192, 157, 39, 78, 156, 37, 74, 148, 53, 106, 212, 181, 119, 238, 193, 159, 35, 70, 140, 5, 10, 20, 40, 80, 160, 93, 186, 105, 210, 185, 111, 222, 161, 95, 190, 97, 194, 153, 47, 94, 188, 101, 202, 137, 15, 30, 60, 120, 240, 253, 231, 211, 187, 107, 214, 177, 127, 254, 225, 223, 163, 91, 182, 113, 226, 217, 175, 67, 134, 17, 34, 68, 136, 13, 26, 52, 104, 208, 189, 103, 206, 129, 31, 62, 124, 248, 237, 199, 147, 59, 118, 236, 197, 151, 51, 102, 204, 133, 23, 46, 92, 184, 109, 218, 169, 79, 158, 33, 66, 132, 21, 42, 84, 168, 77, 154, 41, 82, 164, 85, 170, 73, 146, 57, 114, 228, 213, 183, 115, 230, 209, 191, 99, 198, 145, 63, 126, 252, 229, 215, 179, 123, 246, 241, 255, 227, 219, 171, 75, 150, 49, 98, 196, 149, 55, 110, 220, 165, 87, 174, 65, 130, 25, 50, 100, 200, 141, 7, 14, 28, 56, 112, 224, 221, 167, 83, 166, 81, 162, 89, 178, 121, 242, 249, 239, 195, 155, 43, 86, 172, 69, 138, 9, 18, 36, 72, 144, 61, 122, 244, 245, 247, 243, 251, 235, 203, 139, 11, 22, 44, 88, 176, 125, 250, 233, 207, 131, 27, 54, 108, 216, 173, 71, 142, 1, 2, 4, 8, 16, 32, 64, 128, 29, 58, 116, 232, 205, 135, 19, 38, 76, 152, 45, 90, 180, 117, 234, 201, 143, 3, 6, 12, 24, 48, 96, 192, 157, 39, 78, 156, 37, 74, 148, 53, 106, 212, 181, 119, 238, 193, 159, 35, 70, 140, 5, 10, 20, 40, 80, 160, 93, 186, 105, 210, 185, 111, 222, 161, 95, 190, 97, 194, 153, 47, 94, 188, 101, 202, 137, 15, 30, 60, 120, 240, 253, 231, 211, 187, 107, 214, 177, 127, 254, 225, 223, 163, 91, 182, 113, 226, 217, 175, 67, 134, 17, 34, 68, 136, 13, 26, 52, 104, 208, 189, 103, 206, 129, 31, 62, 124, 248, 237, 199, 147, 59, 118, 236, 197, 151, 51, 102, 204, 133, 23, 46, 92, 184, 109, 218, 169, 79, 158, 33, 66, 132, 21, 42, 84, 168, 77, 154, 41, 82, 164, 85, 170, 73, 146, 57, 114, 228, 213, 183, 115, 230, 209, 191, 99, 198, 145, 63, 126, 252, 229, 215, 179, 123, 246, 241, 255, 227, 219, 171, 75, 150, 49, 98, 196, 149, 55, 110, 220, 165, 87, 174, 65, 130, 25, 50, 100, 200, 141, 7, 14, 28, 56, 112, 224, 221, 167, 83, 166, 81, 162, 89, 178, 121, 242, 249, 239, 195, 155, 43, 86, 172, 69, 138, 9, 18, 36, 72, 144, 61, 122, 244, 245, 247, 243, 251, 235, 203, 139, 11, 22, 44, 88, 176, 125, 250, 233, 207, 131, 27, 54, 108, 216, 173, 71, 142]
def LOG : List Nat := [0, 0, 1, 25, 2, 50, 26, 198, 3, 223, 51, 238, 27, 104, 199, 75, 4, 100, 224, 14, 52, 141, 239, 129, 28, 193, 105, 248, 200, 8, 76, 113, 5, 138, 101, 47, 225, 36, 15, 33, 53, 147, 142, 218, 240, 18, 130, 69, 29, 181, 194, 125, 106, 39, 249, 185, 201, 154, 9, 120, 77, 228, 114, 166, 6, 191, 139, 98, 102, 221, 48, 253, 226, 152, 37, 179, 16, 145, 34, 136, 54, 208, 148, 206, 143, 150, 219, 189, 241, 210, 19, 92, 131, 56, 70, 64, 30, 66, 182, 163, 195, 72, 126, 110, 107, 58, 40, 84, 250, 133, 186, 61, 202, 94, 155, 159, 10, 21, 121, 43, 78, 212, 229, 172, 115, 243, 167, 87, 7, 112, 192, 247, 140, 128, 99, 13, 103, 74, 222, 237, 49, 197, 254, 24, 227, 165, 153, 119, 38, 184, 180, 124, 17, 68, 146, 217, 35, 32, 137, 46, 55, 63, 209, 91, 149, 188, 207, 205, 144, 135, 151, 178, 220, 252, 190, 97, 242, 86, 211, 171, 20, 42, 93, 158, 132, 60, 57, 83, 71, 109, 65, 162, 31, 45, 67, 216, 183, 123, 164, 118, 196, 23, 73, 236, 127, 12, 111, 246, 108, 161, 59, 82, 41, 157, 85, 170, 251, 96, 134, 177, 187, 204, 62, 90, 203, 89, 95, 176, 156, 169, 160, 81, 11, 245, 22, 235, 122, 117, 44, 215, 79, 174, 213, 233, 230, 231, 173, 232, 116, 214, 244, 234, 168, 80, 88, 175]
def E (i : Nat) : UInt8 := EXP.getD i 0
def L (a : UInt8) : Nat := LOG.getD a.toNat 0
set_option maxRecDepth 100000 in
theorem E_zero : E 0 = 1 := by decide +kernel
set_option maxRecDepth 100000 in
theorem E_next : ∀ i : Fin 255, E ((i.1 + 1) % 255) = xt (E i.1) ∧ E (i.1 + 255) = E i.1 ∧ E i.1 ≠ 0 ∧ L (E i.1) = i.1 := by decide +kernel
set_option maxRecDepth 100000 in
theorem L_all : ∀ n : Fin 256, L (UInt8.ofNat n.1) < 255 ∧ (n.1 = 0 ∨ E (L (UInt8.ofNat n.1)) = UInt8.ofNat n.1) := by decide +kernel
theorem L_lt (a : UInt8) : L a < 255 := fin_all (p := fun a => L a < 255) (fun n => (L_all n).1) a
theorem E_L {a : UInt8} (h : a ≠ 0) : E (L a) = a := by
  have := (L_all ⟨a.toNat, a.toNat_lt⟩).2
  simp at this
  rcases this with h1 | h1
  · exact absurd (UInt8.toNat_inj.1 (by simpa using h1)) h
  · exact h1
theorem E_mod {i : Nat} (h : i < 510) : E i = E (i % 255) := by
  rcases Nat.lt_or_ge i 255 with h1 | h1
  · rw [Nat.mod_eq_of_lt h1]
  · have e : i % 255 = i - 255 := by omega
    have h2 : E (i - 255 + 255) = E (i - 255) := (E_next ⟨i - 255, by omega⟩).2.1
    rw [e, ← h2, show i - 255 + 255 = i from by omega]
/-- the powers of 2, of any exponent -/
def G (i : Nat) : UInt8 := E (i % 255)
theorem G_zero : G 0 = 1 := E_zero
theorem G_next (i : Nat) : G (i + 1) = xt (G i) := by
  have h2 : E ((i % 255 + 1) % 255) = xt (E (i % 255)) := (E_next ⟨i % 255, Nat.mod_lt _ (by decide)⟩).1
  rw [G, G, ← h2, show (i % 255 + 1) % 255 = (i + 1) % 255 from by omega]
theorem G_ne (i : Nat) : G i ≠ 0 := (E_next ⟨i % 255, Nat.mod_lt _ (by decide)⟩).2.2.1
theorem L_G (i : Nat) : L (G i) = i % 255 := (E_next ⟨i % 255, Nat.mod_lt _ (by decide)⟩).2.2.2
theorem G_L {a : UInt8} (h : a ≠ 0) : G (L a) = a := by rw [G, Nat.mod_eq_of_lt (L_lt a), E_L h]
theorem G_mod (i : Nat) : G (i % 255) = G i := by rw [G, Nat.mod_mod]; rfl
theorem xtN_G (k i : Nat) : xtN k (G i) = G (i + k) := by
  induction k with
  | zero => rfl
  | succ k ih => rw [xtN, ih, ← Nat.add_assoc, G_next]
theorem xtN_zero (k : Nat) : xtN k 0 = 0 := by
  induction k with
  | zero => rfl
  | succ k ih => rw [xtN, ih]; rfl
/-- the product, as the program reckons it -/
def mul (a b : UInt8) : UInt8 := if a = 0 ∨ b = 0 then 0 else E (L a + L b)
theorem mul_G {a b : UInt8} (ha : a ≠ 0) (hb : b ≠ 0) : mul a b = G (L a + L b) := by
  rw [mul, if_neg (by simp [ha, hb]), E_mod (by have := L_lt a; have := L_lt b; omega)]
  rfl
theorem mul_xt {a : UInt8} (ha : a ≠ 0) (b : UInt8) : mul a b = xtN (L a) b := by
  by_cases hb : b = 0
  · rw [mul, if_pos (.inr hb), hb, xtN_zero]
  · rw [mul_G ha hb, ← G_L hb, xtN_G, L_G, Nat.mod_eq_of_lt (L_lt b), Nat.add_comm]
theorem mul_zero_l (b : UInt8) : mul 0 b = 0 := by rw [mul, if_pos (.inl rfl)]
theorem mul_zero_r (b : UInt8) : mul b 0 = 0 := by rw [mul, if_pos (.inr rfl)]
theorem mul_comm (a b : UInt8) : mul a b = mul b a := by
  rw [mul, mul, Nat.add_comm]
  by_cases h : a = 0 ∨ b = 0
  · rw [if_pos h, if_pos h.symm]
  · rw [if_neg h, if_neg (fun k => h k.symm)]
theorem mul_ne {a b : UInt8} (ha : a ≠ 0) (hb : b ≠ 0) : mul a b ≠ 0 := by rw [mul_G ha hb]; exact G_ne _
theorem L_mul {a b : UInt8} (ha : a ≠ 0) (hb : b ≠ 0) : L (mul a b) = (L a + L b) % 255 := by rw [mul_G ha hb, L_G]
theorem mul_assoc (a b c : UInt8) : mul a (mul b c) = mul (mul a b) c := by
  by_cases ha : a = 0
  · subst ha; rw [mul_zero_l, mul_zero_l, mul_zero_l]
  by_cases hb : b = 0
  · subst hb; rw [mul_zero_l, mul_zero_r, mul_zero_l]
  by_cases hc : c = 0
  · subst hc; rw [mul_zero_r, mul_zero_r, mul_zero_r]
  rw [mul_G ha (mul_ne hb hc), mul_G (mul_ne ha hb) hc, L_mul hb hc, L_mul ha hb, ← G_mod, ← G_mod ((L a + L b) % 255 + L c), show (L a + (L b + L c) % 255) % 255 = ((L a + L b) % 255 + L c) % 255 from by omega]
theorem mul_xor (a b c : UInt8) : mul a (b ^^^ c) = mul a b ^^^ mul a c := by
  by_cases ha : a = 0
  · subst ha; rw [mul_zero_l, mul_zero_l, mul_zero_l]; rfl
  · rw [mul_xt ha, mul_xt ha, mul_xt ha, xtN_xor]
theorem mul_one (a : UInt8) : mul a 1 = a := by
  by_cases ha : a = 0
  · subst ha; rw [mul_zero_l]
  · rw [mul_G ha (by decide), ← G_zero, L_G, show 0 % 255 = 0 from rfl, Nat.add_zero, G_L ha]
/-- the inverse, as the program reckons it -/
def inv (a : UInt8) : UInt8 := if a = 0 then 0 else E (255 - L a)
theorem mul_inv {a : UInt8} (ha : a ≠ 0) : mul a (inv a) = 1 := by
  have hl := L_lt a
  have e : inv a = G (255 - L a) := by rw [inv, if_neg ha, E_mod (by omega)]; rfl
  rw [e, mul_G ha (G_ne _), L_G, ← G_mod, ← G_zero, ← G_mod 0, show (L a + (255 - L a) % 255) % 255 = 0 % 255 from by omega]
end Go.HL
namespace Go.HL
def xNext (x : Nat) : Nat := if 255 < 2 * x then (2 * x) ^^^ 285 else 2 * x
def X : Nat → Nat
  | 0 => 1
  | n + 1 => xNext (X n)
def expN : Nat → List UInt8
  | 0 => List.replicate 510 0
  | n + 1 => ((expN n).set n (UInt8.ofNat (X n))).set (n + 255) (UInt8.ofNat (X n))
def logN : Nat → List Nat
  | 0 => List.replicate 256 0
  | n + 1 => (logN n).set (X n) n
theorem X_lt : ∀ n : Fin 256, X n.1 < 256 := by decide +kernel
set_option maxRecDepth 100000 in
theorem exp_end : expN 255 = EXP := by decide +kernel
set_option maxRecDepth 100000 in
theorem log_end : logN 255 = LOG := by decide +kernel
end Go.HL
namespace Go.Proofs.YtggecdldnpildaaGreat
open Go.RowKit Go.HL
set_option maxRecDepth 100000

/-! the tables are worked out -/
abbrev lv (n : Nat) : Value := vi (n : Int)
def tabs (es : List UInt8) (ls : List Nat) : List Value := es.map v8 ++ ls.map lv
def cellsF (d s : Value) (es : List UInt8) (ls : List Nat) : List Value := d :: s :: .int .u32 0 :: tabs es ls
theorem set_e (d s : Value) {es : List UInt8} {ls : List Nat} {j : Nat} (x : UInt8) (h : j < es.length) : (cellsF d s es ls).set (0 + 3 + j) (v8 x) = cellsF d s (es.set j x) ls := by
  rw [show 0 + 3 + j = j + 1 + 1 + 1 from by omega]
  simp only [cellsF, tabs, List.set_cons_succ]
  rw [List.set_append_left _ _ (by rw [List.length_map]; exact h), List.map_set]
theorem set_l (d s : Value) {es : List UInt8} {ls : List Nat} {j : Nat} (n : Nat) (h : es.length = 510) : (cellsF d s es ls).set (0 + 513 + j) (lv n) = cellsF d s es (ls.set j n) := by
  rw [show 0 + 513 + j = (510 + j) + 1 + 1 + 1 from by omega]
  simp only [cellsF, tabs, List.set_cons_succ]
  rw [List.set_append_right _ _ (by rw [List.length_map]; omega), List.map_set, List.length_map, h, show 510 + j - 510 = j from by omega]
theorem at_e (d s : Value) {es : List UInt8} {ls : List Nat} {j : Nat} {x : UInt8} (h : es[j]? = some x) : (cellsF d s es ls)[0 + 3 + j]? = some (v8 x) := by
  rw [show 0 + 3 + j = j + 1 + 1 + 1 from by omega]
  simp only [cellsF, tabs, List.getElem?_cons_succ]
  rw [List.getElem?_append_left (by rw [List.length_map]; exact (List.getElem?_eq_some_iff.1 h).1), List.getElem?_map, h]
  rfl
theorem at_l (d s : Value) {es : List UInt8} {ls : List Nat} {j : Nat} {x : Nat} (h : es.length = 510) (hx : ls[j]? = some x) : (cellsF d s es ls)[0 + 513 + j]? = some (lv x) := by
  rw [show 0 + 513 + j = (510 + j) + 1 + 1 + 1 from by omega]
  simp only [cellsF, tabs, List.getElem?_cons_succ]
  rw [List.getElem?_append_right (by rw [List.length_map]; omega), List.length_map, h, show 510 + j - 510 = j from by omega, List.getElem?_map, hx]
  rfl
theorem cellsF_len (d s : Value) {es : List UInt8} {ls : List Nat} (h : es.length = 510) (h2 : ls.length = 256) : (cellsF d s es ls).length = 769 := by
  simp [cellsF, tabs, h, h2]
theorem expN_len (n : Nat) : (expN n).length = 510 := by
  induction n with
  | zero => rw [expN, List.length_replicate]
  | succ n ih => rw [expN, List.length_set, List.length_set, ih]
theorem logN_len (n : Nat) : (logN n).length = 256 := by
  induction n with
  | zero => rw [logN, List.length_replicate]
  | succ n ih => rw [logN, List.length_set, ih]
theorem b8X {n : Nat} (h : n < 256) : B8 (n : Int) = UInt8.ofNat n := by
  rw [B8, show ((n : Int) % 256).toNat = n from by omega]
set_option maxHeartbeats 2000000 in
theorem fill_calls {w : World} {g gv : Nat} (hb : Blk w g 146 (cellsF (.int .u32 0) (.int .i32 1) (expN 0) (logN 0))) (hv : Blk w gv 131 [.pointer (some ⟨g, 0, none⟩)]) (hne : g ≠ gv) :
    Calls Tryz.prog 113 [.pointer (some ⟨gv, 0, none⟩)].toArray w (Ret fun v w' => v = .tuple #[] ∧ Blk w' g 146 (cellsF (.int .u32 0) (.int .i32 1) (expN 255) (logN 255)) ∧ Chg (fun x => x = g) w w') := by
  have hw : Chg (fun x => x = g) w w := Chg.refl _ w
  have lg := hb.lt
  refine Calls.of_WC Tryz.func113 rfl Tryz.ntmps113 (by simp) ?_
  refine WC.seq (WC.region (WL.assign rfl rfl (WL.nil (WX.then_normal (WC.seq (WC.region (WL.move rfl rfl (?_))))))))
  refine WL.nil (WX.then_normal (WC.block (?_)))
  refine WC.loop (σ := Nat) (fun n => [(0, .pointer (some ⟨gv, 0, none⟩)), (1, vi (X n)), (3, vi n)])
    (fun n w' => n ≤ 255 ∧ Blk w' g 146 (cellsF (.int .u32 0) (.int .i32 1) (expN n) (logN n)) ∧ Blk w' gv 131 [.pointer (some ⟨g, 0, none⟩)] ∧ Chg (fun x => x = g) w w') (fun n => 255 - n) 0 ⟨rfl, rfl, rfl, trivial⟩ ⟨Nat.zero_le _, hb, hv, hw⟩ ?_
  clear hb hv hw
  rintro n w2 ⟨hn, hb, hv, hw⟩
  have hX : X n < 256 := X_lt ⟨n, by omega⟩
  have hel := expN_len n
  have hll := logN_len n
  obtain ⟨x, hx⟩ : ∃ x, x = X n := ⟨_, rfl⟩
  obtain ⟨es, hes⟩ : ∃ es, es = expN n := ⟨_, rfl⟩
  obtain ⟨ls, hls⟩ : ∃ ls, ls = logN n := ⟨_, rfl⟩
  rw [← hx] at hX ⊢
  rw [← hes] at hel hb
  rw [← hls] at hll hb
  refine WC.seq (WC.region (?_))
  refine WL.lss? rfl rfl rfl (fun h4 => ?_) (fun h4 => ?_)
  ·
    refine WL.nil (WX.then_normal (WC.seq (WC.cond_true rfl (WC.skip (WX.then_normal (WC.seq (WC.block (?_))))))))
    refine WC.seq (WC.region (WL.move rfl rfl (WL.assign rfl rfl (WL.nil (WX.then_normal (WC.seq (?_)))))))
    refine WC.draw (fun x => x = g) [0, 1, 2, 3, 4, 5, 6, 7, 8, 9, 10, 11, 13, 14, 15] [12, 16] mixed rfl rfl (fun wd_1 kd_1 zd_1 => ?_)
    have zs_kd_1 := kd_1.size
    replace hb := hb.pure kd_1
    replace hv := hv.pure kd_1
    replace hw := hw.pure kd_1
    apply DQ.step (E' := [(0, _)])
    case ho => rfl
    case hs => exact ⟨rfl, trivial⟩
    case hk => rfl
    case h1 =>
      intro wq_3 kq_3
      have zs_kq_3 := kq_3.size
      replace hv := hv.chg kq_3 (by intro h1; have h2 : _ = _ := h1; exfalso; omega)
      refine WL.loadB Tryz.isAgg131 hv rfl rfl rfl (?_)
      refine WL.nil ?_
      exact WX.one ⟨rfl, by exact Chg.refl _ _⟩
    apply DQ.step (E' := [(2, _)])
    case ho => rfl
    case hs => exact ⟨rfl, trivial⟩
    case hk => rfl
    case h1 =>
      intro wq_4 kq_4
      refine WL.move rfl rfl (?_)
      refine WL.nil ?_
      exact WX.one ⟨rfl, by exact Chg.refl _ _⟩
    apply DQ.step (E' := [(0, _)])
    case ho => rfl
    case hs => exact ⟨rfl, trivial⟩
    case hk => rfl
    case h1 =>
      intro wq_5 kq_5
      have zs_kq_5 := kq_5.size
      replace hv := hv.chg kq_5 (by intro h1; have h2 : _ = _ := h1; exfalso; omega)
      refine WL.loadB Tryz.isAgg131 hv rfl rfl rfl (?_)
      refine WL.nil ?_
      exact WX.one ⟨rfl, by exact Chg.refl _ _⟩
    apply DQ.step (E' := [(2, _)])
    case ho => rfl
    case hs => exact ⟨rfl, trivial⟩
    case hk => rfl
    case h1 =>
      intro wq_6 kq_6
      refine WL.move rfl rfl (?_)
      refine WL.nil ?_
      exact WX.one ⟨rfl, by exact Chg.refl _ _⟩
    apply DQ.step (E' := [(9, _)])
    case ho => rfl
    case hs => exact ⟨rfl, trivial⟩
    case hk => rfl
    case h1 =>
      intro wq_7 kq_7
      refine WL.add64 rfl rfl (by omega) rfl (?_)
      refine WL.nil ?_
      exact WX.one ⟨rfl, by exact Chg.refl _ _⟩
    apply DQ.step (E' := [(1, _)])
    case ho => rfl
    case hs => exact ⟨rfl, trivial⟩
    case hk => rfl
    case h1 =>
      intro wq_8 kq_8
      refine WL.move rfl rfl (?_)
      refine WL.nil ?_
      exact WX.one ⟨rfl, by exact Chg.refl _ _⟩
    apply DQ.step (E' := [(11, _)])
    case ho => rfl
    case hs => exact ⟨rfl, trivial⟩
    case hk => rfl
    case h1 =>
      intro wq_9 kq_9
      have zs_kq_9 := kq_9.size
      replace hv := hv.chg kq_9 (by intro h1; have h2 : _ = _ := h1; exfalso; omega)
      refine WL.c_i64_u8 Tryz.underlying3 Tryz.underlying5 rfl rfl ?_
      rw [b8X hX]
      refine WL.nil ?_
      exact WX.one ⟨rfl, by exact Chg.refl _ _⟩
    apply DQ.step (E' := [(1, _)])
    case ho => rfl
    case hs => exact ⟨rfl, trivial⟩
    case hk => rfl
    case h1 =>
      intro wq_10 kq_10
      refine WL.move rfl rfl (?_)
      refine WL.nil ?_
      exact WX.one ⟨rfl, by exact Chg.refl _ _⟩
    apply DQ.step (E' := [(13, _)])
    case ho => rfl
    case hs => exact ⟨rfl, trivial⟩
    case hk => rfl
    case h1 =>
      intro wq_11 kq_11
      have zs_kq_11 := kq_11.size
      replace hv := hv.chg kq_11 (by intro h1; have h2 : _ = _ := h1; exfalso; omega)
      refine WL.c_i64_u8 Tryz.underlying3 Tryz.underlying5 rfl rfl ?_
      rw [b8X hX]
      refine WL.nil ?_
      exact WX.one ⟨rfl, by exact Chg.refl _ _⟩
    apply DQ.step (E' := [(6, _)])
    case ho => rfl
    case hs => exact ⟨rfl, trivial⟩
    case hk => rfl
    case h1 =>
      intro wq_12 kq_12
      refine WL.nilCheck rfl rfl (?_)
      refine WL.nil ?_
      exact WX.one ⟨rfl, by exact Chg.refl _ _⟩
    apply DQ.step (E' := [(15, _)])
    case ho => rfl
    case hs => exact ⟨rfl, trivial⟩
    case hk => rfl
    case h1 =>
      intro wq_13 kq_13
      refine WL.fieldAddr (fld_146_1) rfl rfl (?_)
      refine WL.nil ?_
      exact WX.one ⟨rfl, by exact Chg.refl _ _⟩
    apply DQ.step (E' := [(16, _), (7, _)])
    case ho => rfl
    case hs => exact ⟨rfl, rfl, trivial⟩
    case hk => rfl
    case h1 =>
      intro wq_14 kq_14
      have zs_kq_14 := kq_14.size
      replace hv := hv.chg kq_14 (by intro h1; have h2 : _ = _ := h1; exfalso; omega)
      refine WL.indexArrO n Tryz.underlying143 Tryz.sizeOf5 rfl rfl ⟨rfl, by omega⟩ rfl ?_
      refine WL.nil ?_
      exact WX.one ⟨rfl, by exact Chg.refl _ _⟩
    apply DQ.step (E' := [(8, _)])
    case ho => rfl
    case hs => exact ⟨rfl, trivial⟩
    case hk => rfl
    case h1 =>
      intro wq_15 kq_15
      refine WL.nilCheck rfl rfl (?_)
      refine WL.nil ?_
      exact WX.one ⟨rfl, by exact Chg.refl _ _⟩
    apply DQ.step (E' := [(18, _)])
    case ho => rfl
    case hs => exact ⟨rfl, trivial⟩
    case hk => rfl
    case h1 =>
      intro wq_16 kq_16
      refine WL.fieldAddr (fld_146_1) rfl rfl (?_)
      refine WL.nil ?_
      exact WX.one ⟨rfl, by exact Chg.refl _ _⟩
    apply DQ.step (E' := [(19, _), (10, _)])
    case ho => rfl
    case hs => exact ⟨rfl, rfl, trivial⟩
    case hk => rfl
    case h1 =>
      intro wq_17 kq_17
      have zs_kq_17 := kq_17.size
      replace hv := hv.chg kq_17 (by intro h1; have h2 : _ = _ := h1; exfalso; omega)
      refine WL.indexArrO (n + 255) Tryz.underlying143 Tryz.sizeOf5 rfl rfl ⟨by omega, by omega⟩ rfl ?_
      refine WL.nil ?_
      exact WX.one ⟨rfl, by exact Chg.refl _ _⟩
    refine DQ.done (fun hd_2 => ?_)
    refine DL.step [(17, _), (12, _)] rfl ⟨rfl, rfl, trivial⟩ rfl (fun wq_18 kq_18 => ?_)
    have zs_kq_18 := kq_18.size
    replace hb := hb.pure kq_18
    replace hv := hv.pure kq_18
    replace hw := hw.pure kq_18
    replace hd_2 := hd_2.pure kq_18
    refine WL.store Tryz.sizeOf5 hb rfl rfl rfl (by rw [List.getElem?_eq_getElem (by rw [cellsF_len _ _ hel hll]; omega)]; rfl) ?_
    intro w3 hs3 hn3 k3
    rw [set_e _ _ _ (by omega)] at hn3
    have zs_k3 := k3.size
    replace hv := hv.chg k3 (by intro h1; have h2 : _ = _ := h1; exfalso; omega)
    replace hw := hw.chg k3 (by intro x h1 h2; exact h2)
    replace hd_2 := hd_2.chg k3 (by intro x h1 h2; exact h2)
    replace hb := hn3
    have hel3 : (es.set n (UInt8.ofNat x)).length = 510 := by rw [List.length_set]; exact hel
    refine WL.nil ?_
    refine WX.one0 (v := undef) ⟨hd_2, ?_⟩
    refine DL.step [(20, _), (14, _)] rfl ⟨rfl, rfl, trivial⟩ rfl (fun wq_19 kq_19 => ?_)
    have zs_kq_19 := kq_19.size
    replace hb := hb.pure kq_19
    replace hv := hv.pure kq_19
    replace hw := hw.pure kq_19
    replace hd_2 := hd_2.pure kq_19
    refine WL.store Tryz.sizeOf5 hb rfl rfl rfl (by rw [List.getElem?_eq_getElem (by rw [cellsF_len _ _ hel3 hll]; omega)]; rfl) ?_
    intro w4 hs4 hn4 k4
    rw [set_e _ _ _ (by omega)] at hn4
    have zs_k4 := k4.size
    replace hv := hv.chg k4 (by intro h1; have h2 : _ = _ := h1; exfalso; omega)
    replace hw := hw.chg k4 (by intro x h1 h2; exact h2)
    replace hd_2 := hd_2.chg k4 (by intro x h1 h2; exact h2)
    replace hb := hn4
    have hel4 : ((es.set n (UInt8.ofNat x)).set (n + 255) (UInt8.ofNat x)).length = 510 := by rw [List.length_set]; exact hel3
    refine WL.nil ?_
    refine WX.one0 (v := undef) ⟨hd_2, ?_⟩
    refine DL.done (fun we_20 ke_20 => ?_)
    have zs_ke_20 := ke_20.size
    replace hb := hb.pure ke_20
    replace hv := hv.pure ke_20
    replace hw := hw.pure ke_20
    replace hd_2 := hd_2.pure ke_20
    refine WX.then_normal (WC.seq (WC.region (WL.loadB Tryz.isAgg131 hv rfl rfl rfl (WL.move rfl rfl (WL.move rfl rfl (WL.nilCheck rfl rfl (WL.fieldAddr (fld_146_2) rfl rfl (?_))))))))
    refine WL.indexArrO x Tryz.underlying144 Tryz.sizeOf3 rfl rfl ⟨rfl, by omega⟩ rfl ?_
    refine WL.store Tryz.sizeOf3 hb rfl rfl rfl (by rw [List.getElem?_eq_getElem (by rw [cellsF_len _ _ hel4 hll]; omega)]; rfl) ?_
    intro w5 hs5 hn5 k5
    rw [set_l _ _ _ hel4] at hn5
    have zs_k5 := k5.size
    replace hv := hv.chg k5 (by intro h1; have h2 : _ = _ := h1; exfalso; omega)
    replace hw := hw.chg k5 (by intro x h1 h2; exact h2)
    replace hb := hn5
    refine WL.nil (WX.then_normal (WC.seq (WC.region (WL.move rfl rfl (?_)))))
    refine WL.num rfl rfl (n_shli _ _ x 1 (by decide) (by omega) _) rfl ?_
    refine WL.assign rfl rfl (WL.nil (WX.then_normal (WC.seq (WC.region (WL.move rfl rfl (?_))))))
    refine WL.gtr? rfl rfl rfl (fun h30 => ?_) (fun h30 => ?_)
    ·
      refine WL.nil (WX.then_normal (WC.cond_true rfl (WC.region (WL.move rfl rfl (?_)))))
      refine WL.num rfl rfl (n_xori _ _ (x * 2 ^ 1) 285 (by omega) (by decide)) rfl ?_
      refine WL.assign rfl rfl (WL.nil (WX.block_normal (WX.then_normal (WC.region (WL.add64 rfl rfl (by omega) rfl (WL.move rfl rfl (WL.nil (?_))))))))
      have e1 : expN (n + 1) = (es.set n (UInt8.ofNat x)).set (n + 255) (UInt8.ofNat x) := by rw [expN, ← hes, ← hx]
      have e2 : logN (n + 1) = ls.set x n := by rw [logN, ← hls, ← hx]
      have e3 : X (n + 1) = (x * 2 ^ 1) ^^^ 285 := by rw [X, ← hx, xNext, if_pos (by omega), Nat.mul_comm]
      refine WX.loop_next (n + 1) ⟨rfl, ?_, rfl, trivial⟩ ⟨by omega, ?_, hv, hw⟩ (by show _ - _ < _ - _; omega)
      ·
        rw [e3]; rfl
      ·
        rw [e1, e2]; exact hb
    ·
      refine WL.nil (WX.then_normal (WC.cond_false rfl (WC.skip (WX.block_normal (WX.then_normal (WC.region (WL.add64 rfl rfl (by omega) rfl (?_))))))))
      refine WL.move rfl rfl (WL.nil (?_))
      have e1 : expN (n + 1) = (es.set n (UInt8.ofNat x)).set (n + 255) (UInt8.ofNat x) := by rw [expN, ← hes, ← hx]
      have e2 : logN (n + 1) = ls.set x n := by rw [logN, ← hls, ← hx]
      have e3 : X (n + 1) = x * 2 ^ 1 := by rw [X, ← hx, xNext, if_neg (by omega), Nat.mul_comm]
      refine WX.loop_next (n + 1) ⟨rfl, ?_, rfl, trivial⟩ ⟨by omega, ?_, hv, hw⟩ (by show _ - _ < _ - _; omega)
      ·
        rw [e3]; rfl
      ·
        rw [e1, e2]; exact hb
  ·
    refine WL.nil (WX.then_normal (WC.seq (WC.cond_false rfl (WC.exit (WX.then_exit (WX.then_exit (WX.block_here (?_))))))))
    refine WX.ret0 (.inr rfl) Tryz.results113 ?_
    have h255 : n = 255 := by omega
    refine ⟨_, rfl, rfl, ?_, hw⟩
    rw [← h255, ← hes, ← hls]
    exact hb
end Go.Proofs.YtggecdldnpildaaGreat
namespace Go.Proofs.YtggecdldnpildaaGreat
open Go.RowKit Go.HL
set_option maxRecDepth 100000

/-- a field that was not asked yet -/
def FZ : List Value := cellsF (.int .u32 0) (.int .i32 0) (expN 0) (logN 0)
/-- a field whose tables are there -/
def FR : List Value := cellsF (.int .u32 1) (.int .i32 0) EXP LOG
theorem Blk.drew {w : World} {b : Nat} {e : TypeId} {cs : List Value} (h : Blk w b e cs) : Blk w.drew b e cs := h
set_option maxRecDepth 100000 in
set_option maxHeartbeats 1600000 in
theorem slow_calls {w : World} {g gv : Nat} (hb : Blk w g 146 FZ) (hv : Blk w gv 131 [.pointer (some ⟨g, 0, none⟩)]) (hne : g ≠ gv) :
    Calls Tryz.prog 115 #[.pointer (some ⟨g, 0, none⟩), .func (.func 113) #[] #[.pointer (some ⟨gv, 0, none⟩)]] w fun e w' => e = .returned (.tuple #[]) ∧ Blk w' g 146 FR ∧ Chg (fun x => x = g) w w' := by
  have h0 : w.cell? ⟨g, 0, none⟩ = some (.int .u32 0) := hb.cell rfl
  have h1 : w.cell? ⟨g, 0 + 1, none⟩ = some (.int .i32 0) := hb.cell rfl
  have f1 : w.frozen? ⟨g, 0 + 1, none⟩ = false := hb.free _
  have hb1 : Blk (w.setCell ⟨g, 0 + 1, none⟩ (.int .i32 1)) g 146 (cellsF (.int .u32 0) (.int .i32 1) (expN 0) (logN 0)) := hb.set (0 + 1) (.int .i32 1)
  have c1 : Chg (fun x => x = g) w (w.setCell ⟨g, 0 + 1, none⟩ (.int .i32 1)) := Chg.setCell w ⟨g, 0 + 1, none⟩ _
  have hv1 := Blk.chg hv c1 (fun h => hne h.symm)
  have hl := run_call_load (P := Tryz.prog) Tryz.func116 (by kernel_rfl) (by kernel_rfl) (by kernel_rfl) .u32 (by kernel_rfl) (w := w.setCell ⟨g, 0 + 1, none⟩ (.int .i32 1)) (a := ⟨g, 0, none⟩) (x := 0) (hb1.cell rfl)
  have hnot : ∀ (x : Bool) (w : World), (Op.unary .not (.bool x)).run Tryz.prog w = .ok (.bool (!x)) w := fun _ _ => rfl
  go_enter_defers Tryz.func115, Tryz.ntmps115
  go_wp2_with (first | (go_at_call 117; refine (lock_free ⟨g, 0 + 1, none⟩ _ h1 f1).mono ?_; rintro e w' ⟨rfl, rfl⟩) | (go_at_call 114; go_in) | (go_at_call 113; refine (fill_calls hb1 hv1 hne).mono ?_; rintro e w2 ⟨v, rfl, rfl, hb2, c2⟩))
  have d1 : w2.cell? ⟨g, 0, none⟩ = some (.int .u32 0) := hb2.cell rfl
  have d2 : w2.frozen? ⟨g, 0, none⟩ = false := hb2.free _
  have hb3 : Blk (w2.drew.setCell ⟨g, 0, none⟩ (.int .u32 1)) g 146 (cellsF (.int .u32 1) (.int .i32 1) (expN 255) (logN 255)) := (Blk.drew hb2).set 0 (.int .u32 1)
  have c3 : Chg (fun x => x = g) w2 (w2.drew.setCell ⟨g, 0, none⟩ (.int .u32 1)) := ((Chg.drew w2).mono (M' := fun x => x = g) (fun _ _ h => h.elim)).trans (Chg.setCell w2.drew ⟨g, 0, none⟩ _) (fun _ _ h => h)
  have d3 : (w2.drew.setCell ⟨g, 0, none⟩ (.int .u32 1)).cell? ⟨g, 1, none⟩ = some (.int .i32 1) := hb3.cell rfl
  have d4 : (w2.drew.setCell ⟨g, 0, none⟩ (.int .u32 1)).frozen? ⟨g, 1, none⟩ = false := hb3.free _
  have hb4 : Blk ((w2.drew.setCell ⟨g, 0, none⟩ (.int .u32 1)).setCell ⟨g, 1, none⟩ (.int .i32 0)) g 146 (cellsF (.int .u32 1) (.int .i32 0) (expN 255) (logN 255)) := hb3.set 1 (.int .i32 0)
  rw [exp_end, log_end] at hb4
  have c4 := (c1.trans c2 (fun _ _ h => h)).trans (c3.trans (Chg.setCell (w2.drew.setCell ⟨g, 0, none⟩ (.int .u32 1)) ⟨g, 1, none⟩ (.int .i32 0)) (fun _ _ h => h)) (fun _ _ h => h)
  refine leaves_cons (f := 119) (args := #[.pointer (some ⟨g, 0, none⟩), .bool true]) (by simp) (by simp [go_sem]) ?_
  refine (store_deferred ⟨g, 0, none⟩ (.int .u32 0) .returning _ d1 d2).mono ?_
  rintro e u' w'' ⟨rfl, rfl, rfl⟩
  refine leaves_cons (f := 118) (args := #[.pointer (some ⟨g, 1, none⟩)]) (by simp [settle]) (by simp [go_sem]) ?_
  refine (unlock_deferred ⟨g, 1, none⟩ _ _ d3 d4).mono ?_
  rintro e u' w'' ⟨rfl, rfl, rfl⟩
  have hend : Blk ((w2.drew.setCell ⟨g, 0, none⟩ (.int .u32 1)).setCell ⟨g, 1, none⟩ (.int .i32 0)) g 146 FR ∧ Chg (fun x => x = g) w ((w2.drew.setCell ⟨g, 0, none⟩ (.int .u32 1)).setCell ⟨g, 1, none⟩ (.int .i32 0)) := ⟨hb4, c4⟩
  refine ⟨.tuple #[], ?_, rfl, hend⟩
  simp [results, Tryz.results115]
/-- Do, for the first time -/
theorem do_first {w : World} {g gv : Nat} (hb : Blk w g 146 FZ) (hv : Blk w gv 131 [.pointer (some ⟨g, 0, none⟩)]) (hne : g ≠ gv) :
    Calls Tryz.prog 112 #[.pointer (some ⟨g, 0, none⟩), .func (.func 113) #[] #[.pointer (some ⟨gv, 0, none⟩)]] w fun e w' => e = .returned (.tuple #[]) ∧ Blk w' g 146 FR ∧ Chg (fun x => x = g) w w' := by
  have h0 : w.cell? ⟨g, 0, none⟩ = some (.int .u32 0) := hb.cell rfl
  have hl := run_call_load (P := Tryz.prog) Tryz.func116 (by kernel_rfl) (by kernel_rfl) (by kernel_rfl) .u32 (by kernel_rfl) h0
  have hnot : ∀ (x : Bool) (w : World), (Op.unary .not (.bool x)).run Tryz.prog w = .ok (.bool (!x)) w := fun _ _ => rfl
  go_enter Tryz.func112, Tryz.ntmps112
  go_wp2_with (first | (go_at_call 115; refine (slow_calls hb hv hne).mono ?_; rintro e w' ⟨rfl, hend⟩) | (go_at_call 114; go_in))
  go_end0
  exact ⟨rfl, hend⟩
/-- Do, later -/
theorem do_done {w : World} {g : Nat} (hb : Blk w g 146 FR) (fv : Value) :
    Calls Tryz.prog 112 #[.pointer (some ⟨g, 0, none⟩), fv] w fun e w' => e = .returned (.tuple #[]) ∧ w' = w := by
  have h0 : w.cell? ⟨g, 0, none⟩ = some (.int .u32 1) := hb.cell rfl
  have hl := run_call_load (P := Tryz.prog) Tryz.func116 (by kernel_rfl) (by kernel_rfl) (by kernel_rfl) .u32 (by kernel_rfl) h0
  have hnot : ∀ (x : Bool) (w : World), (Op.unary .not (.bool x)).run Tryz.prog w = .ok (.bool (!x)) w := fun _ _ => rfl
  go_enter Tryz.func112, Tryz.ntmps112
  go_wp2
  go_end0
  exact ⟨rfl, rfl⟩
/-- a field, asked or not -/
def Fld (w : World) (g : Nat) : Prop := Blk w g 146 FZ ∨ Blk w g 146 FR
theorem Fld.lt {w : World} {g : Nat} (h : Fld w g) : g < w.heap.size := by rcases h with h | h <;> exact Blk.lt h
theorem Fld.chg {w w' : World} {g : Nat} {M : Nat → Prop} (h : Fld w g) (k : Chg M w w') (hm : ¬ M g) : Fld w' g := by
  rcases h with h | h
  · exact .inl (Blk.chg h k hm)
  · exact .inr (Blk.chg h k hm)
theorem Fld.pure {w w' : World} {g : Nat} (h : Fld w g) (k : Chg Nob w w') : Fld w' g := h.chg k (fun x => x)
/-- Do, the first time or later -/
theorem do_calls {w : World} {g gv : Nat} (hb : Fld w g) (hv : Blk w gv 131 [.pointer (some ⟨g, 0, none⟩)]) (hne : g ≠ gv) :
    Calls Tryz.prog 112 [.pointer (some ⟨g, 0, none⟩), .func (.func 113) #[] #[.pointer (some ⟨gv, 0, none⟩)]].toArray w (Ret fun v w' => v = .tuple #[] ∧ Blk w' g 146 FR ∧ Chg (fun x => x = g) w w') := by
  rcases hb with hb | hb
  · refine (do_first hb hv hne).mono ?_
    rintro e w' ⟨rfl, h1, h2⟩
    exact ⟨_, rfl, rfl, h1, h2⟩
  · refine (do_done hb _).mono ?_
    rintro e w' ⟨rfl, rfl⟩
    exact ⟨_, rfl, rfl, hb, Chg.refl _ _⟩
end Go.Proofs.YtggecdldnpildaaGreat
namespace Go.HL
open Go.RowKit
section
variable {P : Program} {ops : Array Oper} {Q : Exit → Act → World → Prop} {N : Nat} {E : Env} {w : World} {rest : List Oper} {d : Nat} {ty : TypeId} {pos : String} {af : Array Edge} {t tb : TypeId} {x y : Operand}
theorem WL.makeFunc {f : FuncId} {v : Value} (hx : ev E x = some v) (hd : Nat.blt d N = true) (h : WL P ops Q N rest ((d, .func (.func f) #[] #[v]) :: E) w) :
    WL P ops Q N (⟨some d, .makeFunc (.func f) #[] #[x], ty, pos, af, none⟩ :: rest) E w :=
  WL.run _ w (fun a ha => by simp [execOp, ev_eval ha hx, Instr.makeFunc]) hd h
theorem WL.pnil {ao : Option Addr} (ht : P.underlying t = some (.pointer (P.pointee t))) (hx : ev E x = some (.pointer ao)) (hy : ev E y = some (.pointer none)) (hd : Nat.blt d N = true) (h : WL P ops Q N rest ((d, .bool ao.isNone) :: E) w) :
    WL P ops Q N (⟨some d, .binOp .eql t x y tb, ty, pos, af, none⟩ :: rest) E w :=
  WL.run _ w (fun a ha => by simp [execOp, ev_eval ha hx, ev_eval ha hy, eqGuard, binOp, run_equal_pointer_nil (P := P) w t ao ht]) hd h
end
end Go.HL
namespace Go.Proofs.YtggecdldnpildaaGreat
open Go.RowKit Go.HL
set_option maxRecDepth 100000

theorem fz_info : (Tryz.prog.info? 146).map (fun i => (i.zero, i.size, i.bytes)) = some (some (.agg FZ.toArray), 769, 2576) := by kernel_rfl
theorem fz_zero (w : World) : (zeroValue 146).run Tryz.prog w = .ok (.agg FZ.toArray) w := by
  obtain ⟨i, h1, h2, _, _⟩ := info_parts fz_info
  simp only [zeroValue, typeInfo]
  simp [h1, h2]
theorem bldF (w : World) : (Instr.build 146 #[]).run Tryz.prog w = .ok (.agg FZ.toArray) w := by
  simp [Instr.build, fz_zero, run_underlying Tryz.underlying146, Instr.fill, Value.cells, Tryz.sizeOf142, Tryz.sizeOf143, Tryz.sizeOf144] <;> kernel_rfl
set_option maxRecDepth 100000 in
theorem tables_calls {w : World} {g : Nat} (hF : Fld w g) : Calls Tryz.prog 111 [.pointer (some ⟨g, 0, none⟩)].toArray w (Ret fun v w' => v = .tuple #[] ∧ Blk w' g 146 FR ∧ Chg (fun x => x = g) w w') := by
  have hw := Chg.refl (fun x => x = g) w
  have lg := hF.lt
  refine Calls.of_WC Tryz.func111 rfl Tryz.ntmps111 (by simp) ?_
  refine WC.seq (WC.region (?_))
  refine WL.box rfl rfl ?_
  intro g_1 w_1 hge_1 hlt_1 hb_1 k_1
  have zs_k_1 := k_1.size
  replace hF := hF.pure k_1
  replace hw := hw.pure k_1
  refine WL.nil (WX.then_normal (WC.region (WL.loadB Tryz.isAgg131 hb_1 rfl rfl rfl (WL.nilCheck rfl rfl (WL.fieldAddr (fld_146_0) rfl rfl (?_))))))
  refine WL.makeFunc rfl rfl ?_
  refine WL.call eg_112 rfl rfl (do_calls hF hb_1 (by omega)) ?_
  rintro v w2 ⟨rfl, hR, k⟩
  have zs_k := k.size
  replace hw := hw.chg k (by intro x h1 h2; exact h2)
  refine WL.nil (?_)
  refine WX.ret0 (.inr rfl) Tryz.results111 ?_
  exact ⟨_, rfl, rfl, hR, hw⟩
set_option maxRecDepth 100000 in
theorem ready_calls {w : World} {g : Nat} (hF : Fld w g) : Calls Tryz.prog 106 [.pointer (some ⟨g, 0, none⟩)].toArray w (Ret fun v w' => v = .pointer (some ⟨g, 0, none⟩) ∧ Blk w' g 146 FR ∧ Chg (fun x => x = g) w w') := by
  have hw := Chg.refl (fun x => x = g) w
  refine Calls.of_WC Tryz.func106 rfl Tryz.ntmps106 (by simp) ?_
  refine WC.seq (WC.region (WL.assign rfl rfl (WL.nil (WX.then_normal (WC.seq (WC.seq (WC.region (?_))))))))
  refine WL.move rfl rfl (?_)
  refine WL.pnil Tryz.underlying131 rfl rfl rfl ?_
  rw [show (some (⟨g, 0, none⟩ : Addr)).isNone = false from rfl]
  refine WL.nil (WX.then_normal (WC.cond_false rfl (WC.skip (WX.then_normal (WC.seq (WC.region (WL.move rfl rfl (?_))))))))
  refine WL.call eg_111 rfl rfl (tables_calls hF) ?_
  rintro v w2 ⟨rfl, hR, k⟩
  have zs_k := k.size
  replace hw := hw.chg k (by intro x h1 h2; exact h2)
  refine WL.nil (WX.then_normal (WC.seq (WC.region (WL.move rfl rfl (WL.assign rfl rfl (WL.nil (WX.then_normal (?_))))))))
  refine WC.ret (?_)
  refine WX.ret1 (.inl rfl) Tryz.results106 rfl ?_
  exact ⟨_, rfl, rfl, hR, hw⟩
set_option maxRecDepth 100000 in
theorem ready_nil (w : World) : Calls Tryz.prog 106 [.pointer none].toArray w (Ret fun v w' => (∃ g, v = .pointer (some ⟨g, 0, none⟩) ∧ Blk w' g 146 FR ∧ w.heap.size ≤ g) ∧ Chg Nob w w') := by
  have hw := Chg.refl Nob w
  refine Calls.of_WC Tryz.func106 rfl Tryz.ntmps106 (by simp) ?_
  refine WC.seq (WC.region (WL.assign rfl rfl (WL.nil (WX.then_normal (WC.seq (WC.seq (WC.region (?_))))))))
  refine WL.move rfl rfl (?_)
  refine WL.pnil Tryz.underlying131 rfl rfl rfl ?_
  rw [show (none : Option Addr).isNone = true from rfl]
  refine WL.nil (WX.then_normal (WC.cond_true rfl (WC.region (?_))))
  refine WL.bld rfl bldF rfl ?_
  refine WL.box rfl rfl ?_
  intro g_1 w_1 hge_1 hlt_1 hb_1 k_1
  have zs_k_1 := k_1.size
  replace hw := hw.pure k_1
  refine WL.assign rfl rfl (WL.nil (WX.then_normal (WC.seq (WC.region (WL.move rfl rfl (?_))))))
  have hF : Fld w_1 g_1 := .inl hb_1
  refine WL.call eg_111 rfl rfl (tables_calls hF) ?_
  rintro v w2 ⟨rfl, hR, k⟩
  have zs_k := k.size
  replace hw := hw.chg k (by intro x h1 h2; have h3 : _ = _ := h2; exfalso; omega)
  refine WL.nil (WX.then_normal (WC.seq (WC.region (WL.move rfl rfl (WL.assign rfl rfl (WL.nil (WX.then_normal (?_))))))))
  refine WC.ret (?_)
  refine WX.ret1 (.inl rfl) Tryz.results106 rfl ?_
  exact ⟨_, rfl, ⟨g_1, rfl, hR, hge_1⟩, hw⟩
theorem exp_len : EXP.length = 510 := by rw [← exp_end, expN_len]
theorem log_len : LOG.length = 256 := by rw [← log_end, logN_len]
theorem exp_at {i : Nat} (h : i < 510) : EXP[i]? = some (Go.HL.E i) := by
  rw [Go.HL.E, List.getD_eq_getElem?_getD, List.getElem?_eq_getElem (by rw [exp_len]; exact h)]
  rfl
theorem log_at (a : UInt8) : LOG[a.toNat]? = some (L a) := by
  rw [L, List.getD_eq_getElem?_getD, List.getElem?_eq_getElem (by rw [log_len]; exact a.toNat_lt)]
  rfl
theorem FR_e {i : Nat} (h : i < 510) : FR[0 + 3 + i]? = some (v8 (Go.HL.E i)) := at_e _ _ (exp_at h)
theorem FR_l (a : UInt8) : FR[0 + 513 + a.toNat]? = some (lv (L a)) := at_l _ _ exp_len (log_at a)
theorem u8_zero {a : UInt8} (h : (a.toNat : Int) = 0) : a = 0 := UInt8.toNat_inj.1 (by have h0 : (0 : UInt8).toNat = 0 := rfl; omega)
theorem u8_ne {a : UInt8} (h : (a.toNat : Int) ≠ 0) : a ≠ 0 := fun e => h (by rw [e]; rfl)
end Go.Proofs.YtggecdldnpildaaGreat
namespace Go.Proofs.YtggecdldnpildaaGreat
open Go.RowKit Go.HL
set_option maxRecDepth 100000

/-- powers, as the program reckons them -/
def powR (a : UInt8) (n : Int) : UInt8 × Int := if n < 0 then (0, 1) else if n = 0 then (1, 0) else if a = 0 then (0, 0) else (Go.HL.E ((L a * (n.toNat % 255)) % 255), 0)
theorem pow_calls {w : World} {g : Nat} (hF : Fld w g) (a : UInt8) (n : Int) : Calls Tryz.prog 104 [.pointer (some ⟨g, 0, none⟩), v8 a, vi n].toArray w (Ret fun v w' => v = .tuple #[v8 (powR a n).1, vi (powR a n).2] ∧ Fld w' g ∧ Chg (fun x => x = g) w w') := by
  have hw := Chg.refl (fun x => x = g) w
  have hla := L_lt a
  refine Calls.of_WC Tryz.func104 rfl Tryz.ntmps104 (by simp) ?_
  refine WC.seq (WC.region (WL.assign rfl rfl (WL.assign rfl rfl (WL.nil (WX.then_normal (WC.seq (WC.block (?_))))))))
  refine WC.seq (WC.region (WL.move rfl rfl (?_)))
  refine WL.lss? rfl rfl rfl (fun h10 => ?_) (fun h10 => ?_)
  ·
    refine WL.assign rfl rfl (WL.nil (WX.then_normal (WC.cond_true rfl (WC.seq (WC.region (WL.assign rfl rfl (WL.assign rfl rfl (?_))))))))
    refine WL.nil (WX.then_normal (WC.ret (WX.block_ret (WX.then_ret (?_)))))
    refine WX.ret2 (.inl rfl) Tryz.results104 rfl rfl ?_
    refine ⟨_, rfl, ?_, hF, hw⟩
    rw [powR, if_pos (by omega)]
    rfl
  ·
    refine WL.assign rfl rfl (WL.nil (WX.then_normal (WC.cond_false rfl (WC.seq (WC.region (WL.move rfl rfl (?_)))))))
    refine WL.eql? rfl rfl rfl (fun h13 => ?_) (fun h13 => ?_)
    ·
      refine WL.assign rfl rfl (WL.nil (WX.then_normal (WC.cond_true rfl (WC.seq (WC.region (WL.assign rfl rfl (WL.assign rfl rfl (?_))))))))
      refine WL.nil (WX.then_normal (WC.ret (WX.block_ret (WX.then_ret (?_)))))
      refine WX.ret2 (.inl rfl) Tryz.results104 rfl rfl ?_
      refine ⟨_, rfl, ?_, hF, hw⟩
      rw [powR, if_neg (by omega), if_pos (by omega)]
      rfl
    ·
      refine WL.assign rfl rfl (WL.nil (WX.then_normal (WC.cond_false rfl (WC.seq (WC.region (WL.move rfl rfl (?_)))))))
      refine WL.eql? rfl rfl rfl (fun h16 => ?_) (fun h16 => ?_)
      ·
        refine WL.assign rfl rfl (WL.nil (WX.then_normal (WC.cond_true rfl (WC.seq (WC.region (WL.assign rfl rfl (WL.assign rfl rfl (?_))))))))
        refine WL.nil (WX.then_normal (WC.ret (WX.block_ret (WX.then_ret (?_)))))
        refine WX.ret2 (.inl rfl) Tryz.results104 rfl rfl ?_
        have ha := u8_zero h16
        refine ⟨_, rfl, ?_, hF, hw⟩
        rw [powR, if_neg (by omega), if_neg (by omega), if_pos ha]
        rfl
      ·
        refine WL.assign rfl rfl (WL.nil (WX.then_normal (WC.cond_false rfl (WC.skip (WX.block_normal (WX.then_normal (WC.seq (?_))))))))
        refine WC.region (WL.move rfl rfl (?_))
        refine WL.call eg_106 rfl rfl (ready_calls hF) ?_
        rintro v w2 ⟨rfl, hR, k⟩
        have zs_k := k.size
        replace hw := hw.chg k (by intro x h1 h2; exact h2)
        obtain ⟨m, rfl⟩ : ∃ m : Nat, n = (m : Int) := ⟨n.toNat, by omega⟩
        have hm := Nat.mod_lt m (show 255 > 0 by decide)
        have hmul : L a * (m % 255) ≤ 64770 := by
          have := Nat.mul_le_mul (show L a ≤ 254 by omega) (show m % 255 ≤ 254 by omega)
          omega
        refine WL.assign rfl rfl (WL.nil (WX.then_normal (WC.seq (?_))))
        refine WC.draw (Nob) [0, 1, 2, 3, 4, 5, 6, 7, 8, 9, 10, 11, 12, 13, 14, 15, 16] [] mixed rfl rfl (fun wd_1 kd_1 zd_1 => ?_)
        have zs_kd_1 := kd_1.size
        replace hw := hw.pure kd_1
        replace hR := hR.pure kd_1
        apply DQ.step (E' := [(0, _)])
        case ho => rfl
        case hs => exact ⟨rfl, trivial⟩
        case hk => rfl
        case h1 =>
          intro wq_2 kq_2
          refine WL.move rfl rfl (?_)
          refine WL.nil ?_
          exact WX.one ⟨rfl, by exact Chg.refl _ _⟩
        apply DQ.step (E' := [(0, _)])
        case ho => rfl
        case hs => exact ⟨rfl, trivial⟩
        case hk => rfl
        case h1 =>
          intro wq_3 kq_3
          refine WL.move rfl rfl (?_)
          refine WL.nil ?_
          exact WX.one ⟨rfl, by exact Chg.refl _ _⟩
        apply DQ.step (E' := [(1, _)])
        case ho => rfl
        case hs => exact ⟨rfl, trivial⟩
        case hk => rfl
        case h1 =>
          intro wq_4 kq_4
          refine WL.move rfl rfl (?_)
          refine WL.nil ?_
          exact WX.one ⟨rfl, by exact Chg.refl _ _⟩
        apply DQ.step (E' := [(20, _)])
        case ho => rfl
        case hs => exact ⟨rfl, trivial⟩
        case hk => rfl
        case h1 =>
          intro wq_5 kq_5
          refine WL.nilCheck rfl rfl (?_)
          refine WL.nil ?_
          exact WX.one ⟨rfl, by exact Chg.refl _ _⟩
        apply DQ.step (E' := [(22, _)])
        case ho => rfl
        case hs => exact ⟨rfl, trivial⟩
        case hk => rfl
        case h1 =>
          intro wq_6 kq_6
          refine WL.fieldAddr (fld_146_2) rfl rfl (?_)
          refine WL.nil ?_
          exact WX.one ⟨rfl, by exact Chg.refl _ _⟩
        apply DQ.step (E' := [(23, _), (21, _)])
        case ho => rfl
        case hs => exact ⟨rfl, rfl, trivial⟩
        case hk => rfl
        case h1 =>
          intro wq_7 kq_7
          have zs_kq_7 := kq_7.size
          replace hw := hw.pure kq_7
          replace hR := hR.pure kq_7
          refine WL.indexArrO a.toNat Tryz.underlying144 Tryz.sizeOf3 rfl rfl ⟨rfl, a.toNat_lt⟩ rfl ?_
          refine WL.nil ?_
          exact WX.one ⟨rfl, by exact Chg.refl _ _⟩
        apply DQ.step (E' := [(24, _)])
        case ho => rfl
        case hs => exact ⟨rfl, trivial⟩
        case hk => rfl
        case h1 =>
          intro wq_8 kq_8
          have zs_kq_8 := kq_8.size
          replace hw := hw.pure kq_8
          replace hR := hR.pure kq_8
          refine WL.loadB Tryz.isAgg3 hR rfl (FR_l a) rfl ?_
          refine WL.nil ?_
          exact WX.one ⟨rfl, by exact Chg.refl _ _⟩
        apply DQ.step (E' := [(2, _)])
        case ho => rfl
        case hs => exact ⟨rfl, trivial⟩
        case hk => rfl
        case h1 =>
          intro wq_9 kq_9
          refine WL.move rfl rfl (?_)
          refine WL.nil ?_
          exact WX.one ⟨rfl, by exact Chg.refl _ _⟩
        apply DQ.step (E' := [(26, _)])
        case ho => rfl
        case hs => exact ⟨rfl, trivial⟩
        case hk => rfl
        case h1 =>
          intro wq_10 kq_10
          refine WL.rem64i rfl rfl (by omega) rfl ?_
          rw [show ((m : Int) % 255) = ((m % 255 : Nat) : Int) from by omega]
          refine WL.nil ?_
          exact WX.one ⟨rfl, by exact Chg.refl _ _⟩
        apply DQ.step (E' := [(25, _), (27, _)])
        case ho => rfl
        case hs => exact ⟨rfl, rfl, trivial⟩
        case hk => rfl
        case h1 =>
          intro wq_11 kq_11
          refine WL.mul64 rfl rfl (by rw [← Int.natCast_mul]; omega) rfl ?_
          rw [← Int.natCast_mul]
          refine WL.nil ?_
          exact WX.one ⟨rfl, by exact Chg.refl _ _⟩
        apply DQ.step (E' := [(28, _)])
        case ho => rfl
        case hs => exact ⟨rfl, trivial⟩
        case hk => rfl
        case h1 =>
          intro wq_12 kq_12
          refine WL.rem64i rfl rfl (by omega) rfl ?_
          rw [show (((L a * (m % 255) : Nat) : Int) % 255) = ((L a * (m % 255) % 255 : Nat) : Int) from by omega]
          refine WL.nil ?_
          exact WX.one ⟨rfl, by exact Chg.refl _ _⟩
        apply DQ.step (E' := [(19, _)])
        case ho => rfl
        case hs => exact ⟨rfl, trivial⟩
        case hk => rfl
        case h1 =>
          intro wq_13 kq_13
          refine WL.nilCheck rfl rfl (?_)
          refine WL.nil ?_
          exact WX.one ⟨rfl, by exact Chg.refl _ _⟩
        apply DQ.step (E' := [(30, _)])
        case ho => rfl
        case hs => exact ⟨rfl, trivial⟩
        case hk => rfl
        case h1 =>
          intro wq_14 kq_14
          refine WL.fieldAddr (fld_146_1) rfl rfl (?_)
          refine WL.nil ?_
          exact WX.one ⟨rfl, by exact Chg.refl _ _⟩
        apply DQ.step (E' := [(31, _), (29, _)])
        case ho => rfl
        case hs => exact ⟨rfl, rfl, trivial⟩
        case hk => rfl
        case h1 =>
          intro wq_15 kq_15
          have zs_kq_15 := kq_15.size
          replace hw := hw.pure kq_15
          replace hR := hR.pure kq_15
          refine WL.indexArrO (L a * (m % 255) % 255) Tryz.underlying143 Tryz.sizeOf5 rfl rfl ⟨rfl, by omega⟩ rfl ?_
          refine WL.nil ?_
          exact WX.one ⟨rfl, by exact Chg.refl _ _⟩
        apply DQ.step (E' := [(32, _)])
        case ho => rfl
        case hs => exact ⟨rfl, trivial⟩
        case hk => rfl
        case h1 =>
          intro wq_16 kq_16
          have zs_kq_16 := kq_16.size
          replace hw := hw.pure kq_16
          replace hR := hR.pure kq_16
          refine WL.loadB Tryz.isAgg5 hR rfl (FR_e (by omega)) rfl ?_
          refine WL.nil ?_
          exact WX.one ⟨rfl, by exact Chg.refl _ _⟩
        apply DQ.step (E' := [(33, _)])
        case ho => rfl
        case hs => exact ⟨rfl, trivial⟩
        case hk => rfl
        case h1 =>
          intro wq_17 kq_17
          refine WL.assign rfl rfl (?_)
          refine WL.nil ?_
          exact WX.one ⟨rfl, by exact Chg.refl _ _⟩
        apply DQ.step (E' := [])
        case ho => rfl
        case hs => exact trivial
        case hk => rfl
        case h1 =>
          intro wq_18 kq_18
          refine WL.assign rfl rfl (?_)
          refine WL.nil ?_
          exact WX.one ⟨rfl, by exact Chg.refl _ _⟩
        refine DQ.done (fun _ => ?_)
        refine DL.done (fun we_19 ke_19 => ?_)
        have zs_ke_19 := ke_19.size
        replace hw := hw.pure ke_19
        replace hR := hR.pure ke_19
        refine WX.then_normal (WC.ret (?_))
        refine WX.ret2 (.inl rfl) Tryz.results104 rfl rfl ?_
        refine ⟨_, rfl, ?_, .inr hR, hw⟩
        rw [powR, if_neg (by omega), if_neg (by omega), if_neg (u8_ne h16), Int.toNat_natCast]
end Go.Proofs.YtggecdldnpildaaGreat
/-! parities: plain laws -/
namespace Go.HL
/-- the one length of columns; -1: they have none -/
def lenC (cols : List (List UInt8)) : Int := match cols with
  | [] => -1
  | c :: _ => if (∀ d ∈ cols, d.length = c.length) ∧ 1 ≤ c.length ∧ c.length ≤ 4096 then (c.length : Int) else -1
theorem lenC_some {cols : List (List UInt8)} (h : 0 ≤ lenC cols) : ∃ n : Nat, lenC cols = (n : Int) ∧ 1 ≤ n ∧ n ≤ 4096 ∧ cols ≠ [] ∧ ∀ d ∈ cols, d.length = n := by
  unfold lenC at h ⊢
  split at h
  · omega
  · rename_i c r
    split at h
    · rename_i h1
      exact ⟨c.length, by rw [if_pos h1], h1.2.1, h1.2.2, by simp, h1.1⟩
    · omega
theorem lenC_of {cols : List (List UInt8)} {n : Nat} (hne : cols ≠ []) (h : ∀ d ∈ cols, d.length = n) : lenC cols = if 1 ≤ n ∧ n ≤ 4096 then (n : Int) else -1 := by
  unfold lenC
  split
  · exact absurd rfl hne
  · rename_i c r
    have hc : c.length = n := h c (by simp)
    by_cases h1 : 1 ≤ n ∧ n ≤ 4096
    · rw [if_pos h1, if_pos ⟨fun d hd => by rw [h d hd, hc], by omega, by omega⟩, hc]
    · rw [if_neg h1, if_neg (fun k => h1 ⟨by omega, by omega⟩)]
theorem lenC_bad {cols : List (List UInt8)} {c d : List UInt8} (hc : c ∈ cols) (hd : d ∈ cols) (h : c.length ≠ d.length) : lenC cols = -1 := by
  unfold lenC
  split
  · rfl
  · rename_i e r
    rw [if_neg]
    rintro ⟨h1, _⟩
    exact h (by rw [h1 c hc, h1 d hd])
/-- a multiple of a column is added -/
def addRow (acc col : List UInt8) (m : UInt8) : List UInt8 := List.zipWith (fun p c => p ^^^ mul m c) acc col
theorem addRow_len {acc col : List UInt8} {m : UInt8} (h : col.length = acc.length) : (addRow acc col m).length = acc.length := by rw [addRow, List.length_zipWith, h, Nat.min_self]
theorem addRow_at {acc col : List UInt8} {m p c : UInt8} {k : Nat} (hp : acc[k]? = some p) (hc : col[k]? = some c) : (addRow acc col m)[k]? = some (p ^^^ mul m c) := by
  rw [addRow, List.getElem?_zipWith, hp, hc]
/-- the first k places are done -/
def addTo' (acc col : List UInt8) (m : UInt8) (k : Nat) : List UInt8 := (addRow acc col m).take k ++ acc.drop k
theorem addTo'_len {acc col : List UInt8} {m : UInt8} {k : Nat} (h : col.length = acc.length) (hk : k ≤ acc.length) : (addTo' acc col m k).length = acc.length := by
  rw [addTo', List.length_append, List.length_take, List.length_drop, addRow_len h]
  omega
theorem addTo'_at {acc col : List UInt8} {m : UInt8} {k : Nat} (h : col.length = acc.length) (hk : k < acc.length) : ∃ p c, acc[k]? = some p ∧ col[k]? = some c ∧ (addTo' acc col m k)[k]? = some p ∧ (addTo' acc col m k).set k (p ^^^ mul m c) = addTo' acc col m (k + 1) := by
  have hp : acc[k]? = some acc[k] := List.getElem?_eq_getElem hk
  have hc : col[k]? = some col[k] := List.getElem?_eq_getElem (by omega)
  refine ⟨acc[k], col[k], hp, hc, ?_, ?_⟩
  · rw [addTo', List.getElem?_append_right (by rw [List.length_take]; omega), List.length_take, addRow_len h, Nat.min_eq_left (by omega), Nat.sub_self, List.getElem?_drop, Nat.add_zero, hp]
  · have hl : ((addRow acc col m).take k).length = k := by rw [List.length_take, addRow_len h]; omega
    rw [addTo', addTo', List.set_append_right _ _ (by omega), hl, Nat.sub_self, List.drop_eq_getElem_cons hk, List.set_cons_zero, List.take_add_one, addRow_at hp hc]
    simp
theorem addTo'_end {acc col : List UInt8} {m : UInt8} (h : col.length = acc.length) : addTo' acc col m acc.length = addRow acc col m := by
  rw [addTo', List.take_of_length_le (by rw [addRow_len h]; exact Nat.le_refl _), List.drop_length, List.append_nil]
/-- a parity of the first i columns -/
def prow (wt : Nat → UInt8) (cols : List (List UInt8)) (n : Nat) : Nat → List UInt8
  | 0 => List.replicate n 0
  | i + 1 => addRow (prow wt cols n i) (cols.getD i []) (wt i)
theorem prow_len {wt : Nat → UInt8} {cols : List (List UInt8)} {n : Nat} (h : ∀ d ∈ cols, d.length = n) : ∀ {i : Nat}, i ≤ cols.length → (prow wt cols n i).length = n := by
  intro i
  induction i with
  | zero => intro _; rw [prow, List.length_replicate]
  | succ i ih =>
    intro hi
    have h1 := ih (by omega)
    have h2 : (cols.getD i []).length = n := by
      rw [List.getD_eq_getElem?_getD, List.getElem?_eq_getElem (by omega)]
      exact h _ (List.getElem_mem _)
    rw [prow, addRow_len (by rw [h2, h1]), h1]
def wtq (q i : Nat) : UInt8 := if q = 0 then 1 else if q = 1 then G i else mul (G i) (G i)
end Go.HL
namespace Go.HL
open Go.RowKit
/-- rows of the call's own, each of one length, in blocks of their own -/
def orows (gs : List Nat) (n : Nat) (xss : List (List UInt8)) : List Rw := List.zipWith (fun g x => ⟨some ⟨g, 0, none⟩, n, x⟩) gs xss
structure OR (w : World) (T U : TypeId) (go k : Nat) (gs : List Nat) (n : Nat) (xss : List (List UInt8)) (tl : List Rw) : Prop where
  outer : Row (fun x => x = go) w T erow (some ⟨go, 0, none⟩) k (orows gs n xss ++ tl)
  inner : ∀ (i : Nat) (g : Nat) (x : List UInt8), gs[i]? = some g → xss[i]? = some x → Row (fun b => b = g) w U eb (some ⟨g, 0, none⟩) n x
  len : gs.length = xss.length
  apart : ∀ (i j : Nat) (g : Nat), gs[i]? = some g → gs[j]? = some g → i = j
  above : ∀ (i g : Nat), gs[i]? = some g → go < g
section
variable {w w' : World} {T U : TypeId} {go k n : Nat} {gs : List Nat} {xss : List (List UInt8)} {tl : List Rw} {M : Nat → Prop}
theorem OR.chg (h : OR w T U go k gs n xss tl) (c : Chg M w w') (hd : ¬ M go ∧ ∀ (i g : Nat), gs[i]? = some g → ¬ M g) : OR w' T U go k gs n xss tl :=
  ⟨h.outer.chg c (fun b _ e m => hd.1 (e ▸ m)), fun i g x hg hx => (h.inner i g x hg hx).chg c (fun b _ e m => hd.2 i g hg (e ▸ m)), h.len, h.apart, h.above⟩
theorem OR.pure (h : OR w T U go k gs n xss tl) (c : Chg Nob w w') : OR w' T U go k gs n xss tl := h.chg c ⟨fun x => x, fun _ _ _ x => x⟩
theorem orows_at {i g : Nat} {x : List UInt8} (hg : gs[i]? = some g) (hx : xss[i]? = some x) : (orows gs n xss ++ tl)[i]? = some ⟨some ⟨g, 0, none⟩, n, x⟩ := by
  have h1 : (orows gs n xss)[i]? = some ⟨some ⟨g, 0, none⟩, n, x⟩ := by rw [orows, List.getElem?_zipWith, hg, hx]
  rw [List.getElem?_append_left (List.getElem?_eq_some_iff.1 h1).1, h1]
theorem orows_len (h : gs.length = xss.length) : (orows gs n xss).length = gs.length := by rw [orows, List.length_zipWith, ← h, Nat.min_self]
/-- one row has turned -/
theorem OR.upd (h : OR w T U go k gs n xss tl) {r g : Nat} {x x' : List UInt8} (hg : gs[r]? = some g) (hx : xss[r]? = some x) (hl : x'.length = x.length) (c : Chg M w w') (hd : ¬ M go ∧ ∀ (i g' : Nat), gs[i]? = some g' → i ≠ r → ¬ M g')
    (hr : Row (fun b => b = g) w' U eb (some ⟨g, 0, none⟩) n x') : OR w' T U go k gs n (xss.set r x') tl := by
  have hrl : r < xss.length := (List.getElem?_eq_some_iff.1 hx).1
  refine ⟨?_, fun i g' y hg' hy => ?_, by rw [List.length_set]; exact h.len, h.apart, h.above⟩
  · have h1 := h.outer.chg c (fun b _ e m => hd.1 (e ▸ m))
    have e1 : erow.all (orows gs n (xss.set r x')) = erow.all (orows gs n xss) := by
      have : ∀ (gs : List Nat) (ys : List (List UInt8)) (r : Nat), (∀ y, ys[r]? = some y → x'.length = y.length) → erow.all (orows gs n (ys.set r x')) = erow.all (orows gs n ys) := by
        intro gs
        induction gs with
        | nil => intro ys r _; simp [orows]
        | cons g gs ih =>
          intro ys r hy
          cases ys with
          | nil => simp
          | cons y ys =>
            cases r with
            | zero =>
              have := hy y rfl
              simp [orows, Enc.all, erow, this]
            | succ r =>
              have := ih ys r (fun z hz => hy z (by simpa using hz))
              simp only [Enc.all, orows] at this
              simp [orows, Enc.all, this]
      exact this gs xss r (fun y hy => by rw [hx] at hy; injection hy with hy; rw [← hy]; exact hl)
    have e2 : (orows gs n (xss.set r x') ++ tl).length = (orows gs n xss ++ tl).length := by simp [orows]
    exact ⟨h1.at_, by rw [Enc.all_append, e1, ← Enc.all_append, e2]; exact h1.own⟩
  · by_cases hir : i = r
    · subst hir
      rw [hg] at hg'
      injection hg' with hg'
      subst hg'
      rw [List.getElem?_set_self hrl] at hy
      injection hy with hy
      subst hy
      exact hr
    · rw [List.getElem?_set_ne (fun e => hir e.symm)] at hy
      exact (h.inner i g' y hg' hy).chg c (fun b _ e m => hd.2 i g' hg' hir (e ▸ m))
/-- one row more -/
theorem OR.snoc {z : Rw} (h : OR w T U go k gs n xss (z :: tl)) {g : Nat} {x : List UInt8} (hgo : go < g) (hnew : ∀ (i g' : Nat), gs[i]? = some g' → g' < g) (c : Chg M w w') (hd : ∀ (i g' : Nat), gs[i]? = some g' → ¬ M g')
    (ho : Row (fun b => b = go) w' T erow (some ⟨go, 0, none⟩) k ((orows gs n xss ++ z :: tl).set gs.length ⟨some ⟨g, 0, none⟩, n, x⟩)) (hr : Row (fun b => b = g) w' U eb (some ⟨g, 0, none⟩) n x) : OR w' T U go k (gs ++ [g]) n (xss ++ [x]) tl := by
  have hl := h.len
  have hsplit : ∀ (i g' : Nat), (gs ++ [g])[i]? = some g' → gs[i]? = some g' ∨ i = gs.length ∧ g' = g := by
    intro i g' h1
    rcases Nat.lt_or_ge i gs.length with h2 | h2
    · rw [List.getElem?_append_left h2] at h1; exact .inl h1
    · rw [List.getElem?_append_right h2] at h1
      have h3 := (List.getElem?_eq_some_iff.1 h1).1
      simp at h3
      have h4 : i - gs.length = 0 := by omega
      rw [h4] at h1
      simp at h1
      exact .inr ⟨by omega, h1.symm⟩
  refine ⟨?_, fun i g' y hg' hy => ?_, by simp [hl], fun i j g' h1 h2 => ?_, fun i g' h1 => ?_⟩
  · have e : (orows gs n xss ++ z :: tl).set gs.length ⟨some ⟨g, 0, none⟩, n, x⟩ = orows (gs ++ [g]) n (xss ++ [x]) ++ tl := by
      have ol := orows_len (n := n) hl
      rw [List.set_append_right _ _ (by omega), ol, Nat.sub_self, List.set_cons_zero, orows, orows, List.zipWith_append hl]
      simp
    rw [e] at ho
    exact ho
  · rcases hsplit i g' hg' with h1 | ⟨h1, h2⟩
    · have hil := (List.getElem?_eq_some_iff.1 h1).1
      rw [List.getElem?_append_left (by omega)] at hy
      exact (h.inner i g' y h1 hy).chg c (fun b _ e m => hd i g' h1 (e ▸ m))
    · subst h1; subst h2
      rw [List.getElem?_append_right (by omega), hl, Nat.sub_self] at hy
      simp at hy
      subst hy
      exact hr
  · rcases hsplit i g' h1 with h3 | ⟨h3, h3'⟩ <;> rcases hsplit j g' h2 with h4 | ⟨h4, h4'⟩
    · exact h.apart i j g' h3 h4
    · have := hnew i g' h3; omega
    · have := hnew j g' h4; omega
    · omega
  · rcases hsplit i g' h1 with h3 | ⟨h3, h3'⟩
    · exact h.above i g' h3
    · omega
/-- as rows that are read -/
theorem OR.rs (h : OR w T U go k gs n xss []) {S : Nat → Prop} (hgo : S go) (hgs : ∀ (i g : Nat), gs[i]? = some g → S g) : RS S w (some ⟨go, 0, none⟩) k (orows gs n xss) := by
  have ho := h.outer
  rw [List.append_nil] at ho
  refine ⟨ho.rsl.mono (fun b e => e ▸ hgo), fun r hr => ?_⟩
  obtain ⟨i, hi⟩ := List.getElem?_of_mem hr
  rw [orows, List.getElem?_zipWith] at hi
  split at hi
  · rename_i g x hg hx
    injection hi with hi
    subst hi
    exact (h.inner i g x hg hx).rsl.mono (fun b e => e ▸ hgs i g hg)
  · cases hi
end
end Go.HL
namespace Go.HL
open Go.RowKit
section
variable {w w' : World} {T U : TypeId} {go k n : Nat} {gs : List Nat} {xss : List (List UInt8)} {tl : List Rw}
theorem OR.lt (h : OR w T U go k gs n xss tl) {i g : Nat} (hg : gs[i]? = some g) : g < w.heap.size := by
  have hi := (List.getElem?_eq_some_iff.1 hg).1
  obtain ⟨x, hx⟩ : ∃ x, xss[i]? = some x := ⟨_, List.getElem?_eq_getElem (by rw [← h.len]; exact hi)⟩
  exact (h.inner i g x hg hx).own.lt _ rfl
theorem OR.lto (h : OR w T U go k gs n xss tl) : go < w.heap.size := h.outer.own.lt _ rfl
end
/-- the rows with a multiple of a column added, the first r of them -/
def updR (ys : List (List UInt8)) (col : List UInt8) (i : Nat) : Nat → List (List UInt8)
  | 0 => ys
  | r + 1 => (updR ys col i r).set r (addRow (ys.getD r []) col (wtq r i))
theorem updR_at (ys : List (List UInt8)) (col : List UInt8) (i : Nat) : ∀ (r j : Nat), r ≤ j → (updR ys col i r)[j]? = ys[j]? := by
  intro r
  induction r with
  | zero => intro j _; rfl
  | succ r ih =>
    intro j hj
    rw [updR, List.getElem?_set_ne (by omega), ih j (by omega)]
def three (cols : List (List UInt8)) (n i : Nat) : List (List UInt8) := [prow (wtq 0) cols n i, prow (wtq 1) cols n i, prow (wtq 2) cols n i]
theorem three_next (cols : List (List UInt8)) (n i : Nat) : updR (three cols n i) (cols.getD i []) i 3 = three cols n (i + 1) := rfl
end Go.HL
namespace Go.Proofs.YtggecdldnpildaaGreat
open Go.RowKit Go.HL
set_option maxRecDepth 100000

/-! a number among others -/
theorem index_calls {S : Nat → Prop} {w : World} {ao : Option Addr} {c : Nat} {l : List Int} (hr : RSl S w ei ao c l) (hl : l.length ≤ 140737488351232) (x : Int) :
    Calls Tryz.prog 70 [.slice ao l.length c, vi x].toArray w (Ret fun v w' => (∃ k : Int, v = vi k ∧ (0 ≤ k ↔ x ∈ l)) ∧ Chg Nob w w') := by
  replace hr := hr.old
  have hw := Chg.refl Nob w
  refine Calls.of_WC Tryz.func70 rfl Tryz.ntmps70 (by simp) ?_
  refine WC.seq (WC.region (WL.assign rfl rfl (WL.nil (WX.then_normal (WC.seq (WC.seq (WC.region (?_))))))))
  refine WL.move rfl rfl (WL.len Tryz.underlying39 rfl rfl (WL.move rfl rfl (WL.nil (WX.then_normal (WC.block (?_))))))
  refine WC.loop (σ := Nat) (fun i => [(0, .slice ao l.length c), (1, vi x), (7, vi l.length), (8, vi i)])
    (fun i w' => i ≤ l.length ∧ (∀ j : Nat, j < i → l[j]? ≠ some x) ∧ RSl (· < w.heap.size) w' ei ao c l ∧ Chg Nob w w') (fun i => l.length - i) 0 ⟨rfl, rfl, rfl, rfl, trivial⟩ ⟨Nat.zero_le _, fun j h => absurd h (by omega), hr, hw⟩ ?_
  clear hr hw
  rintro i w2 ⟨hi, hall, hr, hw⟩
  refine WC.seq (WC.region (?_))
  refine WL.lss? rfl rfl rfl (fun h9 => ?_) (fun h9 => ?_)
  ·
    refine WL.nil (WX.then_normal (WC.seq (WC.cond_true rfl (WC.skip (WX.then_normal (WC.seq (WC.block (?_))))))))
    refine WC.seq (WC.region (WL.move rfl rfl (WL.assign rfl rfl (WL.nil (WX.then_normal (WC.seq (WC.region (?_))))))))
    refine WL.move rfl rfl (WL.move rfl rfl (WL.move rfl rfl (?_)))
    obtain ⟨y, hy⟩ : ∃ y, l[i]? = some y := ⟨_, List.getElem?_eq_getElem (by omega)⟩
    refine WL.indexT Tryz.underlying39 Tryz.sizeOf3 hr rfl rfl ⟨hy, rfl⟩ rfl ?_
    intro b_1 o_1 hc_1
    refine WL.load Tryz.isAgg3 rfl (hc_1 0 _ rfl) rfl (?_)
    refine WL.eql? rfl rfl rfl (fun h16 => ?_) (fun h16 => ?_)
    ·
      refine WL.nil (WX.then_normal (WC.cond_true rfl (WC.seq (WC.region (WL.move rfl rfl (WL.assign rfl rfl (WL.nil (?_))))))))
      refine WX.then_normal (WC.ret (WX.block_ret (WX.then_ret (WX.then_ret (WX.block_ret (WX.then_ret (?_)))))))
      refine WX.ret1 (.inl rfl) Tryz.results70 rfl ?_
      refine ⟨_, rfl, ⟨_, rfl, ?_⟩, hw⟩
      rw [h16]
      exact ⟨fun _ => List.mem_of_getElem? hy, fun _ => by omega⟩
    ·
      refine WL.nil (WX.then_normal (WC.cond_false rfl (WC.skip (WX.block_normal (WX.then_normal (WC.region (WL.add64 rfl rfl (by omega) rfl (?_))))))))
      refine WL.move rfl rfl (WL.nil (?_))
      refine WX.loop_next (i + 1) ⟨rfl, rfl, rfl, rfl, trivial⟩ ⟨by omega, fun j h => ?_, hr, hw⟩ (by show _ - _ < _ - _; omega)
      rcases Nat.lt_or_ge j i with h3 | h3
      ·
        exact hall j h3
      ·
        rw [show j = i from by omega, hy]
        exact fun e => h16 (by injection e with e; exact e.symm)
  ·
    refine WL.nil (WX.then_normal (WC.seq (WC.cond_false rfl (WC.exit (WX.then_exit (WX.then_exit (WX.block_here (?_))))))))
    refine WX.then_normal (WC.seq (WC.region (WL.assign rfl rfl (WL.nil (WX.then_normal (WC.ret (?_)))))))
    refine WX.ret1 (.inl rfl) Tryz.results70 rfl ?_
    refine ⟨_, rfl, ⟨_, rfl, ?_⟩, hw⟩
    refine ⟨fun h => absurd h (by decide), fun h => ?_⟩
    obtain ⟨j, hj⟩ := List.getElem?_of_mem h
    have hjl := (List.getElem?_eq_some_iff.1 hj).1
    exact absurd hj (hall j (by omega))
theorem contains_calls {S : Nat → Prop} {w : World} {ao : Option Addr} {c : Nat} {l : List Int} (hr : RSl S w ei ao c l) (hl : l.length ≤ 140737488351232) (x : Int) :
    Calls Tryz.prog 48 [.slice ao l.length c, vi x].toArray w (Ret fun v w' => v = .bool (decide (x ∈ l)) ∧ Chg Nob w w') := by
  replace hr := hr.old
  have hw := Chg.refl Nob w
  refine Calls.of_WC Tryz.func48 rfl Tryz.ntmps48 (by simp) ?_
  refine WC.seq (WC.region (WL.assign rfl rfl (WL.nil (WX.then_normal (WC.seq (WC.region (WL.move rfl rfl (?_))))))))
  refine WL.move rfl rfl (?_)
  refine WL.call eg_70 rfl rfl (index_calls hr hl x) ?_
  rintro v w1 ⟨⟨k, rfl, hk⟩, kk⟩
  have zs_kk := kk.size
  replace hr := hr.pure kk
  replace hw := hw.pure kk
  refine WL.geq rfl rfl rfl (WL.assign rfl rfl (WL.nil (WX.then_normal (WC.ret (?_)))))
  refine WX.ret1 (.inl rfl) Tryz.results48 rfl ?_
  exact ⟨_, rfl, congrArg Value.bool (decide_eq_decide.2 hk), hw⟩
/-! the one length of columns, none of them bad -/
def xss (rs : List Rw) : List (List UInt8) := rs.map Rw.xs
theorem xss_mem {rs : List Rw} {i : Nat} {r : Rw} (h : rs[i]? = some r) : r.xs ∈ xss rs := List.mem_map.2 ⟨r, List.mem_of_getElem? h, rfl⟩
set_option maxHeartbeats 1000000 in
theorem length_calls {S : Nat → Prop} {w : World} {ao : Option Addr} {c : Nat} {rs : List Rw} (hc : RS S w ao c rs) (hl : rs.length * 24 ≤ 140737488351232) :
    Calls Tryz.prog 77 [.slice ao rs.length c, .slice none 0 0].toArray w (Ret fun v w' => v = vi (lenC (xss rs)) ∧ Chg Nob w w') := by
  replace hc := hc.old
  have hw := Chg.refl Nob w
  refine Calls.of_WC Tryz.func77 rfl Tryz.ntmps77 (by simp) ?_
  refine WC.seq (WC.region (WL.assign rfl rfl (WL.nil (WX.then_normal (WC.seq (WC.region (WL.assign rfl rfl (?_))))))))
  refine WL.nil (WX.then_normal (WC.seq (WC.seq (WC.region (WL.move rfl rfl (WL.len Tryz.underlying87 rfl rfl (WL.move rfl rfl (?_))))))))
  refine WL.nil (WX.then_normal (WC.block (?_)))
  refine WC.loop (σ := Nat × Int) (fun q => [(1, .slice none 0 0), (5, vi q.2), (8, .slice ao rs.length c), (9, vi rs.length), (10, vi q.1)])
    (fun q w' => q.1 ≤ rs.length ∧ (q.1 = 0 ∧ q.2 = -1 ∨ 0 < q.1 ∧ ∃ m : Nat, q.2 = (m : Int) ∧ ∀ (j : Nat) (r : Rw), j < q.1 → rs[j]? = some r → r.xs.length = m) ∧ RS (· < w.heap.size) w' ao c rs ∧ Chg Nob w w') (fun q => rs.length - q.1) (0, -1) ⟨rfl, rfl, rfl, rfl, rfl, trivial⟩ ⟨Nat.zero_le _, .inl ⟨rfl, rfl⟩, hc, hw⟩ ?_
  clear hc hw
  rintro ⟨i, n⟩ w2 ⟨hi, hall, hc, hw⟩
  dsimp only at hi hall hc hw ⊢
  refine WC.seq (WC.region (?_))
  refine WL.lss? rfl rfl rfl (fun h11 => ?_) (fun h11 => ?_)
  ·
    refine WL.nil (WX.then_normal (WC.seq (WC.cond_true rfl (WC.skip (WX.then_normal (WC.seq (WC.block (?_))))))))
    refine WC.seq (WC.region (WL.move rfl rfl (?_)))
    obtain ⟨r, hr⟩ : ∃ r, rs[i]? = some r := ⟨_, List.getElem?_eq_getElem (by omega)⟩
    refine WL.indexT Tryz.underlying87 Tryz.sizeOf26 hc.outer rfl rfl ⟨hr, rfl⟩ rfl ?_
    intro b_1 o_1 hc_1
    refine WL.load Tryz.isAgg26 rfl (hc_1 0 _ rfl) rfl (WL.assign rfl rfl (WL.assign rfl rfl (WL.nil (WX.then_normal (WC.block (WC.seq (WC.region (?_))))))))
    refine WL.move rfl rfl (WL.move rfl rfl (?_))
    refine WL.call eg_48 rfl rfl (contains_calls (RSl.nil (fun _ => True) _ ei none 0) (by decide) _) ?_
    rintro v w3 ⟨rfl, k⟩
    rw [show decide ((i : Int) ∈ ([] : List Int)) = false from rfl]
    have zs_k := k.size
    replace hc := hc.pure k
    replace hw := hw.pure k
    refine WL.assign rfl rfl (WL.nil (WX.then_normal (WC.cond_false rfl (WC.seq (WC.region (WL.move rfl rfl (?_)))))))
    refine WL.geq? rfl rfl rfl (fun h23 => ?_) (fun h23 => ?_)
    ·
      refine WL.move rfl rfl (WL.want rfl rfl rfl (WL.move rfl rfl (WL.want rfl rfl rfl (WL.len Tryz.underlying26 rfl rfl (WL.want rfl rfl rfl (WL.move rfl rfl (WL.want rfl rfl rfl (?_))))))))
      refine WL.neq? rfl rfl rfl (fun h28 => ?_) (fun h28 => ?_)
      ·
        refine WL.pickT rfl rfl rfl (WL.assign rfl rfl (WL.nil (WX.then_normal (WC.cond_true rfl (WC.seq (WC.region (WL.assign rfl rfl (?_))))))))
        refine WL.nil (WX.then_normal (WC.ret (WX.block_ret (WX.block_ret (WX.then_ret (WX.then_ret (WX.block_ret (?_))))))))
        refine WX.then_ret (?_)
        refine WX.ret1 (.inl rfl) Tryz.results77 rfl ?_
        refine ⟨_, rfl, ?_, hw⟩
        rcases hall with ⟨h1, h2⟩ | ⟨h0, m, h1, h2⟩
        ·
          exfalso; omega
        ·
          obtain ⟨r0, hr0⟩ : ∃ r0, rs[0]? = some r0 := ⟨_, List.getElem?_eq_getElem (by omega)⟩
          have h3 := h2 0 r0 h0 hr0
          rw [lenC_bad (xss_mem hr) (xss_mem hr0) (by omega)]
      ·
        refine WL.pickT rfl rfl rfl (WL.assign rfl rfl (WL.nil (WX.then_normal (WC.cond_false rfl (WC.region (WL.move rfl rfl (WL.len Tryz.underlying26 rfl rfl (?_))))))))
        refine WL.assign rfl rfl (WL.nil (WX.block_normal (WX.block_normal (WX.then_normal (WC.region (WL.add64 rfl rfl (by omega) rfl (WL.move rfl rfl (?_))))))))
        refine WL.nil (?_)
        refine WX.loop_next (i + 1, (r.xs.length : Int)) ⟨rfl, rfl, rfl, rfl, rfl, trivial⟩ ⟨by dsimp only; omega, .inr ⟨by dsimp only; omega, r.xs.length, rfl, fun j r' h h' => ?_⟩, hc, hw⟩ (by show _ - _ < _ - _; omega)
        dsimp only at h
        rcases Nat.lt_or_ge j i with h3 | h3
        ·
          rcases hall with ⟨h1, _⟩ | ⟨_, m, h1, h2⟩
          ·
            omega
          ·
            have h4 := h2 j r' h3 h'
            omega
        ·
          rw [show j = i from by omega, hr] at h'
          injection h' with h'
          rw [h']
    ·
      refine WL.move rfl rfl (WL.pass rfl rfl rfl rfl (WL.pass rfl rfl rfl rfl (WL.pass rfl rfl rfl rfl (WL.pass rfl rfl rfl rfl (WL.pickF rfl rfl rfl (WL.assign rfl rfl (WL.nil (?_))))))))
      refine WX.then_normal (WC.cond_false rfl (WC.region (WL.move rfl rfl (WL.len Tryz.underlying26 rfl rfl (WL.assign rfl rfl (WL.nil (WX.block_normal (?_))))))))
      refine WX.block_normal (WX.then_normal (WC.region (WL.add64 rfl rfl (by omega) rfl (WL.move rfl rfl (WL.nil (?_))))))
      refine WX.loop_next (i + 1, (r.xs.length : Int)) ⟨rfl, rfl, rfl, rfl, rfl, trivial⟩ ⟨by dsimp only; omega, .inr ⟨by dsimp only; omega, r.xs.length, rfl, fun j r' h h' => ?_⟩, hc, hw⟩ (by show _ - _ < _ - _; omega)
      dsimp only at h
      rcases Nat.lt_or_ge j i with h3 | h3
      ·
        rcases hall with ⟨h1, _⟩ | ⟨_, m, h1, h2⟩
        ·
          omega
        ·
          have h4 := h2 j r' h3 h'
          omega
      ·
        rw [show j = i from by omega, hr] at h'
        injection h' with h'
        rw [h']
  ·
    refine WL.nil (WX.then_normal (WC.seq (WC.cond_false rfl (WC.exit (WX.then_exit (WX.then_exit (WX.block_here (?_))))))))
    refine WX.then_normal (WC.seq (WC.seq (WC.region (WL.move rfl rfl (?_)))))
    refine WL.lss? rfl rfl rfl (fun h32 => ?_) (fun h32 => ?_)
    ·
      refine WL.move rfl rfl (WL.pass rfl rfl rfl rfl (WL.pass rfl rfl rfl rfl (WL.pickT rfl rfl rfl (WL.nil (WX.then_normal (WC.cond_true rfl (WC.seq (?_))))))))
      refine WC.region (WL.assign rfl rfl (WL.nil (WX.then_normal (WC.ret (WX.then_ret (?_))))))
      refine WX.ret1 (.inl rfl) Tryz.results77 rfl ?_
      have hil : i = rs.length := by omega
      refine ⟨_, rfl, ?_, hw⟩
      rcases hall with ⟨h1, h2⟩ | ⟨h0, m, h1, h2⟩
      ·
        have : rs = [] := List.eq_nil_of_length_eq_zero (by omega)
        subst this
        rfl
      ·
        have hne : xss rs ≠ [] := fun e => by
          have : (xss rs).length = 0 := by rw [e]; rfl
          rw [xss, List.length_map] at this
          omega
        have hall2 : ∀ d ∈ xss rs, d.length = m := by
          intro d hd
          obtain ⟨r, hr, rfl⟩ := List.mem_map.1 hd
          obtain ⟨j, hj⟩ := List.getElem?_of_mem hr
          exact h2 j r (by have := (List.getElem?_eq_some_iff.1 hj).1; omega) hj
        rw [lenC_of hne hall2]
        rw [if_neg (by omega)]; done
    ·
      refine WL.move rfl rfl (WL.want rfl rfl rfl (WL.move rfl rfl (WL.want rfl rfl rfl (?_))))
      refine WL.gtr? rfl rfl rfl (fun h35 => ?_) (fun h35 => ?_)
      ·
        refine WL.pickF rfl rfl rfl (WL.nil (WX.then_normal (WC.cond_true rfl (WC.seq (WC.region (WL.assign rfl rfl (WL.nil (?_))))))))
        refine WX.then_normal (WC.ret (WX.then_ret (?_)))
        refine WX.ret1 (.inl rfl) Tryz.results77 rfl ?_
        have hil : i = rs.length := by omega
        refine ⟨_, rfl, ?_, hw⟩
        rcases hall with ⟨h1, h2⟩ | ⟨h0, m, h1, h2⟩
        ·
          have : rs = [] := List.eq_nil_of_length_eq_zero (by omega)
          subst this
          rfl
        ·
          have hne : xss rs ≠ [] := fun e => by
            have : (xss rs).length = 0 := by rw [e]; rfl
            rw [xss, List.length_map] at this
            omega
          have hall2 : ∀ d ∈ xss rs, d.length = m := by
            intro d hd
            obtain ⟨r, hr, rfl⟩ := List.mem_map.1 hd
            obtain ⟨j, hj⟩ := List.getElem?_of_mem hr
            exact h2 j r (by have := (List.getElem?_eq_some_iff.1 hj).1; omega) hj
          rw [lenC_of hne hall2]
          rw [if_neg (by omega)]; done
      ·
        refine WL.pickF rfl rfl rfl (WL.nil (WX.then_normal (WC.cond_false rfl (WC.skip (WX.then_normal (WC.seq (WC.region (?_))))))))
        refine WL.move rfl rfl (WL.assign rfl rfl (WL.nil (WX.then_normal (WC.ret (?_)))))
        refine WX.ret1 (.inl rfl) Tryz.results77 rfl ?_
        have hil : i = rs.length := by omega
        refine ⟨_, rfl, ?_, hw⟩
        rcases hall with ⟨h1, h2⟩ | ⟨h0, m, h1, h2⟩
        ·
          have : rs = [] := List.eq_nil_of_length_eq_zero (by omega)
          subst this
          exfalso; omega
        ·
          have hne : xss rs ≠ [] := fun e => by
            have : (xss rs).length = 0 := by rw [e]; rfl
            rw [xss, List.length_map] at this
            omega
          have hall2 : ∀ d ∈ xss rs, d.length = m := by
            intro d hd
            obtain ⟨r, hr, rfl⟩ := List.mem_map.1 hd
            obtain ⟨j, hj⟩ := List.getElem?_of_mem hr
            exact h2 j r (by have := (List.getElem?_eq_some_iff.1 hj).1; omega) hj
          rw [lenC_of hne hall2]
          rw [if_pos (by omega), h1]; done
end Go.Proofs.YtggecdldnpildaaGreat
namespace Go.Proofs.YtggecdldnpildaaGreat
open Go.RowKit Go.HL
set_option maxRecDepth 100000

/-! where the tables are there already -/
theorem doR_calls {w : World} {g : Nat} (hR : Blk w g 146 FR) (fv : Value) :
    Calls Tryz.prog 112 [.pointer (some ⟨g, 0, none⟩), fv].toArray w (Ret fun v w' => v = .tuple #[] ∧ Chg Nob w w') := by
  refine (do_done hR fv).mono ?_
  rintro e w' ⟨rfl, rfl⟩
  exact ⟨_, rfl, rfl, Chg.refl _ _⟩
theorem tablesR_calls {w : World} {g : Nat} (hR : Blk w g 146 FR) : Calls Tryz.prog 111 [.pointer (some ⟨g, 0, none⟩)].toArray w (Ret fun v w' => v = .tuple #[] ∧ Chg Nob w w') := by
  have hw := Chg.refl Nob w
  refine Calls.of_WC Tryz.func111 rfl Tryz.ntmps111 (by simp) ?_
  refine WC.seq (WC.region (?_))
  refine WL.box rfl rfl ?_
  intro g_1 w_1 hge_1 hlt_1 hb_1 k_1
  have zs_k_1 := k_1.size
  replace hR := hR.pure k_1
  replace hw := hw.pure k_1
  refine WL.nil (WX.then_normal (WC.region (WL.loadB Tryz.isAgg131 hb_1 rfl rfl rfl (WL.nilCheck rfl rfl (WL.fieldAddr (fld_146_0) rfl rfl (?_))))))
  refine WL.makeFunc rfl rfl ?_
  refine WL.call eg_112 rfl rfl (doR_calls hR _) ?_
  rintro v w2 ⟨rfl, k⟩
  have zs_k := k.size
  replace hR := hR.pure k
  replace hw := hw.pure k
  replace hb_1 := hb_1.pure k
  refine WL.nil (?_)
  refine WX.ret0 (.inr rfl) Tryz.results111 ?_
  exact ⟨_, rfl, rfl, hw⟩
set_option maxRecDepth 100000 in
theorem readyR_calls {w : World} {g : Nat} (hR : Blk w g 146 FR) : Calls Tryz.prog 106 [.pointer (some ⟨g, 0, none⟩)].toArray w (Ret fun v w' => v = .pointer (some ⟨g, 0, none⟩) ∧ Chg Nob w w') := by
  have hw := Chg.refl Nob w
  refine Calls.of_WC Tryz.func106 rfl Tryz.ntmps106 (by simp) ?_
  refine WC.seq (WC.region (WL.assign rfl rfl (WL.nil (WX.then_normal (WC.seq (WC.seq (WC.region (?_))))))))
  refine WL.move rfl rfl (?_)
  refine WL.pnil Tryz.underlying131 rfl rfl rfl ?_
  rw [show (some (⟨g, 0, none⟩ : Addr)).isNone = false from rfl]
  refine WL.nil (WX.then_normal (WC.cond_false rfl (WC.skip (WX.then_normal (WC.seq (WC.region (WL.move rfl rfl (?_))))))))
  refine WL.call eg_111 rfl rfl (tablesR_calls hR) ?_
  rintro v w2 ⟨rfl, k⟩
  have zs_k := k.size
  replace hR := hR.pure k
  replace hw := hw.pure k
  refine WL.nil (WX.then_normal (WC.seq (WC.region (WL.move rfl rfl (WL.assign rfl rfl (WL.nil (WX.then_normal (?_))))))))
  refine WC.ret (?_)
  refine WX.ret1 (.inl rfl) Tryz.results106 rfl ?_
  exact ⟨_, rfl, rfl, hw⟩
theorem mulR_calls {w : World} {g : Nat} (hR : Blk w g 146 FR) (a b : UInt8) : Calls Tryz.prog 102 [.pointer (some ⟨g, 0, none⟩), v8 a, v8 b].toArray w (Ret fun v w' => v = v8 (mul a b) ∧ Chg Nob w w') := by
  have hw := Chg.refl Nob w
  have hla := L_lt a
  have hlb := L_lt b
  refine Calls.of_WC Tryz.func102 rfl Tryz.ntmps102 (by simp) ?_
  refine WC.seq (WC.region (WL.assign rfl rfl (WL.nil (WX.then_normal (WC.seq (WC.seq (WC.region (?_))))))))
  refine WL.move rfl rfl (?_)
  refine WL.eql? rfl rfl rfl (fun h8 => ?_) (fun h8 => ?_)
  ·
    refine WL.move rfl rfl (WL.pass rfl rfl rfl rfl (WL.pass rfl rfl rfl rfl (WL.pickT rfl rfl rfl (WL.nil (WX.then_normal (WC.cond_true rfl (WC.seq (?_))))))))
    refine WC.region (WL.assign rfl rfl (WL.nil (WX.then_normal (WC.ret (WX.then_ret (?_))))))
    refine WX.ret1 (.inl rfl) Tryz.results102 rfl ?_
    have ha := u8_zero h8
    subst ha
    refine ⟨_, rfl, ?_, hw⟩
    rw [mul_zero_l]
    rfl
  ·
    refine WL.move rfl rfl (WL.want rfl rfl rfl (WL.move rfl rfl (WL.want rfl rfl rfl (?_))))
    refine WL.eql? rfl rfl rfl (fun h11 => ?_) (fun h11 => ?_)
    ·
      refine WL.pickF rfl rfl rfl (WL.nil (WX.then_normal (WC.cond_true rfl (WC.seq (WC.region (WL.assign rfl rfl (WL.nil (?_))))))))
      refine WX.then_normal (WC.ret (WX.then_ret (?_)))
      refine WX.ret1 (.inl rfl) Tryz.results102 rfl ?_
      have hb := u8_zero h11
      subst hb
      refine ⟨_, rfl, ?_, hw⟩
      rw [mul_zero_r]
      rfl
    ·
      refine WL.pickF rfl rfl rfl (WL.nil (WX.then_normal (WC.cond_false rfl (WC.skip (WX.then_normal (WC.seq (WC.region (?_))))))))
      refine WL.move rfl rfl (?_)
      refine WL.call eg_106 rfl rfl (readyR_calls hR) ?_
      rintro v w2 ⟨rfl, k⟩
      have zs_k := k.size
      replace hR := hR.pure k
      replace hw := hw.pure k
      refine WL.assign rfl rfl (WL.nil (WX.then_normal (WC.seq (?_))))
      refine WC.draw (Nob) [0, 1, 2, 3, 4, 5, 6, 7, 8, 9, 10, 11, 12, 13, 14, 15, 16, 17, 18] [] mixed rfl rfl (fun wd_1 kd_1 zd_1 => ?_)
      have zs_kd_1 := kd_1.size
      replace hR := hR.pure kd_1
      replace hw := hw.pure kd_1
      apply DQ.step (E' := [(0, _)])
      case ho => rfl
      case hs => exact ⟨rfl, trivial⟩
      case hk => rfl
      case h1 =>
        intro wq_2 kq_2
        refine WL.move rfl rfl (?_)
        refine WL.nil ?_
        exact WX.one ⟨rfl, by exact Chg.refl _ _⟩
      apply DQ.step (E' := [(0, _)])
      case ho => rfl
      case hs => exact ⟨rfl, trivial⟩
      case hk => rfl
      case h1 =>
        intro wq_3 kq_3
        refine WL.move rfl rfl (?_)
        refine WL.nil ?_
        exact WX.one ⟨rfl, by exact Chg.refl _ _⟩
      apply DQ.step (E' := [(1, _)])
      case ho => rfl
      case hs => exact ⟨rfl, trivial⟩
      case hk => rfl
      case h1 =>
        intro wq_4 kq_4
        refine WL.move rfl rfl (?_)
        refine WL.nil ?_
        exact WX.one ⟨rfl, by exact Chg.refl _ _⟩
      apply DQ.step (E' := [(16, _)])
      case ho => rfl
      case hs => exact ⟨rfl, trivial⟩
      case hk => rfl
      case h1 =>
        intro wq_5 kq_5
        refine WL.nilCheck rfl rfl (?_)
        refine WL.nil ?_
        exact WX.one ⟨rfl, by exact Chg.refl _ _⟩
      apply DQ.step (E' := [(18, _)])
      case ho => rfl
      case hs => exact ⟨rfl, trivial⟩
      case hk => rfl
      case h1 =>
        intro wq_6 kq_6
        refine WL.fieldAddr (fld_146_2) rfl rfl (?_)
        refine WL.nil ?_
        exact WX.one ⟨rfl, by exact Chg.refl _ _⟩
      apply DQ.step (E' := [(19, _), (17, _)])
      case ho => rfl
      case hs => exact ⟨rfl, rfl, trivial⟩
      case hk => rfl
      case h1 =>
        intro wq_7 kq_7
        have zs_kq_7 := kq_7.size
        replace hR := hR.pure kq_7
        replace hw := hw.pure kq_7
        refine WL.indexArrO a.toNat Tryz.underlying144 Tryz.sizeOf3 rfl rfl ⟨rfl, a.toNat_lt⟩ rfl ?_
        refine WL.nil ?_
        exact WX.one ⟨rfl, by exact Chg.refl _ _⟩
      apply DQ.step (E' := [(20, _)])
      case ho => rfl
      case hs => exact ⟨rfl, trivial⟩
      case hk => rfl
      case h1 =>
        intro wq_8 kq_8
        have zs_kq_8 := kq_8.size
        replace hR := hR.pure kq_8
        replace hw := hw.pure kq_8
        refine WL.loadB Tryz.isAgg3 hR rfl (FR_l a) rfl ?_
        refine WL.nil ?_
        exact WX.one ⟨rfl, by exact Chg.refl _ _⟩
      apply DQ.step (E' := [(0, _)])
      case ho => rfl
      case hs => exact ⟨rfl, trivial⟩
      case hk => rfl
      case h1 =>
        intro wq_9 kq_9
        refine WL.move rfl rfl (?_)
        refine WL.nil ?_
        exact WX.one ⟨rfl, by exact Chg.refl _ _⟩
      apply DQ.step (E' := [(2, _)])
      case ho => rfl
      case hs => exact ⟨rfl, trivial⟩
      case hk => rfl
      case h1 =>
        intro wq_10 kq_10
        refine WL.move rfl rfl (?_)
        refine WL.nil ?_
        exact WX.one ⟨rfl, by exact Chg.refl _ _⟩
      apply DQ.step (E' := [(22, _)])
      case ho => rfl
      case hs => exact ⟨rfl, trivial⟩
      case hk => rfl
      case h1 =>
        intro wq_11 kq_11
        refine WL.nilCheck rfl rfl (?_)
        refine WL.nil ?_
        exact WX.one ⟨rfl, by exact Chg.refl _ _⟩
      apply DQ.step (E' := [(24, _)])
      case ho => rfl
      case hs => exact ⟨rfl, trivial⟩
      case hk => rfl
      case h1 =>
        intro wq_12 kq_12
        refine WL.fieldAddr (fld_146_2) rfl rfl (?_)
        refine WL.nil ?_
        exact WX.one ⟨rfl, by exact Chg.refl _ _⟩
      apply DQ.step (E' := [(25, _), (23, _)])
      case ho => rfl
      case hs => exact ⟨rfl, rfl, trivial⟩
      case hk => rfl
      case h1 =>
        intro wq_13 kq_13
        have zs_kq_13 := kq_13.size
        replace hR := hR.pure kq_13
        replace hw := hw.pure kq_13
        refine WL.indexArrO b.toNat Tryz.underlying144 Tryz.sizeOf3 rfl rfl ⟨rfl, b.toNat_lt⟩ rfl ?_
        refine WL.nil ?_
        exact WX.one ⟨rfl, by exact Chg.refl _ _⟩
      apply DQ.step (E' := [(26, _)])
      case ho => rfl
      case hs => exact ⟨rfl, trivial⟩
      case hk => rfl
      case h1 =>
        intro wq_14 kq_14
        have zs_kq_14 := kq_14.size
        replace hR := hR.pure kq_14
        replace hw := hw.pure kq_14
        refine WL.loadB Tryz.isAgg3 hR rfl (FR_l b) rfl ?_
        refine WL.nil ?_
        exact WX.one ⟨rfl, by exact Chg.refl _ _⟩
      apply DQ.step (E' := [(21, _), (27, _)])
      case ho => rfl
      case hs => exact ⟨rfl, rfl, trivial⟩
      case hk => rfl
      case h1 =>
        intro wq_15 kq_15
        refine WL.add64 rfl rfl (by omega) rfl (?_)
        refine WL.nil ?_
        exact WX.one ⟨rfl, by exact Chg.refl _ _⟩
      apply DQ.step (E' := [(15, _)])
      case ho => rfl
      case hs => exact ⟨rfl, trivial⟩
      case hk => rfl
      case h1 =>
        intro wq_16 kq_16
        refine WL.nilCheck rfl rfl (?_)
        refine WL.nil ?_
        exact WX.one ⟨rfl, by exact Chg.refl _ _⟩
      apply DQ.step (E' := [(29, _)])
      case ho => rfl
      case hs => exact ⟨rfl, trivial⟩
      case hk => rfl
      case h1 =>
        intro wq_17 kq_17
        refine WL.fieldAddr (fld_146_1) rfl rfl (?_)
        refine WL.nil ?_
        exact WX.one ⟨rfl, by exact Chg.refl _ _⟩
      apply DQ.step (E' := [(30, _), (28, _)])
      case ho => rfl
      case hs => exact ⟨rfl, rfl, trivial⟩
      case hk => rfl
      case h1 =>
        intro wq_18 kq_18
        have zs_kq_18 := kq_18.size
        replace hR := hR.pure kq_18
        replace hw := hw.pure kq_18
        refine WL.indexArrO (L a + L b) Tryz.underlying143 Tryz.sizeOf5 rfl rfl ⟨by omega, by omega⟩ rfl ?_
        refine WL.nil ?_
        exact WX.one ⟨rfl, by exact Chg.refl _ _⟩
      apply DQ.step (E' := [(31, _)])
      case ho => rfl
      case hs => exact ⟨rfl, trivial⟩
      case hk => rfl
      case h1 =>
        intro wq_19 kq_19
        have zs_kq_19 := kq_19.size
        replace hR := hR.pure kq_19
        replace hw := hw.pure kq_19
        refine WL.loadB Tryz.isAgg5 hR rfl (FR_e (by omega)) rfl ?_
        refine WL.nil ?_
        exact WX.one ⟨rfl, by exact Chg.refl _ _⟩
      apply DQ.step (E' := [(32, _)])
      case ho => rfl
      case hs => exact ⟨rfl, trivial⟩
      case hk => rfl
      case h1 =>
        intro wq_20 kq_20
        refine WL.assign rfl rfl (?_)
        refine WL.nil ?_
        exact WX.one ⟨rfl, by exact Chg.refl _ _⟩
      refine DQ.done (fun _ => ?_)
      refine DL.done (fun we_21 ke_21 => ?_)
      have zs_ke_21 := ke_21.size
      replace hR := hR.pure ke_21
      replace hw := hw.pure ke_21
      refine WX.then_normal (WC.ret (?_))
      refine WX.ret1 (.inl rfl) Tryz.results102 rfl ?_
      refine ⟨_, rfl, ?_, hw⟩
      rw [mul, if_neg (by rintro (h | h); exact u8_ne h8 h; exact u8_ne h11 h)]
theorem mulT_calls {w : World} {g : Nat} (hF : Fld w g) (a b : UInt8) (ha : a ≠ 0) (hb : b ≠ 0) : Calls Tryz.prog 102 [.pointer (some ⟨g, 0, none⟩), v8 a, v8 b].toArray w (Ret fun v w' => v = v8 (mul a b) ∧ Blk w' g 146 FR ∧ Chg (fun x => x = g) w w') := by
  have hw := Chg.refl (fun x => x = g) w
  have hla := L_lt a
  have hlb := L_lt b
  refine Calls.of_WC Tryz.func102 rfl Tryz.ntmps102 (by simp) ?_
  refine WC.seq (WC.region (WL.assign rfl rfl (WL.nil (WX.then_normal (WC.seq (WC.seq (WC.region (?_))))))))
  refine WL.move rfl rfl (?_)
  refine WL.eql? rfl rfl rfl (fun h8 => ?_) (fun h8 => ?_)
  ·
    refine WL.move rfl rfl (WL.pass rfl rfl rfl rfl (WL.pass rfl rfl rfl rfl (WL.pickT rfl rfl rfl (WL.nil (WX.then_normal (WC.cond_true rfl (WC.seq (?_))))))))
    refine WC.region (WL.assign rfl rfl (WL.nil (WX.then_normal (WC.ret (WX.then_ret (?_))))))
    refine WX.ret1 (.inl rfl) Tryz.results102 rfl ?_
    exfalso; exact ha (u8_zero h8)
  ·
    refine WL.move rfl rfl (WL.want rfl rfl rfl (WL.move rfl rfl (WL.want rfl rfl rfl (?_))))
    refine WL.eql? rfl rfl rfl (fun h11 => ?_) (fun h11 => ?_)
    ·
      refine WL.pickF rfl rfl rfl (WL.nil (WX.then_normal (WC.cond_true rfl (WC.seq (WC.region (WL.assign rfl rfl (WL.nil (?_))))))))
      refine WX.then_normal (WC.ret (WX.then_ret (?_)))
      refine WX.ret1 (.inl rfl) Tryz.results102 rfl ?_
      exfalso; exact hb (u8_zero h11)
    ·
      refine WL.pickF rfl rfl rfl (WL.nil (WX.then_normal (WC.cond_false rfl (WC.skip (WX.then_normal (WC.seq (WC.region (?_))))))))
      refine WL.move rfl rfl (?_)
      refine WL.call eg_106 rfl rfl (ready_calls hF) ?_
      rintro v w2 ⟨rfl, hR, k⟩
      have zs_k := k.size
      replace hw := hw.chg k (by intro x h1 h2; exact h2)
      refine WL.assign rfl rfl (WL.nil (WX.then_normal (WC.seq (?_))))
      refine WC.draw (Nob) [0, 1, 2, 3, 4, 5, 6, 7, 8, 9, 10, 11, 12, 13, 14, 15, 16, 17, 18] [] mixed rfl rfl (fun wd_1 kd_1 zd_1 => ?_)
      have zs_kd_1 := kd_1.size
      replace hw := hw.pure kd_1
      replace hR := hR.pure kd_1
      apply DQ.step (E' := [(0, _)])
      case ho => rfl
      case hs => exact ⟨rfl, trivial⟩
      case hk => rfl
      case h1 =>
        intro wq_2 kq_2
        refine WL.move rfl rfl (?_)
        refine WL.nil ?_
        exact WX.one ⟨rfl, by exact Chg.refl _ _⟩
      apply DQ.step (E' := [(0, _)])
      case ho => rfl
      case hs => exact ⟨rfl, trivial⟩
      case hk => rfl
      case h1 =>
        intro wq_3 kq_3
        refine WL.move rfl rfl (?_)
        refine WL.nil ?_
        exact WX.one ⟨rfl, by exact Chg.refl _ _⟩
      apply DQ.step (E' := [(1, _)])
      case ho => rfl
      case hs => exact ⟨rfl, trivial⟩
      case hk => rfl
      case h1 =>
        intro wq_4 kq_4
        refine WL.move rfl rfl (?_)
        refine WL.nil ?_
        exact WX.one ⟨rfl, by exact Chg.refl _ _⟩
      apply DQ.step (E' := [(16, _)])
      case ho => rfl
      case hs => exact ⟨rfl, trivial⟩
      case hk => rfl
      case h1 =>
        intro wq_5 kq_5
        refine WL.nilCheck rfl rfl (?_)
        refine WL.nil ?_
        exact WX.one ⟨rfl, by exact Chg.refl _ _⟩
      apply DQ.step (E' := [(18, _)])
      case ho => rfl
      case hs => exact ⟨rfl, trivial⟩
      case hk => rfl
      case h1 =>
        intro wq_6 kq_6
        refine WL.fieldAddr (fld_146_2) rfl rfl (?_)
        refine WL.nil ?_
        exact WX.one ⟨rfl, by exact Chg.refl _ _⟩
      apply DQ.step (E' := [(19, _), (17, _)])
      case ho => rfl
      case hs => exact ⟨rfl, rfl, trivial⟩
      case hk => rfl
      case h1 =>
        intro wq_7 kq_7
        have zs_kq_7 := kq_7.size
        replace hw := hw.pure kq_7
        replace hR := hR.pure kq_7
        refine WL.indexArrO a.toNat Tryz.underlying144 Tryz.sizeOf3 rfl rfl ⟨rfl, a.toNat_lt⟩ rfl ?_
        refine WL.nil ?_
        exact WX.one ⟨rfl, by exact Chg.refl _ _⟩
      apply DQ.step (E' := [(20, _)])
      case ho => rfl
      case hs => exact ⟨rfl, trivial⟩
      case hk => rfl
      case h1 =>
        intro wq_8 kq_8
        have zs_kq_8 := kq_8.size
        replace hw := hw.pure kq_8
        replace hR := hR.pure kq_8
        refine WL.loadB Tryz.isAgg3 hR rfl (FR_l a) rfl ?_
        refine WL.nil ?_
        exact WX.one ⟨rfl, by exact Chg.refl _ _⟩
      apply DQ.step (E' := [(0, _)])
      case ho => rfl
      case hs => exact ⟨rfl, trivial⟩
      case hk => rfl
      case h1 =>
        intro wq_9 kq_9
        refine WL.move rfl rfl (?_)
        refine WL.nil ?_
        exact WX.one ⟨rfl, by exact Chg.refl _ _⟩
      apply DQ.step (E' := [(2, _)])
      case ho => rfl
      case hs => exact ⟨rfl, trivial⟩
      case hk => rfl
      case h1 =>
        intro wq_10 kq_10
        refine WL.move rfl rfl (?_)
        refine WL.nil ?_
        exact WX.one ⟨rfl, by exact Chg.refl _ _⟩
      apply DQ.step (E' := [(22, _)])
      case ho => rfl
      case hs => exact ⟨rfl, trivial⟩
      case hk => rfl
      case h1 =>
        intro wq_11 kq_11
        refine WL.nilCheck rfl rfl (?_)
        refine WL.nil ?_
        exact WX.one ⟨rfl, by exact Chg.refl _ _⟩
      apply DQ.step (E' := [(24, _)])
      case ho => rfl
      case hs => exact ⟨rfl, trivial⟩
      case hk => rfl
      case h1 =>
        intro wq_12 kq_12
        refine WL.fieldAddr (fld_146_2) rfl rfl (?_)
        refine WL.nil ?_
        exact WX.one ⟨rfl, by exact Chg.refl _ _⟩
      apply DQ.step (E' := [(25, _), (23, _)])
      case ho => rfl
      case hs => exact ⟨rfl, rfl, trivial⟩
      case hk => rfl
      case h1 =>
        intro wq_13 kq_13
        have zs_kq_13 := kq_13.size
        replace hw := hw.pure kq_13
        replace hR := hR.pure kq_13
        refine WL.indexArrO b.toNat Tryz.underlying144 Tryz.sizeOf3 rfl rfl ⟨rfl, b.toNat_lt⟩ rfl ?_
        refine WL.nil ?_
        exact WX.one ⟨rfl, by exact Chg.refl _ _⟩
      apply DQ.step (E' := [(26, _)])
      case ho => rfl
      case hs => exact ⟨rfl, trivial⟩
      case hk => rfl
      case h1 =>
        intro wq_14 kq_14
        have zs_kq_14 := kq_14.size
        replace hw := hw.pure kq_14
        replace hR := hR.pure kq_14
        refine WL.loadB Tryz.isAgg3 hR rfl (FR_l b) rfl ?_
        refine WL.nil ?_
        exact WX.one ⟨rfl, by exact Chg.refl _ _⟩
      apply DQ.step (E' := [(21, _), (27, _)])
      case ho => rfl
      case hs => exact ⟨rfl, rfl, trivial⟩
      case hk => rfl
      case h1 =>
        intro wq_15 kq_15
        refine WL.add64 rfl rfl (by omega) rfl (?_)
        refine WL.nil ?_
        exact WX.one ⟨rfl, by exact Chg.refl _ _⟩
      apply DQ.step (E' := [(15, _)])
      case ho => rfl
      case hs => exact ⟨rfl, trivial⟩
      case hk => rfl
      case h1 =>
        intro wq_16 kq_16
        refine WL.nilCheck rfl rfl (?_)
        refine WL.nil ?_
        exact WX.one ⟨rfl, by exact Chg.refl _ _⟩
      apply DQ.step (E' := [(29, _)])
      case ho => rfl
      case hs => exact ⟨rfl, trivial⟩
      case hk => rfl
      case h1 =>
        intro wq_17 kq_17
        refine WL.fieldAddr (fld_146_1) rfl rfl (?_)
        refine WL.nil ?_
        exact WX.one ⟨rfl, by exact Chg.refl _ _⟩
      apply DQ.step (E' := [(30, _), (28, _)])
      case ho => rfl
      case hs => exact ⟨rfl, rfl, trivial⟩
      case hk => rfl
      case h1 =>
        intro wq_18 kq_18
        have zs_kq_18 := kq_18.size
        replace hw := hw.pure kq_18
        replace hR := hR.pure kq_18
        refine WL.indexArrO (L a + L b) Tryz.underlying143 Tryz.sizeOf5 rfl rfl ⟨by omega, by omega⟩ rfl ?_
        refine WL.nil ?_
        exact WX.one ⟨rfl, by exact Chg.refl _ _⟩
      apply DQ.step (E' := [(31, _)])
      case ho => rfl
      case hs => exact ⟨rfl, trivial⟩
      case hk => rfl
      case h1 =>
        intro wq_19 kq_19
        have zs_kq_19 := kq_19.size
        replace hw := hw.pure kq_19
        replace hR := hR.pure kq_19
        refine WL.loadB Tryz.isAgg5 hR rfl (FR_e (by omega)) rfl ?_
        refine WL.nil ?_
        exact WX.one ⟨rfl, by exact Chg.refl _ _⟩
      apply DQ.step (E' := [(32, _)])
      case ho => rfl
      case hs => exact ⟨rfl, trivial⟩
      case hk => rfl
      case h1 =>
        intro wq_20 kq_20
        refine WL.assign rfl rfl (?_)
        refine WL.nil ?_
        exact WX.one ⟨rfl, by exact Chg.refl _ _⟩
      refine DQ.done (fun _ => ?_)
      refine DL.done (fun we_21 ke_21 => ?_)
      have zs_ke_21 := ke_21.size
      replace hw := hw.pure ke_21
      replace hR := hR.pure ke_21
      refine WX.then_normal (WC.ret (?_))
      refine WX.ret1 (.inl rfl) Tryz.results102 rfl ?_
      refine ⟨_, rfl, ?_, hR, hw⟩
      rw [mul, if_neg (by rintro (h | h); exact u8_ne h8 h; exact u8_ne h11 h)]
set_option maxRecDepth 100000 in
theorem powR_two (m : Nat) : powR 2 (m : Int) = (G m, 0) := by
  have hL : L 2 = 1 := by decide +kernel
  rw [powR, if_neg (by omega)]
  by_cases hm : (m : Int) = 0
  · rw [if_pos hm, show m = 0 from by omega, G_zero]
  · rw [if_neg hm, if_neg (by decide), hL, Int.toNat_natCast, Nat.one_mul, Nat.mod_mod, G]
theorem weights_calls {w : World} {g : Nat} (hF : Fld w g) (i : Nat) : Calls Tryz.prog 100 [.pointer (some ⟨g, 0, none⟩), vi i].toArray w (Ret fun v w' => v = .agg ([wtq 0 i, wtq 1 i, wtq 2 i].map v8).toArray ∧ Blk w' g 146 FR ∧ Chg (fun x => x = g) w w') := by
  have hw := Chg.refl (fun x => x = g) w
  have lg := hF.lt
  refine Calls.of_WC Tryz.func100 rfl Tryz.ntmps100 (by simp) ?_
  refine WC.seq (WC.region (?_))
  refine WL.alloc Tryz.zeroValue167 rfl ?_
  intro g_1 w_1 hge_1 hlt_1 hb_1 k_1
  have zs_k_1 := k_1.size
  replace hF := hF.pure k_1
  replace hw := hw.pure k_1
  refine WL.nil (WX.then_normal (WC.seq (WC.region (WL.move rfl rfl (WL.move rfl rfl (?_))))))
  refine WL.call eg_104 rfl rfl (pow_calls hF 2 i) ?_
  rintro v w1 ⟨rfl, hF2, k⟩
  rw [powR_two]
  have zs_k := k.size
  replace hw := hw.chg k (by intro x h1 h2; exact h2)
  replace hb_1 := hb_1.chg k (by intro h1; have h2 : _ = _ := h1; exfalso; omega)
  replace hF := hF2
  refine WL.move rfl rfl (WL.extract rfl rfl rfl (WL.extract rfl rfl rfl (WL.assign rfl rfl (WL.assign rfl rfl (WL.nil (WX.then_normal (WC.seq (?_))))))))
  refine WC.region (WL.move rfl rfl (WL.move rfl rfl (WL.move rfl rfl (WL.move rfl rfl (?_)))))
  refine WL.call eg_102 rfl rfl (mulT_calls hF (G i) (G i) (G_ne i) (G_ne i)) ?_
  rintro v w1 ⟨rfl, hR, k⟩
  have zs_k := k.size
  replace hw := hw.chg k (by intro x h1 h2; exact h2)
  replace hb_1 := hb_1.chg k (by intro h1; have h2 : _ = _ := h1; exfalso; omega)
  refine WL.bld rfl (bld_167_0_1_2 _ _ _) rfl (?_)
  refine WL.stores Tryz.sizeOf167 hb_1 rfl rfl (by simp; done) (by simp [Value.oneCell']; done) (by simp [Value.cells]; done) rfl ?_
  intro w_2 hs_2 hn_2 k_2
  have zs_k_2 := k_2.size
  replace hw := hw.chg k_2 (by intro x h1 h2; have h3 : _ = _ := h2; exfalso; omega)
  replace hR := hR.chg k_2 (by intro h1; have h2 : _ = _ := h1; exfalso; omega)
  replace hb_1 := hn_2
  refine WL.nil (WX.then_normal (WC.ret (?_)))
  refine WX.ret1c (.inl rfl) Tryz.results100 Tryz.isAgg167 Tryz.sizeOf167 hb_1 rfl (by rfl) ?_
  exact ⟨_, rfl, rfl, hR, hw⟩
end Go.Proofs.YtggecdldnpildaaGreat
