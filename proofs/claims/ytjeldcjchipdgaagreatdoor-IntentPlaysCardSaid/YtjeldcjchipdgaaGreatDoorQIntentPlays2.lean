import Derived.Laws.ResultCell
import Derived.Test.YtjeldcjchipdgaaGreatDoorProg
import Derived.MapKept
import Derived.Laws.CopyRow
import Derived.Test.YtjeldcjchipdgaaGreatDoorQIntentPlays1
namespace Go.HL
open Go.RowKit
section
variable {P : Program} (t : TypeId) (w : World)
end
section
variable {P : Program} {ops : Array Oper} {Q : Exit → Act → World → Prop} {N : Nat} {E : Env} {w : World} {rest : List Oper} {ty : TypeId} {pos : String} {af : Array Edge} {α : Type} {e : Enc α} {S : Nat → Prop} {t T : TypeId} {x y : Operand}
theorem all_set (e : Enc α) (h1 : e.sz = 1) {z : α} {v : Value} (hz : e.f z = [v]) : ∀ (xs : List α) (j : Nat), e.all (xs.set j z) = (e.all xs).set j v
 |[], j => by simp [Enc.all]
 |x :: r, 0 => by
  have hl := e.len x
  rw [h1] at hl
  obtain ⟨u, hu⟩ := List.length_eq_one_iff.1 hl
  simp [Enc.all, hz, hu]
 |x :: r, j + 1 => by
  have hl := e.len x
  rw [h1] at hl
  obtain ⟨u, hu⟩ := List.length_eq_one_iff.1 hl
  have ih := all_set e h1 hz r j
  simp only [Enc.all] at ih
  simp [Enc.all, hu, ih]
theorem Row.place0 {T : TypeId} {ao : Option Addr} {c : Nat} {xs : List α} {j : Nat} (hr : Row S w T e ao c xs) (hz : j < xs.length) : ∃ g, ao = some ⟨g, 0, none⟩ := by
 rcases hr.own.2.2 with ⟨rfl, _⟩ | ⟨g, _, _, rfl, _⟩
 ·have := hr.rsl.none_nil
  subst this
  simp at hz
 ·exact ⟨g, rfl⟩
theorem WL.qx {g o c : Nat} {xs : List α} {z : α} {v : Value} (j : Nat) (hs : ∀ w, (sizeOf t).run P w = .ok 1 w) (hr : Row S w T e (some ⟨g, 0, none⟩) c xs) (h1 : e.sz = 1) (hz : e.f z = [v]) (hx : ev E x = some (.pointer (some ⟨g, o, none⟩))) (ho : o = j) (hj : j < xs.length) (hy : ev E y = some v)
 (h : ∀ w', w'.heap.size = w.heap.size → Row S w' T e (some ⟨g, 0, none⟩) c (xs.set j z) → Chg (· = g) w w' → WL P ops Q N rest E w') :
 WL P ops Q N (⟨none, .store t x y, ty, pos, af, none⟩ :: rest) E w := by
 subst ho
 have hv1 : v.oneCell' = true := e.one z v (by rw [hz]; simp)
 obtain ⟨hat, hlen, hcap, hc | ⟨g', cur, fr, hg', hg, hfr, hmax, hsz, htk⟩⟩ := hr
 ·cases hc.1
 ·cases hg'
  rw [h1] at hsz htk hlen
  simp only [Nat.mul_one] at hsz htk hlen
  have hoc : o < cur.size := by omega
  refine WL.run0 (w.setCell ⟨g, o, none⟩ v) (fun a hh => by
   have hst : (Go.store ⟨g, o, none⟩ v).run P w = .ok () (w.setCell ⟨g, o, none⟩ v) := by
    rw [run_store P w _ v _ hv1]
    have h3 := hfr o hoc
    have hcell : w.cell? ⟨g, o, none⟩ = some (cur[o]'hoc) := by rw [cell_of_row w g o cur T fr hg, Array.getElem?_eq_getElem hoc]
    have hfz : w.frozen? ⟨g, o, none⟩ = false := by
     simp only [World.frozen?, hg]
     simp
     intro hh
     exact Nat.le_of_not_lt (fun hlt => h3 ⟨hh, hlt⟩)
    simp [hcell, hfz]
   have hc1 : v.cells = #[v] := by cases v <;> simp_all [Value.oneCell', Value.cells]
   simp [execOp, ev_eval hh hx, ev_eval hh hy, Instr.storeAt, Instr.sureAddr, storeVar, hs, hc1, storeCells, Addr.add_lit, hst]) (h _ (by simp) ?_ (Chg.setCell w ⟨g, o, none⟩ v))
  have hnew : (w.setCell ⟨g, o, none⟩ v).heap[g]? = some (.cells (cur.setIfInBounds o v) T fr) := by
   simp only [World.setCell, Array.getElem?_modify, hg, if_true, Option.map_some]
   simp
  refine ⟨hat, by rw [all_set e h1 hz, List.length_set, List.length_set, h1, Nat.mul_one]; exact hlen, by simpa using hcap, .inr ⟨g, cur.setIfInBounds o v, fr, rfl, hnew, by simpa using hfr, hmax, by rw [h1, Nat.mul_one]; simpa using hsz, ?_⟩⟩
  rw [all_set e h1 hz, h1, List.length_set, Nat.mul_one, ← htk, Array.toList_setIfInBounds, List.take_set]
end
end Go.HL
namespace Go.HL
open Go.RowKit
section
variable {P : Program} {ops : Array Oper} {Q : Exit → Act → World → Prop} {N : Nat} {E : Env} {w : World} {rest : List Oper} {ty : TypeId} {pos : String} {af : Array Edge} {d : Nat} {α : Type} {e : Enc α} {S : Nat → Prop} {t T : TypeId} {x y : Operand}
theorem WL.append' {tx : TypeId} {s : Operand} {ao : Option Addr} {c bytes : Nat} {xs ys : List α} {z v : Value} (hinfo : (P.info? T).map (fun i => (i.zero, i.size, i.bytes)) = some (some z, e.sz, bytes)) (hzs : z.cells.size = e.sz)
 (ht : P.underlying t = some (.slice T)) (hs : ev E s = some (.slice ao xs.length c)) (hx : ev E x = some v) (ho : Row S w T e ao c xs) (hsrc : Src P e.sz tx v ys.length (e.all ys) w)
 (hb : (xs.length + ys.length) * bytes ≤ 140737488355328 ∧ xs.length + ys.length ≤ 9223372036854775807) (hS : ∀ b, w.heap.size ≤ b → S b) (hd : Nat.blt d N = true)
 (h : ∀ ao2 c2 w', Row S w' T e ao2 c2 (xs ++ ys) → Grow S w ao w' ao2 → (ao2 = none → xs ++ ys = []) → RSl S w' e ao c xs → WL P ops Q N rest ((d, .slice ao2 (xs ++ ys).length c2) :: E) w') :
 WL P ops Q N (⟨some d, .call ⟨.builtin .append, #[s, x], #[t, tx]⟩, ty, pos, af, none⟩ :: rest) E w := by
 obtain ⟨i, hi, h1, h2, h3⟩ := info_parts hinfo
 obtain ⟨ao', c', w', hr, how, hc, hor, hno⟩ := run_append_hl (P := P) w t tx ty T i z e.sz bytes ht hi h1 h2 h3 hzs ao xs.length c (e.all xs) ho.own v ys.length (e.all ys) hsrc (by simpa [maxLen] using hb.2) hb.1
 refine WL.run _ w' (fun a ha => by simp [execOp, resolve, invoke, builtin, ev_eval ha hs, ev_eval ha hx, hr]; rfl) hd ?_
 rw [← List.length_append]
 have hrow : Row S w' T e ao' c' (xs ++ ys) := ⟨by
  rcases hor with rfl | h5
  ·exact ho.at_
  ·exact h5.mono hS, by rw [List.length_append, Enc.all_append]; exact how⟩
 refine h ao' c' w' hrow ⟨hc.mono fun b _ hb => ⟨hb.1, ho.at_.eqb hb.1⟩, hor⟩ (fun hn => ?_) ?_
 ·obtain ⟨rfl, h6⟩ := hno hn
  have h7 := ho.rsl.none_nil
  subst h7
  simpa using h6
 ·by_cases he : ao' = ao
  ·subst he
   have := hrow.rsl.take xs.length (by simp)
   rw [List.take_left] at this
   exact ⟨this.at_, ho.rsl.cap, this.sl⟩
  ·exact ho.rsl.chg hc (fun b _ _ h9 => he h9.2)
end
end Go.HL
namespace Go.HL
open Go.RowKit
structure Rw where
 ao : Option Addr
 cap : Nat
 xs : List UInt8
section
variable {S : Nat → Prop} {w w' : World} {ao : Option Addr} {c : Nat} {rs : List Rw} {M : Nat → Prop}
end
end Go.HL
namespace Go.HL
open Go.ChangeShapes Go.WideShapes Go.ChangeAt Go.RowKit Go.Deep
section
variable {H : Type} {enc : TypeId × Value → H} {P : Program} {W : World} {α : Type}
theorem open_trod {t T : TypeId} (ht : P.underlying t = some (.slice T)) (e : Enc α) (WF : α → DataW H → Prop) (hC : P.cellsOf T = e.sz)
 (hel : ∀ (n : Nat) (cs : List Value) (y : DataW H × List MemPlace), cs.length = e.sz → (∀ (q : Nat) (v : Value), cs[q]? = some v → True) → DataW.trod enc P W 0 (fun _ => true) true n T cs = some y → ∃ x, cs = e.f x ∧ WF x y.1)
 {fuel : Nat} {cs0 : List Value} {y0 : DataW H × List MemPlace} (hf : DataW.trod enc P W 0 (fun _ => true) true fuel t cs0 = some y0) :
 ∃ (ao : Option Addr) (c : Nat) (xs : List α), cs0 = [.slice ao xs.length c] ∧ RSl (· < W.heap.size) W e ao c xs ∧ (y0.1 = .nil ∧ xs = [] ∨ ∃ el sp, y0.1 = .slice el sp ∧ xs.length = el.length ∧ ∀ (i : Nat) (x : α), xs[i]? = some x → ∃ d, el[i]? = some d ∧ WF x d) := by
 rcases open_slice ht hf with ⟨hcs, hx⟩ | ⟨a, len0, cap0, m, n, D, Pl, hcs, hb, hl, hm, hmm, hx, hi⟩
 ·exact ⟨none, 0, [], hcs, RSl.nil _ _ _ _ _, .inl ⟨congrArg Prod.fst hx, rfl⟩⟩
 ·simp only [if_true] at hmm
  subst hmm
  obtain ⟨X, hX⟩ := choose_lt (α := Option α) (n := len0) (p := fun i x => ∃ z, x = some z ∧ WF z (D i) ∧ ∀ q u, (e.f z)[q]? = some u → W.cell? ((a.add (i * e.sz)).add q) = some u) (fun i hil => by
   obtain ⟨cs', h1, h2⟩ := hi i (by omega)
   rw [hC] at h1
   obtain ⟨_, hlen, hat⟩ := World.cells?_some h1
   obtain ⟨z, rfl, hz⟩ := hel n cs' _ hlen (fun _ _ _ => trivial) h2
   refine ⟨some z, z, rfl, hz, fun q u hq => ?_⟩
   have hql := (List.getElem?_eq_some_iff.1 hq).1
   rw [hat q (by rw [← hlen]; exact hql)]
   exact hq)
  have hlx : ∀ (k : Nat), k ≤ len0 → ∃ xs : List α, xs.length = k ∧ ∀ i, i < k → ∃ z, xs[i]? = some z ∧ X i = some z := by
   intro k
   induction k with
   |zero => intro _; exact ⟨[], rfl, fun i hi => by omega⟩
   |succ k ih =>
    intro hk
    obtain ⟨xs, hxl, hxs⟩ := ih (by omega)
    obtain ⟨z, hz, _⟩ := hX k (by omega)
    refine ⟨xs ++ [z], by simp [hxl], fun i hi => ?_⟩
    by_cases e : i = k
    ·subst e; exact ⟨z, by simp [← hxl], hz⟩
    ·obtain ⟨y, h1, h2⟩ := hxs i (by omega)
     exact ⟨y, by rw [List.getElem?_append_left (by omega)]; exact h1, h2⟩
  obtain ⟨xs, hxl, hxs⟩ := hlx len0 (Nat.le_refl _)
  have hmem : ∀ (i : Nat) (x : α), xs[i]? = some x → ∃ d, ((List.range len0).map D)[i]? = some d ∧ WF x d := by
   intro i x hx
   have hil : i < len0 := by rw [← hxl]; exact (List.getElem?_eq_some_iff.1 hx).1
   obtain ⟨z, h1, h2⟩ := hxs i hil
   obtain ⟨z', h3, h4, _⟩ := hX i hil
   rw [h2] at h3; injection h3 with h3; subst h3
   rw [hx] at h1; injection h1 with h1; subst h1
   exact ⟨D i, by simp [hil], h4⟩
  have hspot : xs ≠ [] → ∃ b off, a = ⟨b, off, none⟩ := by
   intro hne
   have hpos : 0 < len0 := by rw [← hxl]; exact List.length_pos_iff.2 hne
   obtain ⟨z, _, _, hc⟩ := hX 0 hpos
   have hq : (e.f z)[0]? = some ((e.f z)[0]'(by rw [e.len]; exact e.pos)) := List.getElem?_eq_getElem _
   have h1 := hc 0 _ hq
   rw [Nat.zero_mul] at h1
   have h2 : ((a.add 0).add 0) = a := by simp [Addr.add]
   rw [h2] at h1
   unfold World.cell? at h1
   obtain ⟨b, off, sp⟩ := a
   cases sp with
   |none => exact ⟨b, off, rfl⟩
   |some s => simp at h1; split at h1 <;> simp at h1
  have hcell : ∀ j u, (e.all xs)[j]? = some u → ∃ b off, (some a) = some (⟨b, off, none⟩ : Addr) ∧ W.cell? ⟨b, off + j, none⟩ = some u := by
   intro j u hj
   have hjl := (List.getElem?_eq_some_iff.1 hj).1
   rw [Enc.all_len, hxl] at hjl
   have hil : j / e.sz < len0 := Nat.div_lt_of_lt_mul (by rw [Nat.mul_comm]; exact hjl)
   obtain ⟨z, h1, h2⟩ := hxs (j / e.sz) hil
   obtain ⟨z', h3, _, h4⟩ := hX (j / e.sz) hil
   rw [h2] at h3; injection h3 with h3; subst h3
   have hdm : j / e.sz * e.sz + j % e.sz = j := by rw [Nat.mul_comm]; exact Nat.div_add_mod j e.sz
   have hq : j % e.sz < e.sz := Nat.mod_lt _ e.pos
   have h5 := e.all_at h1 hq
   rw [hdm, hj] at h5
   obtain ⟨b, off, rfl⟩ := hspot (by rintro rfl; rw [← hxl] at hil; exact absurd hil (Nat.not_lt_zero _))
   refine ⟨b, off, rfl, ?_⟩
   have h6 := h4 (j % e.sz) u h5.symm
   rw [Addr.add_lit, Addr.add_lit] at h6
   rwa [Nat.add_assoc, hdm] at h6
  refine ⟨some a, m, xs, by rw [hxl]; exact hcs, ⟨fun hne a' ea => ?_, by omega, Enc.all_len _ _, hcell⟩, .inr ⟨_, _, congrArg Prod.fst hx, by simp [hxl], hmem⟩⟩
  injection ea with ea
  subst ea
  have hl0 : 0 < (e.all xs).length := by rw [Enc.all_len]; exact Nat.mul_pos (List.length_pos_iff.2 hne) e.pos
  obtain ⟨b, off, h1, h2⟩ := hcell 0 _ (List.getElem?_eq_getElem hl0)
  injection h1 with h1
  subst h1
  exact World.block_lt_of_cell? W _ h2
theorem weightsAll_mem {e : TypeId} : ∀ {l : List (DataW H)} {i : Nat} {d : DataW H}, l[i]? = some d → ∀ x ∈ d.weights P e, x ∈ DataW.weightsAll P e l
 |[], i, d, h, x, hx => by simp at h
 |c :: r, 0, d, h, x, hx => by
  simp at h
  subst h
  simp [DataW.weightsAll, hx]
 |c :: r, i + 1, d, h, x, hx => by
  have := weightsAll_mem (l := r) (i := i) (by simpa using h) x hx
  simp [DataW.weightsAll, this]
end
end Go.HL
namespace Go.Proofs.YtjeldcjchipdgaaGreatDoor
open Go.RowKit Go.HL
set_option maxRecDepth 100000
theorem eg_6 : EG Tryz.prog 6 := eg_of Tryz.func6 (by kernel_rfl) rfl
theorem eg_7 : EG Tryz.prog 7 := eg_of Tryz.func7 (by kernel_rfl) rfl
theorem eg_11 : EG Tryz.prog 11 := eg_of Tryz.func11 (by kernel_rfl) rfl
theorem eg_12 : EG Tryz.prog 12 := eg_of Tryz.func12 (by kernel_rfl) rfl
theorem eg_13 : EG Tryz.prog 13 := eg_of Tryz.func13 (by kernel_rfl) rfl
theorem eg_14 : EG Tryz.prog 14 := eg_of Tryz.func14 (by kernel_rfl) rfl
theorem eg_15 : EG Tryz.prog 15 := eg_of Tryz.func15 (by kernel_rfl) rfl
theorem eg_16 : EG Tryz.prog 16 := eg_of Tryz.func16 (by kernel_rfl) rfl
theorem eg_17 : EG Tryz.prog 17 := eg_of Tryz.func17 (by kernel_rfl) rfl
theorem eg_18 : EG Tryz.prog 18 := eg_of Tryz.func18 (by kernel_rfl) rfl
theorem eg_19 : EG Tryz.prog 19 := eg_of Tryz.func19 (by kernel_rfl) rfl
theorem eg_20 : EG Tryz.prog 20 := eg_of Tryz.func20 (by kernel_rfl) rfl
theorem eg_22 : EG Tryz.prog 22 := eg_of Tryz.func22 (by kernel_rfl) rfl
theorem eg_23 : EG Tryz.prog 23 := eg_of Tryz.func23 (by kernel_rfl) rfl
theorem eg_24 : EG Tryz.prog 24 := eg_of Tryz.func24 (by kernel_rfl) rfl
theorem eg_25 : EG Tryz.prog 25 := eg_of Tryz.func25 (by kernel_rfl) rfl
theorem eg_31 : EG Tryz.prog 31 := eg_of Tryz.func31 (by kernel_rfl) rfl
theorem eg_32 : EG Tryz.prog 32 := eg_of Tryz.func32 (by kernel_rfl) rfl
theorem eg_33 : EG Tryz.prog 33 := eg_of Tryz.func33 (by kernel_rfl) rfl
theorem eg_34 : EG Tryz.prog 34 := eg_of Tryz.func34 (by kernel_rfl) rfl
theorem eg_35 : EG Tryz.prog 35 := eg_of Tryz.func35 (by kernel_rfl) rfl
theorem eg_36 : EG Tryz.prog 36 := eg_of Tryz.func36 (by kernel_rfl) rfl
theorem eg_37 : EG Tryz.prog 37 := eg_of Tryz.func37 (by kernel_rfl) rfl
theorem eg_38 : EG Tryz.prog 38 := eg_of Tryz.func38 (by kernel_rfl) rfl
theorem eg_39 : EG Tryz.prog 39 := eg_of Tryz.func39 (by kernel_rfl) rfl
theorem eg_40 : EG Tryz.prog 40 := eg_of Tryz.func40 (by kernel_rfl) rfl
theorem eg_41 : EG Tryz.prog 41 := eg_of Tryz.func41 (by kernel_rfl) rfl
theorem eg_42 : EG Tryz.prog 42 := eg_of Tryz.func42 (by kernel_rfl) rfl
theorem eg_43 : EG Tryz.prog 43 := eg_of Tryz.func43 (by kernel_rfl) rfl
theorem eg_44 : EG Tryz.prog 44 := eg_of Tryz.func44 (by kernel_rfl) rfl
theorem eg_45 : EG Tryz.prog 45 := eg_of Tryz.func45 (by kernel_rfl) rfl
theorem eg_46 : EG Tryz.prog 46 := eg_of Tryz.func46 (by kernel_rfl) rfl
theorem eg_49 : EG Tryz.prog 49 := eg_of Tryz.func49 (by kernel_rfl) rfl
theorem eg_51 : EG Tryz.prog 51 := eg_of Tryz.func51 (by kernel_rfl) rfl
theorem eg_52 : EG Tryz.prog 52 := eg_of Tryz.func52 (by kernel_rfl) rfl
theorem eg_53 : EG Tryz.prog 53 := eg_of Tryz.func53 (by kernel_rfl) rfl
theorem eg_54 : EG Tryz.prog 54 := eg_of Tryz.func54 (by kernel_rfl) rfl
theorem eg_55 : EG Tryz.prog 55 := eg_of Tryz.func55 (by kernel_rfl) rfl
theorem eg_56 : EG Tryz.prog 56 := eg_of Tryz.func56 (by kernel_rfl) rfl
theorem eg_57 : EG Tryz.prog 57 := eg_of Tryz.func57 (by kernel_rfl) rfl
theorem eg_58 : EG Tryz.prog 58 := eg_of Tryz.func58 (by kernel_rfl) rfl
theorem eg_59 : EG Tryz.prog 59 := eg_of Tryz.func59 (by kernel_rfl) rfl
theorem eg_60 : EG Tryz.prog 60 := eg_of Tryz.func60 (by kernel_rfl) rfl
theorem eg_61 : EG Tryz.prog 61 := eg_of Tryz.func61 (by kernel_rfl) rfl
theorem eg_62 : EG Tryz.prog 62 := eg_of Tryz.func62 (by kernel_rfl) rfl
theorem eg_63 : EG Tryz.prog 63 := eg_of Tryz.func63 (by kernel_rfl) rfl
theorem eg_64 : EG Tryz.prog 64 := eg_of Tryz.func64 (by kernel_rfl) rfl
theorem eg_66 : EG Tryz.prog 66 := eg_of Tryz.func66 (by kernel_rfl) rfl
theorem eg_69 : EG Tryz.prog 69 := eg_of Tryz.func69 (by kernel_rfl) rfl
theorem eg_70 : EG Tryz.prog 70 := eg_of Tryz.func70 (by kernel_rfl) rfl
theorem eg_71 : EG Tryz.prog 71 := eg_of Tryz.func71 (by kernel_rfl) rfl
theorem eg_72 : EG Tryz.prog 72 := eg_of Tryz.func72 (by kernel_rfl) rfl
theorem eg_73 : EG Tryz.prog 73 := eg_of Tryz.func73 (by kernel_rfl) rfl
theorem eg_74 : EG Tryz.prog 74 := eg_of Tryz.func74 (by kernel_rfl) rfl
theorem eg_75 : EG Tryz.prog 75 := eg_of Tryz.func75 (by kernel_rfl) rfl
theorem eg_76 : EG Tryz.prog 76 := eg_of Tryz.func76 (by kernel_rfl) rfl
theorem eg_78 : EG Tryz.prog 78 := eg_of Tryz.func78 (by kernel_rfl) rfl
theorem eg_79 : EG Tryz.prog 79 := eg_of Tryz.func79 (by kernel_rfl) rfl
theorem eg_80 : EG Tryz.prog 80 := eg_of Tryz.func80 (by kernel_rfl) rfl
theorem eg_82 : EG Tryz.prog 82 := eg_of Tryz.func82 (by kernel_rfl) rfl
theorem eg_84 : EG Tryz.prog 84 := eg_of Tryz.func84 (by kernel_rfl) rfl
theorem eg_85 : EG Tryz.prog 85 := eg_of Tryz.func85 (by kernel_rfl) rfl
theorem eg_86 : EG Tryz.prog 86 := eg_of Tryz.func86 (by kernel_rfl) rfl
theorem eg_88 : EG Tryz.prog 88 := eg_of Tryz.func88 (by kernel_rfl) rfl
theorem eg_90 : EG Tryz.prog 90 := eg_of Tryz.func90 (by kernel_rfl) rfl
theorem eg_91 : EG Tryz.prog 91 := eg_of Tryz.func91 (by kernel_rfl) rfl
theorem eg_92 : EG Tryz.prog 92 := eg_of Tryz.func92 (by kernel_rfl) rfl
theorem eg_93 : EG Tryz.prog 93 := eg_of Tryz.func93 (by kernel_rfl) rfl
theorem eg_94 : EG Tryz.prog 94 := eg_of Tryz.func94 (by kernel_rfl) rfl
theorem eg_95 : EG Tryz.prog 95 := eg_of Tryz.func95 (by kernel_rfl) rfl
theorem eg_96 : EG Tryz.prog 96 := eg_of Tryz.func96 (by kernel_rfl) rfl
theorem eg_97 : EG Tryz.prog 97 := eg_of Tryz.func97 (by kernel_rfl) rfl
theorem eg_98 : EG Tryz.prog 98 := eg_of Tryz.func98 (by kernel_rfl) rfl
theorem eg_99 : EG Tryz.prog 99 := eg_of Tryz.func99 (by kernel_rfl) rfl
theorem eg_100 : EG Tryz.prog 100 := eg_of Tryz.func100 (by kernel_rfl) rfl
theorem eg_101 : EG Tryz.prog 101 := eg_of Tryz.func101 (by kernel_rfl) rfl
theorem eg_102 : EG Tryz.prog 102 := eg_of Tryz.func102 (by kernel_rfl) rfl
theorem eg_103 : EG Tryz.prog 103 := eg_of Tryz.func103 (by kernel_rfl) rfl
theorem eg_104 : EG Tryz.prog 104 := eg_of Tryz.func104 (by kernel_rfl) rfl
theorem eg_106 : EG Tryz.prog 106 := eg_of Tryz.func106 (by kernel_rfl) rfl
theorem eg_108 : EG Tryz.prog 108 := eg_of Tryz.func108 (by kernel_rfl) rfl
theorem eg_110 : EG Tryz.prog 110 := eg_of Tryz.func110 (by kernel_rfl) rfl
theorem eg_111 : EG Tryz.prog 111 := eg_of Tryz.func111 (by kernel_rfl) rfl
theorem eg_112 : EG Tryz.prog 112 := eg_of Tryz.func112 (by kernel_rfl) rfl
theorem eg_113 : EG Tryz.prog 113 := eg_of Tryz.func113 (by kernel_rfl) rfl
theorem eg_114 : EG Tryz.prog 114 := eg_of Tryz.func114 (by kernel_rfl) rfl
theorem eg_115 : EG Tryz.prog 115 := eg_of Tryz.func115 (by kernel_rfl) rfl
theorem eg_116 : EG Tryz.prog 116 := eg_of Tryz.func116 (by kernel_rfl) rfl
theorem eg_117 : EG Tryz.prog 117 := eg_of Tryz.func117 (by kernel_rfl) rfl
theorem eg_118 : EG Tryz.prog 118 := eg_of Tryz.func118 (by kernel_rfl) rfl
theorem eg_119 : EG Tryz.prog 119 := eg_of Tryz.func119 (by kernel_rfl) rfl
theorem eg_120 : EG Tryz.prog 120 := eg_of Tryz.func120 (by kernel_rfl) rfl
theorem eg_121 : EG Tryz.prog 121 := eg_of Tryz.func121 (by kernel_rfl) rfl
theorem eg_122 : EG Tryz.prog 122 := eg_of Tryz.func122 (by kernel_rfl) rfl
theorem eg_123 : EG Tryz.prog 123 := eg_of Tryz.func123 (by kernel_rfl) rfl
theorem eg_124 : EG Tryz.prog 124 := eg_of Tryz.func124 (by kernel_rfl) rfl
theorem eg_125 : EG Tryz.prog 125 := eg_of Tryz.func125 (by kernel_rfl) rfl
theorem eg_126 : EG Tryz.prog 126 := eg_of Tryz.func126 (by kernel_rfl) rfl
theorem eg_127 : EG Tryz.prog 127 := eg_of Tryz.func127 (by kernel_rfl) rfl
theorem eg_128 : EG Tryz.prog 128 := eg_of Tryz.func128 (by kernel_rfl) rfl
theorem eg_129 : EG Tryz.prog 129 := eg_of Tryz.func129 (by kernel_rfl) rfl
theorem eg_135 : EG Tryz.prog 135 := eg_of Tryz.func135 (by kernel_rfl) rfl
theorem eg_136 : EG Tryz.prog 136 := eg_of Tryz.func136 (by kernel_rfl) rfl
theorem eg_137 : EG Tryz.prog 137 := eg_of Tryz.func137 (by kernel_rfl) rfl
theorem eg_138 : EG Tryz.prog 138 := eg_of Tryz.func138 (by kernel_rfl) rfl
theorem eg_139 : EG Tryz.prog 139 := eg_of Tryz.func139 (by kernel_rfl) rfl
theorem eg_144 : EG Tryz.prog 144 := eg_of Tryz.func144 (by kernel_rfl) rfl
theorem fld_65_0 (b o : Nat) (w : World) : (Instr.fieldAt 65 (.pointer (some ⟨b, o, none⟩)) 0).run Tryz.prog w = .ok (.pointer (some ⟨b, o + 0, none⟩)) w := by
 simp [Instr.fieldAt, run_underlying Tryz.underlying65, Instr.sureAddr, fieldPlace, Tryz.sizeOf3, Addr.add_lit]
theorem fld_65_1 (b o : Nat) (w : World) : (Instr.fieldAt 65 (.pointer (some ⟨b, o, none⟩)) 1).run Tryz.prog w = .ok (.pointer (some ⟨b, o + 1, none⟩)) w := by
 simp [Instr.fieldAt, run_underlying Tryz.underlying65, Instr.sureAddr, fieldPlace, Tryz.sizeOf3, Addr.add_lit]
theorem fld_65_2 (b o : Nat) (w : World) : (Instr.fieldAt 65 (.pointer (some ⟨b, o, none⟩)) 2).run Tryz.prog w = .ok (.pointer (some ⟨b, o + 2, none⟩)) w := by
 simp [Instr.fieldAt, run_underlying Tryz.underlying65, Instr.sureAddr, fieldPlace, Tryz.sizeOf3, Addr.add_lit]
theorem fld_65_3 (b o : Nat) (w : World) : (Instr.fieldAt 65 (.pointer (some ⟨b, o, none⟩)) 3).run Tryz.prog w = .ok (.pointer (some ⟨b, o + 3, none⟩)) w := by
 simp [Instr.fieldAt, run_underlying Tryz.underlying65, Instr.sureAddr, fieldPlace, Tryz.sizeOf3, Addr.add_lit]
theorem fld_65_4 (b o : Nat) (w : World) : (Instr.fieldAt 65 (.pointer (some ⟨b, o, none⟩)) 4).run Tryz.prog w = .ok (.pointer (some ⟨b, o + 4, none⟩)) w := by
 simp [Instr.fieldAt, run_underlying Tryz.underlying65, Instr.sureAddr, fieldPlace, Tryz.sizeOf63, Addr.add_lit]
theorem fld_78_0 (b o : Nat) (w : World) : (Instr.fieldAt 78 (.pointer (some ⟨b, o, none⟩)) 0).run Tryz.prog w = .ok (.pointer (some ⟨b, o + 0, none⟩)) w := by
 simp [Instr.fieldAt, run_underlying Tryz.underlying78, Instr.sureAddr, fieldPlace, Tryz.sizeOf3, Addr.add_lit]
theorem fld_78_1 (b o : Nat) (w : World) : (Instr.fieldAt 78 (.pointer (some ⟨b, o, none⟩)) 1).run Tryz.prog w = .ok (.pointer (some ⟨b, o + 1, none⟩)) w := by
 simp [Instr.fieldAt, run_underlying Tryz.underlying78, Instr.sureAddr, fieldPlace, Tryz.sizeOf3, Addr.add_lit]
theorem fld_78_2 (b o : Nat) (w : World) : (Instr.fieldAt 78 (.pointer (some ⟨b, o, none⟩)) 2).run Tryz.prog w = .ok (.pointer (some ⟨b, o + 2, none⟩)) w := by
 simp [Instr.fieldAt, run_underlying Tryz.underlying78, Instr.sureAddr, fieldPlace, Tryz.sizeOf3, Addr.add_lit]
theorem fld_78_3 (b o : Nat) (w : World) : (Instr.fieldAt 78 (.pointer (some ⟨b, o, none⟩)) 3).run Tryz.prog w = .ok (.pointer (some ⟨b, o + 3, none⟩)) w := by
 simp [Instr.fieldAt, run_underlying Tryz.underlying78, Instr.sureAddr, fieldPlace, Tryz.sizeOf3, Addr.add_lit]
theorem fld_78_4 (b o : Nat) (w : World) : (Instr.fieldAt 78 (.pointer (some ⟨b, o, none⟩)) 4).run Tryz.prog w = .ok (.pointer (some ⟨b, o + 4, none⟩)) w := by
 simp [Instr.fieldAt, run_underlying Tryz.underlying78, Instr.sureAddr, fieldPlace, Tryz.sizeOf9, Addr.add_lit]
theorem fld_78_5 (b o : Nat) (w : World) : (Instr.fieldAt 78 (.pointer (some ⟨b, o, none⟩)) 5).run Tryz.prog w = .ok (.pointer (some ⟨b, o + 5, none⟩)) w := by
 simp [Instr.fieldAt, run_underlying Tryz.underlying78, Instr.sureAddr, fieldPlace, Tryz.sizeOf32, Addr.add_lit]
theorem fld_81_0 (b o : Nat) (w : World) : (Instr.fieldAt 81 (.pointer (some ⟨b, o, none⟩)) 0).run Tryz.prog w = .ok (.pointer (some ⟨b, o + 0, none⟩)) w := by
 simp [Instr.fieldAt, run_underlying Tryz.underlying81, Instr.sureAddr, fieldPlace, Tryz.sizeOf29, Addr.add_lit]
theorem fld_81_1 (b o : Nat) (w : World) : (Instr.fieldAt 81 (.pointer (some ⟨b, o, none⟩)) 1).run Tryz.prog w = .ok (.pointer (some ⟨b, o + 1, none⟩)) w := by
 simp [Instr.fieldAt, run_underlying Tryz.underlying81, Instr.sureAddr, fieldPlace, Tryz.sizeOf3, Addr.add_lit]
theorem fld_81_2 (b o : Nat) (w : World) : (Instr.fieldAt 81 (.pointer (some ⟨b, o, none⟩)) 2).run Tryz.prog w = .ok (.pointer (some ⟨b, o + 2, none⟩)) w := by
 simp [Instr.fieldAt, run_underlying Tryz.underlying81, Instr.sureAddr, fieldPlace, Tryz.sizeOf3, Addr.add_lit]
theorem fld_81_3 (b o : Nat) (w : World) : (Instr.fieldAt 81 (.pointer (some ⟨b, o, none⟩)) 3).run Tryz.prog w = .ok (.pointer (some ⟨b, o + 3, none⟩)) w := by
 simp [Instr.fieldAt, run_underlying Tryz.underlying81, Instr.sureAddr, fieldPlace, Tryz.sizeOf3, Addr.add_lit]
theorem fld_81_4 (b o : Nat) (w : World) : (Instr.fieldAt 81 (.pointer (some ⟨b, o, none⟩)) 4).run Tryz.prog w = .ok (.pointer (some ⟨b, o + 4, none⟩)) w := by
 simp [Instr.fieldAt, run_underlying Tryz.underlying81, Instr.sureAddr, fieldPlace, Tryz.sizeOf3, Addr.add_lit]
theorem fld_87_0 (b o : Nat) (w : World) : (Instr.fieldAt 87 (.pointer (some ⟨b, o, none⟩)) 0).run Tryz.prog w = .ok (.pointer (some ⟨b, o + 0, none⟩)) w := by
 simp [Instr.fieldAt, run_underlying Tryz.underlying87, Instr.sureAddr, fieldPlace, Tryz.sizeOf83, Addr.add_lit]
theorem fld_87_1 (b o : Nat) (w : World) : (Instr.fieldAt 87 (.pointer (some ⟨b, o, none⟩)) 1).run Tryz.prog w = .ok (.pointer (some ⟨b, o + 1, none⟩)) w := by
 simp [Instr.fieldAt, run_underlying Tryz.underlying87, Instr.sureAddr, fieldPlace, Tryz.sizeOf84, Addr.add_lit]
theorem fld_87_2 (b o : Nat) (w : World) : (Instr.fieldAt 87 (.pointer (some ⟨b, o, none⟩)) 2).run Tryz.prog w = .ok (.pointer (some ⟨b, o + 2, none⟩)) w := by
 simp [Instr.fieldAt, run_underlying Tryz.underlying87, Instr.sureAddr, fieldPlace, Tryz.sizeOf85, Addr.add_lit]
theorem fld_87_3 (b o : Nat) (w : World) : (Instr.fieldAt 87 (.pointer (some ⟨b, o, none⟩)) 3).run Tryz.prog w = .ok (.pointer (some ⟨b, o + 3, none⟩)) w := by
 simp [Instr.fieldAt, run_underlying Tryz.underlying87, Instr.sureAddr, fieldPlace, Tryz.sizeOf4, Addr.add_lit]
theorem fld_87_4 (b o : Nat) (w : World) : (Instr.fieldAt 87 (.pointer (some ⟨b, o, none⟩)) 4).run Tryz.prog w = .ok (.pointer (some ⟨b, o + 4, none⟩)) w := by
 simp [Instr.fieldAt, run_underlying Tryz.underlying87, Instr.sureAddr, fieldPlace, Tryz.sizeOf3, Addr.add_lit]
theorem fld_92_0 (b o : Nat) (w : World) : (Instr.fieldAt 92 (.pointer (some ⟨b, o, none⟩)) 0).run Tryz.prog w = .ok (.pointer (some ⟨b, o + 0, none⟩)) w := by
 simp [Instr.fieldAt, run_underlying Tryz.underlying92, Instr.sureAddr, fieldPlace, Tryz.sizeOf3, Addr.add_lit]
theorem fld_92_1 (b o : Nat) (w : World) : (Instr.fieldAt 92 (.pointer (some ⟨b, o, none⟩)) 1).run Tryz.prog w = .ok (.pointer (some ⟨b, o + 1, none⟩)) w := by
 simp [Instr.fieldAt, run_underlying Tryz.underlying92, Instr.sureAddr, fieldPlace, Tryz.sizeOf3, Addr.add_lit]
theorem fld_92_2 (b o : Nat) (w : World) : (Instr.fieldAt 92 (.pointer (some ⟨b, o, none⟩)) 2).run Tryz.prog w = .ok (.pointer (some ⟨b, o + 2, none⟩)) w := by
 simp [Instr.fieldAt, run_underlying Tryz.underlying92, Instr.sureAddr, fieldPlace, Tryz.sizeOf89, Addr.add_lit]
theorem fld_92_3 (b o : Nat) (w : World) : (Instr.fieldAt 92 (.pointer (some ⟨b, o, none⟩)) 3).run Tryz.prog w = .ok (.pointer (some ⟨b, o + 3, none⟩)) w := by
 simp [Instr.fieldAt, run_underlying Tryz.underlying92, Instr.sureAddr, fieldPlace, Tryz.sizeOf84, Addr.add_lit]
theorem fld_92_4 (b o : Nat) (w : World) : (Instr.fieldAt 92 (.pointer (some ⟨b, o, none⟩)) 4).run Tryz.prog w = .ok (.pointer (some ⟨b, o + 4, none⟩)) w := by
 simp [Instr.fieldAt, run_underlying Tryz.underlying92, Instr.sureAddr, fieldPlace, Tryz.sizeOf90, Addr.add_lit]
theorem fld_92_5 (b o : Nat) (w : World) : (Instr.fieldAt 92 (.pointer (some ⟨b, o, none⟩)) 5).run Tryz.prog w = .ok (.pointer (some ⟨b, o + 5, none⟩)) w := by
 simp [Instr.fieldAt, run_underlying Tryz.underlying92, Instr.sureAddr, fieldPlace, Tryz.sizeOf4, Addr.add_lit]
theorem fld_92_6 (b o : Nat) (w : World) : (Instr.fieldAt 92 (.pointer (some ⟨b, o, none⟩)) 6).run Tryz.prog w = .ok (.pointer (some ⟨b, o + 6, none⟩)) w := by
 simp [Instr.fieldAt, run_underlying Tryz.underlying92, Instr.sureAddr, fieldPlace, Tryz.sizeOf4, Addr.add_lit]
theorem fld_92_7 (b o : Nat) (w : World) : (Instr.fieldAt 92 (.pointer (some ⟨b, o, none⟩)) 7).run Tryz.prog w = .ok (.pointer (some ⟨b, o + 7, none⟩)) w := by
 simp [Instr.fieldAt, run_underlying Tryz.underlying92, Instr.sureAddr, fieldPlace, Tryz.sizeOf3, Addr.add_lit]
theorem fld_99_0 (b o : Nat) (w : World) : (Instr.fieldAt 99 (.pointer (some ⟨b, o, none⟩)) 0).run Tryz.prog w = .ok (.pointer (some ⟨b, o + 0, none⟩)) w := by
 simp [Instr.fieldAt, run_underlying Tryz.underlying99, Instr.sureAddr, fieldPlace, Tryz.sizeOf3, Addr.add_lit]
theorem fld_101_0 (b o : Nat) (w : World) : (Instr.fieldAt 101 (.pointer (some ⟨b, o, none⟩)) 0).run Tryz.prog w = .ok (.pointer (some ⟨b, o + 0, none⟩)) w := by
 simp [Instr.fieldAt, run_underlying Tryz.underlying101, Instr.sureAddr, fieldPlace, Tryz.sizeOf99, Addr.add_lit]
theorem fld_101_1 (b o : Nat) (w : World) : (Instr.fieldAt 101 (.pointer (some ⟨b, o, none⟩)) 1).run Tryz.prog w = .ok (.pointer (some ⟨b, o + 2, none⟩)) w := by
 simp [Instr.fieldAt, run_underlying Tryz.underlying101, Instr.sureAddr, fieldPlace, Tryz.sizeOf51, Addr.add_lit]
theorem fld_104_0 (b o : Nat) (w : World) : (Instr.fieldAt 104 (.pointer (some ⟨b, o, none⟩)) 0).run Tryz.prog w = .ok (.pointer (some ⟨b, o + 0, none⟩)) w := by
 simp [Instr.fieldAt, run_underlying Tryz.underlying104, Instr.sureAddr, fieldPlace, Tryz.sizeOf3, Addr.add_lit]
theorem fld_104_1 (b o : Nat) (w : World) : (Instr.fieldAt 104 (.pointer (some ⟨b, o, none⟩)) 1).run Tryz.prog w = .ok (.pointer (some ⟨b, o + 1, none⟩)) w := by
 simp [Instr.fieldAt, run_underlying Tryz.underlying104, Instr.sureAddr, fieldPlace, Tryz.sizeOf3, Addr.add_lit]
theorem fld_104_2 (b o : Nat) (w : World) : (Instr.fieldAt 104 (.pointer (some ⟨b, o, none⟩)) 2).run Tryz.prog w = .ok (.pointer (some ⟨b, o + 2, none⟩)) w := by
 simp [Instr.fieldAt, run_underlying Tryz.underlying104, Instr.sureAddr, fieldPlace, Tryz.sizeOf9, Addr.add_lit]
theorem fld_116_0 (b o : Nat) (w : World) : (Instr.fieldAt 116 (.pointer (some ⟨b, o, none⟩)) 0).run Tryz.prog w = .ok (.pointer (some ⟨b, o + 0, none⟩)) w := by
 simp [Instr.fieldAt, run_underlying Tryz.underlying116, Instr.sureAddr, fieldPlace, Tryz.sizeOf3, Addr.add_lit]
theorem fld_116_1 (b o : Nat) (w : World) : (Instr.fieldAt 116 (.pointer (some ⟨b, o, none⟩)) 1).run Tryz.prog w = .ok (.pointer (some ⟨b, o + 1, none⟩)) w := by
 simp [Instr.fieldAt, run_underlying Tryz.underlying116, Instr.sureAddr, fieldPlace, Tryz.sizeOf3, Addr.add_lit]
theorem fld_116_2 (b o : Nat) (w : World) : (Instr.fieldAt 116 (.pointer (some ⟨b, o, none⟩)) 2).run Tryz.prog w = .ok (.pointer (some ⟨b, o + 2, none⟩)) w := by
 simp [Instr.fieldAt, run_underlying Tryz.underlying116, Instr.sureAddr, fieldPlace, Tryz.sizeOf9, Addr.add_lit]
theorem fld_125_0 (b o : Nat) (w : World) : (Instr.fieldAt 125 (.pointer (some ⟨b, o, none⟩)) 0).run Tryz.prog w = .ok (.pointer (some ⟨b, o + 0, none⟩)) w := by
 simp [Instr.fieldAt, run_underlying Tryz.underlying125, Instr.sureAddr, fieldPlace, Tryz.sizeOf25, Addr.add_lit]
theorem fld_125_1 (b o : Nat) (w : World) : (Instr.fieldAt 125 (.pointer (some ⟨b, o, none⟩)) 1).run Tryz.prog w = .ok (.pointer (some ⟨b, o + 1, none⟩)) w := by
 simp [Instr.fieldAt, run_underlying Tryz.underlying125, Instr.sureAddr, fieldPlace, Tryz.sizeOf3, Addr.add_lit]
theorem fld_125_2 (b o : Nat) (w : World) : (Instr.fieldAt 125 (.pointer (some ⟨b, o, none⟩)) 2).run Tryz.prog w = .ok (.pointer (some ⟨b, o + 2, none⟩)) w := by
 simp [Instr.fieldAt, run_underlying Tryz.underlying125, Instr.sureAddr, fieldPlace, Tryz.sizeOf3, Addr.add_lit]
theorem fld_125_3 (b o : Nat) (w : World) : (Instr.fieldAt 125 (.pointer (some ⟨b, o, none⟩)) 3).run Tryz.prog w = .ok (.pointer (some ⟨b, o + 3, none⟩)) w := by
 simp [Instr.fieldAt, run_underlying Tryz.underlying125, Instr.sureAddr, fieldPlace, Tryz.sizeOf3, Addr.add_lit]
theorem fld_125_4 (b o : Nat) (w : World) : (Instr.fieldAt 125 (.pointer (some ⟨b, o, none⟩)) 4).run Tryz.prog w = .ok (.pointer (some ⟨b, o + 4, none⟩)) w := by
 simp [Instr.fieldAt, run_underlying Tryz.underlying125, Instr.sureAddr, fieldPlace, Tryz.sizeOf3, Addr.add_lit]
theorem fld_127_0 (b o : Nat) (w : World) : (Instr.fieldAt 127 (.pointer (some ⟨b, o, none⟩)) 0).run Tryz.prog w = .ok (.pointer (some ⟨b, o + 0, none⟩)) w := by
 simp [Instr.fieldAt, run_underlying Tryz.underlying127, Instr.sureAddr, fieldPlace, Tryz.sizeOf3, Addr.add_lit]
theorem fld_127_1 (b o : Nat) (w : World) : (Instr.fieldAt 127 (.pointer (some ⟨b, o, none⟩)) 1).run Tryz.prog w = .ok (.pointer (some ⟨b, o + 1, none⟩)) w := by
 simp [Instr.fieldAt, run_underlying Tryz.underlying127, Instr.sureAddr, fieldPlace, Tryz.sizeOf3, Addr.add_lit]
theorem fld_127_2 (b o : Nat) (w : World) : (Instr.fieldAt 127 (.pointer (some ⟨b, o, none⟩)) 2).run Tryz.prog w = .ok (.pointer (some ⟨b, o + 2, none⟩)) w := by
 simp [Instr.fieldAt, run_underlying Tryz.underlying127, Instr.sureAddr, fieldPlace, Tryz.sizeOf3, Addr.add_lit]
theorem fld_127_3 (b o : Nat) (w : World) : (Instr.fieldAt 127 (.pointer (some ⟨b, o, none⟩)) 3).run Tryz.prog w = .ok (.pointer (some ⟨b, o + 3, none⟩)) w := by
 simp [Instr.fieldAt, run_underlying Tryz.underlying127, Instr.sureAddr, fieldPlace, Tryz.sizeOf9, Addr.add_lit]
theorem fld_131_0 (b o : Nat) (w : World) : (Instr.fieldAt 131 (.pointer (some ⟨b, o, none⟩)) 0).run Tryz.prog w = .ok (.pointer (some ⟨b, o + 0, none⟩)) w := by
 simp [Instr.fieldAt, run_underlying Tryz.underlying131, Instr.sureAddr, fieldPlace, Tryz.sizeOf129, Addr.add_lit]
theorem fld_131_1 (b o : Nat) (w : World) : (Instr.fieldAt 131 (.pointer (some ⟨b, o, none⟩)) 1).run Tryz.prog w = .ok (.pointer (some ⟨b, o + 1, none⟩)) w := by
 simp [Instr.fieldAt, run_underlying Tryz.underlying131, Instr.sureAddr, fieldPlace, Tryz.sizeOf51, Addr.add_lit]
theorem info_3 : (Tryz.prog.info? 3).map (fun i => (i.zero, i.size, i.bytes)) = some (some (.int .i64 0), 1, 8) := by kernel_rfl
theorem info_4 : (Tryz.prog.info? 4).map (fun i => (i.zero, i.size, i.bytes)) = some (some (.bool false), 1, 1) := by kernel_rfl
theorem info_5 : (Tryz.prog.info? 5).map (fun i => (i.zero, i.size, i.bytes)) = some (some (.int .u8 0), 1, 1) := by kernel_rfl
theorem info_9 : (Tryz.prog.info? 9).map (fun i => (i.zero, i.size, i.bytes)) = some (some (.string ⟨#[]⟩), 1, 16) := by kernel_rfl
theorem info_24 : (Tryz.prog.info? 24).map (fun i => (i.zero, i.size, i.bytes)) = some (some (.int .u64 0), 1, 8) := by kernel_rfl
theorem info_70 : (Tryz.prog.info? 70).map (fun i => (i.zero, i.size, i.bytes)) = some (some (.slice none 0 0), 1, 24) := by kernel_rfl
theorem info_101 : (Tryz.prog.info? 101).map (fun i => (i.zero, i.size, i.bytes)) = some (some (.agg #[(.int .i64 0), (.int .i64 0), (.slice none 0 0)]), 3, 40) := by kernel_rfl
theorem info_104 : (Tryz.prog.info? 104).map (fun i => (i.zero, i.size, i.bytes)) = some (some (.agg #[(.int .i64 0), (.int .i64 0), (.string ⟨#[]⟩)]), 3, 32) := by kernel_rfl
theorem info_116 : (Tryz.prog.info? 116).map (fun i => (i.zero, i.size, i.bytes)) = some (some (.agg #[(.int .i64 0), (.int .i64 0), (.string ⟨#[]⟩)]), 3, 32) := by kernel_rfl
theorem bld_92_0_1_2_3 (x0 : Int) (x1 : Int) (x2 : Option Nat) (xa3 : Option Addr) (xn3 xc3 : Nat) (w : World) : (Instr.build 92 #[(0, .int .i64 x0), (1, .int .i64 x1), (2, .map x2), (3, .slice xa3 xn3 xc3)]).run Tryz.prog w = .ok (.agg #[.int .i64 x0, .int .i64 x1, .map x2, .slice xa3 xn3 xc3, (.slice none 0 0), (.bool false), (.bool false), (.int .i64 0)]) w := by
 simp [Instr.build, run_underlying Tryz.underlying92, Tryz.zeroValue92, Instr.fill, Value.cells, Tryz.sizeOf3, Tryz.sizeOf4, Tryz.sizeOf84, Tryz.sizeOf89, Tryz.sizeOf90]
theorem bld_87_1_4 (xa0 : Option Addr) (xn0 xc0 : Nat) (x1 : Int) (w : World) : (Instr.build 87 #[(1, .slice xa0 xn0 xc0), (4, .int .i64 x1)]).run Tryz.prog w = .ok (.agg #[(.slice none 0 0), .slice xa0 xn0 xc0, (.slice none 0 0), (.bool false), .int .i64 x1]) w := by
 simp [Instr.build, run_underlying Tryz.underlying87, Tryz.zeroValue87, Instr.fill, Value.cells, Tryz.sizeOf3, Tryz.sizeOf4, Tryz.sizeOf83, Tryz.sizeOf84, Tryz.sizeOf85]
theorem bld_99_0_1 (x0 : Int) (x1 : Int) (w : World) : (Instr.build 99 #[(0, .int .i64 x0), (1, .int .i64 x1)]).run Tryz.prog w = .ok (.agg #[.int .i64 x0, .int .i64 x1]) w := by
 simp [Instr.build, run_underlying Tryz.underlying99, Tryz.zeroValue99, Instr.fill, Value.cells, Tryz.sizeOf3]
theorem bld_116_0_1 (x0 : Int) (x1 : Int) (w : World) : (Instr.build 116 #[(0, .int .i64 x0), (1, .int .i64 x1)]).run Tryz.prog w = .ok (.agg #[.int .i64 x0, .int .i64 x1, (.string ⟨#[]⟩)]) w := by
 simp [Instr.build, run_underlying Tryz.underlying116, Tryz.zeroValue116, Instr.fill, Value.cells, Tryz.sizeOf3, Tryz.sizeOf9]
theorem bld_116_0_2 (x0 : Int) (x1 : ByteArray) (w : World) : (Instr.build 116 #[(0, .int .i64 x0), (2, .string x1)]).run Tryz.prog w = .ok (.agg #[.int .i64 x0, (.int .i64 0), .string x1]) w := by
 simp [Instr.build, run_underlying Tryz.underlying116, Tryz.zeroValue116, Instr.fill, Value.cells, Tryz.sizeOf3, Tryz.sizeOf9]
theorem bld_101_0_1 (x0 : Int) (x1 : Int) (xa2 : Option Addr) (xn2 xc2 : Nat) (w : World) : (Instr.build 101 #[(0, .agg #[.int .i64 x0, .int .i64 x1]), (1, .slice xa2 xn2 xc2)]).run Tryz.prog w = .ok (.agg #[.int .i64 x0, .int .i64 x1, .slice xa2 xn2 xc2]) w := by
 simp [Instr.build, run_underlying Tryz.underlying101, Tryz.zeroValue101, Instr.fill, Value.cells, Tryz.sizeOf51, Tryz.sizeOf99]
theorem bld_104_0_1_2 (x0 : Int) (x1 : Int) (x2 : ByteArray) (w : World) : (Instr.build 104 #[(0, .int .i64 x0), (1, .int .i64 x1), (2, .string x2)]).run Tryz.prog w = .ok (.agg #[.int .i64 x0, .int .i64 x1, .string x2]) w := by
 simp [Instr.build, run_underlying Tryz.underlying104, Tryz.zeroValue104, Instr.fill, Value.cells, Tryz.sizeOf3, Tryz.sizeOf9]
theorem bld_127_0_1_3 (x0 : Int) (x1 : Int) (x2 : ByteArray) (w : World) : (Instr.build 127 #[(0, .int .i64 x0), (1, .int .i64 x1), (3, .string x2)]).run Tryz.prog w = .ok (.agg #[.int .i64 x0, .int .i64 x1, (.int .i64 0), .string x2]) w := by
 simp [Instr.build, run_underlying Tryz.underlying127, Tryz.zeroValue127, Instr.fill, Value.cells, Tryz.sizeOf3, Tryz.sizeOf9]
theorem bld_125_0_1_2_3 (x0 : Option Addr) (x1 : Int) (x2 : Int) (x3 : Int) (w : World) : (Instr.build 125 #[(0, .pointer x0), (1, .int .i64 x1), (2, .int .i64 x2), (3, .int .i64 x3)]).run Tryz.prog w = .ok (.agg #[.pointer x0, .int .i64 x1, .int .i64 x2, .int .i64 x3, (.int .i64 0)]) w := by
 simp [Instr.build, run_underlying Tryz.underlying125, Tryz.zeroValue125, Instr.fill, Value.cells, Tryz.sizeOf3, Tryz.sizeOf25]
theorem bld_81_0_1_2_3 (x0 : Option Addr) (x1 : Int) (x2 : Int) (x3 : Int) (w : World) : (Instr.build 81 #[(0, .pointer x0), (1, .int .i64 x1), (2, .int .i64 x2), (3, .int .i64 x3)]).run Tryz.prog w = .ok (.agg #[.pointer x0, .int .i64 x1, .int .i64 x2, .int .i64 x3, (.int .i64 0)]) w := by
 simp [Instr.build, run_underlying Tryz.underlying81, Tryz.zeroValue81, Instr.fill, Value.cells, Tryz.sizeOf3, Tryz.sizeOf29]
theorem bld_127_z  (w : World) : (Instr.build 127 #[]).run Tryz.prog w = .ok (.agg #[(.int .i64 0), (.int .i64 0), (.int .i64 0), (.string ⟨#[]⟩)]) w := by
 simp [Instr.build, run_underlying Tryz.underlying127, Tryz.zeroValue127, Instr.fill, Value.cells, Tryz.sizeOf3, Tryz.sizeOf9]
theorem bld_127_0_1_2_3 (x0 : Int) (x1 : Int) (x2 : Int) (x3 : ByteArray) (w : World) : (Instr.build 127 #[(0, .int .i64 x0), (1, .int .i64 x1), (2, .int .i64 x2), (3, .string x3)]).run Tryz.prog w = .ok (.agg #[.int .i64 x0, .int .i64 x1, .int .i64 x2, .string x3]) w := by
 simp [Instr.build, run_underlying Tryz.underlying127, Tryz.zeroValue127, Instr.fill, Value.cells, Tryz.sizeOf3, Tryz.sizeOf9]
theorem bld_186_0_1_2_3_4_5_6_7 (x0 : Int) (x1 : Int) (x2 : Int) (x3 : Int) (x4 : Int) (x5 : Int) (x6 : Int) (x7 : Int) (w : World) : (Instr.build 186 #[(0, .int .u32 x0), (1, .int .u32 x1), (2, .int .u32 x2), (3, .int .u32 x3), (4, .int .u32 x4), (5, .int .u32 x5), (6, .int .u32 x6), (7, .int .u32 x7)]).run Tryz.prog w = .ok (.agg #[.int .u32 x0, .int .u32 x1, .int .u32 x2, .int .u32 x3, .int .u32 x4, .int .u32 x5, .int .u32 x6, .int .u32 x7]) w := by
 simp [Instr.build, run_underlying Tryz.underlying186, Tryz.zeroValue186, Instr.fill, Value.cells, Tryz.sizeOf184]
theorem mixed : Tryz.prog.follows .mixedOrders = true := by kernel_rfl
end Go.Proofs.YtjeldcjchipdgaaGreatDoor
namespace Go.Proofs.YtjeldcjchipdgaaGreatDoor
open Go.RowKit Go.HL
set_option maxRecDepth 100000
structure OpI where
 kind : Int
 drive : Int
 at_ : Int
 n : Int
 s : ByteArray
 pao : Option Addr
 pcap : Nat
 picks : List Int
def eoi : Enc OpI := ⟨6, fun x => [vi x.kind, vi x.drive, vi x.at_, vi x.n, .string x.s, .slice x.pao x.picks.length x.pcap], fun _ => rfl, by simp [Value.oneCell'], by decide⟩
structure OSI (S : Nat → Prop) (w : World) (ao : Option Addr) (c : Nat) (l : List OpI) : Prop where
 outer : RSl S w eoi ao c l
 inner : ∀ o ∈ l, RSl S w ei o.pao o.pcap o.picks
section
variable {S M : Nat → Prop} {w w' : World} {ao : Option Addr} {c : Nat} {l : List OpI}
theorem OSI.chg (h : OSI S w ao c l) (k : Chg M w w') (hd : ∀ b, b < w.heap.size → S b → M b → False) : OSI S w' ao c l := ⟨h.outer.chg k hd, fun r hr => (h.inner r hr).chg k hd⟩
theorem OSI.pure (h : OSI S w ao c l) (k : Chg Nob w w') : OSI S w' ao c l := ⟨h.outer.pure k, fun r hr => (h.inner r hr).pure k⟩
end
end Go.Proofs.YtjeldcjchipdgaaGreatDoor
namespace Go.Proofs.YtjeldcjchipdgaaGreatDoor
open Go.ChangeShapes Go.WideShapes Go.ChangeAt Go.RowKit Go.Deep Go.HL
set_option maxRecDepth 100000
section
variable {H : Type} {enc : TypeId × Value → H} {W : World}
def b64OpI (x : Int) : Prop := -9223372036854775808 ≤ x ∧ x ≤ 9223372036854775807
structure OpIOf (W : World) (x : OpI) (d : DataW H) : Prop where
 kind : b64OpI x.kind
 drive : b64OpI x.drive
 at_ : b64OpI x.at_
 n : b64OpI x.n
 picks : RSl (· < W.heap.size) W ei x.pao x.pcap x.picks
 wf : ∀ y ∈ x.picks, b64OpI y
 str : ∃ parts, d = .agg parts ∧ parts[4]? = some (.lit (.string x.s.data.toList))
 datum : ∃ parts dp, d = .agg parts ∧ parts[5]? = some dp ∧ (dp = .nil ∧ x.picks = [] ∨ ∃ el sp, dp = .slice el sp ∧ x.picks.length = el.length)
theorem el_OpI (n : Nat) (cs : List Value) (y : DataW H × List MemPlace) (hl : cs.length = eoi.sz) (_ : ∀ (q : Nat) (v : Value), cs[q]? = some v → True) (h : DataW.trod enc Tryz.prog W 0 (fun _ => true) true n 78 cs = some y) : ∃ x, cs = eoi.f x ∧ OpIOf W x y.1 := by
 obtain ⟨xs, m, _, rfl, _, hx, hf⟩ := DataW.trod_struct Tryz.underlying78 h
 match cs, hl with
 |[c0, c1, c2, c3, c4, c5], _ =>
  match xs, hx with
  |[y0, y1, y2, y3, y4, y5], _ =>
   have f0 : DataW.trod enc Tryz.prog W 0 (fun _ => true) true m 3 (([c0, c1, c2, c3, c4, c5].drop 0).take (Tryz.prog.cellsOf 3)) = some y0 := hf 0 _ rfl
   have f1 : DataW.trod enc Tryz.prog W 0 (fun _ => true) true m 3 (([c0, c1, c2, c3, c4, c5].drop 1).take (Tryz.prog.cellsOf 3)) = some y1 := hf 1 _ rfl
   have f2 : DataW.trod enc Tryz.prog W 0 (fun _ => true) true m 3 (([c0, c1, c2, c3, c4, c5].drop 2).take (Tryz.prog.cellsOf 3)) = some y2 := hf 2 _ rfl
   have f3 : DataW.trod enc Tryz.prog W 0 (fun _ => true) true m 3 (([c0, c1, c2, c3, c4, c5].drop 3).take (Tryz.prog.cellsOf 3)) = some y3 := hf 3 _ rfl
   have f4 : DataW.trod enc Tryz.prog W 0 (fun _ => true) true m 9 (([c0, c1, c2, c3, c4, c5].drop 4).take (Tryz.prog.cellsOf 9)) = some y4 := hf 4 _ rfl
   have f5 : DataW.trod enc Tryz.prog W 0 (fun _ => true) true m 32 (([c0, c1, c2, c3, c4, c5].drop 5).take (Tryz.prog.cellsOf 32)) = some y5 := hf 5 _ rfl
   rw [show Tryz.prog.cellsOf 3 = 1 from by kernel_rfl] at f0 f1 f2 f3
   rw [show Tryz.prog.cellsOf 9 = 1 from by kernel_rfl] at f4
   rw [show Tryz.prog.cellsOf 32 = 1 from by kernel_rfl] at f5
   obtain ⟨k0, e0, _, w0⟩ := DataW.trod_int Tryz.underlying3 f0
   obtain ⟨k1, e1, _, w1⟩ := DataW.trod_int Tryz.underlying3 f1
   obtain ⟨k2, e2, _, w2⟩ := DataW.trod_int Tryz.underlying3 f2
   obtain ⟨k3, e3, _, w3⟩ := DataW.trod_int Tryz.underlying3 f3
   obtain ⟨k4, e4, e4x, _⟩ := DataW.trod_string Tryz.underlying9 f4
   obtain ⟨ao, c, ps, e5, h5, h6⟩ := open_trod Tryz.underlying32 ei (fun x _ => b64OpI x) (by kernel_rfl) (fun n cs y a b c => by
    obtain ⟨x, hx1, hx2⟩ := el_i64 Tryz.underlying3 n cs y a b c
    exact ⟨x, hx1, hx2⟩) f5
   injection e0 with e0
   injection e1 with e1
   injection e2 with e2
   injection e3 with e3
   injection e4 with e4
   injection e5 with e5
   subst e0; subst e1; subst e2; subst e3; subst e4; subst e5
   refine ⟨⟨k0, k1, k2, k3, _, ao, c, ps⟩, rfl, by simpa [b64OpI, Lit.wf, IntKind.min, IntKind.max, IntKind.signed, IntKind.bits] using w0, by simpa [b64OpI, Lit.wf, IntKind.min, IntKind.max, IntKind.signed, IntKind.bits] using w1, by simpa [b64OpI, Lit.wf, IntKind.min, IntKind.max, IntKind.signed, IntKind.bits] using w2, by simpa [b64OpI, Lit.wf, IntKind.min, IntKind.max, IntKind.signed, IntKind.bits] using w3, h5, ?_, ⟨[y0.1, y1.1, y2.1, y3.1, y4.1, y5.1], rfl, by rw [e4x]; rfl⟩, [y0.1, y1.1, y2.1, y3.1, y4.1, y5.1], y5.1, rfl, rfl, ?_⟩
   ·intro u hu
    rcases h6 with ⟨_, h6⟩ | ⟨el, sp, _, _, h7⟩
    ·rw [show ps = [] from h6] at hu
     cases hu
    ·obtain ⟨i, hil, rfl⟩ := List.getElem_of_mem hu
     obtain ⟨_, _, h8⟩ := h7 i _ (List.getElem?_eq_getElem hil)
     exact h8
   ·rcases h6 with h6 | ⟨el, sp, h7, h8, _⟩
    ·exact .inl h6
    ·exact .inr ⟨el, sp, h7, h8⟩
theorem reach_opsi {d : DataW H} {rs : List OpI} {ts : List TypeId} {ds : List (DataW H)} {j : Nat} (hsz : (DataW.weightsEach Tryz.prog ts ds).all (· ≤ reachBytes) = true) (htj : ts[j]? = some 63) (hdj : ds[j]? = some d)
 (h : d = .nil ∧ rs = [] ∨ ∃ el sp, d = .slice el sp ∧ rs.length = el.length ∧ ∀ (i : Nat) (x : OpI), rs[i]? = some x → ∃ d, el[i]? = some d ∧ OpIOf W x d) :
 ∀ o ∈ rs, o.picks.length * 8 ≤ 140737488351232 ∧ b64OpI o.kind ∧ b64OpI o.drive ∧ b64OpI o.at_ ∧ b64OpI o.n ∧ o.s.size ≤ 140737488351232 := by
 have hrb : reachBytes = 140737488351232 := rfl
 rcases h with ⟨_, rfl⟩ | ⟨el, sp, rfl, hl, hall⟩
 ·exact fun r hr => by cases hr
 ·intro r hr
  obtain ⟨i, hil, rfl⟩ := List.getElem_of_mem hr
  obtain ⟨d, h1, hO⟩ := hall i _ (List.getElem?_eq_getElem hil)
  obtain ⟨partS, eqS, hS⟩ := hO.str
  refine ⟨?_, hO.kind, hO.drive, hO.at_, hO.n, ?_⟩
  rotate_left
  ·have hm := List.all_eq_true.1 hsz _ (DataW.weights_mem_each htj hdj rs[i].s.data.toList.length (by
    simp only [DataW.weights, Tryz.underlying63]
    refine List.mem_cons_of_mem _ (List.mem_append_left _ (weightsAll_mem h1 _ ?_))
    rw [eqS]
    simp only [DataW.weights, Tryz.underlying78]
    refine DataW.weights_mem_each (j := 4) (t := 9) rfl hS _ ?_
    simp [DataW.weights]))
   simp at hm
   rw [hrb] at hm
   exact hm
  clear eqS hS
  obtain ⟨parts, dp, rfl, h2, h3⟩ := hO.datum
  rcases h3 with ⟨_, h3⟩ | ⟨el2, sp2, rfl, h3⟩
  ·rw [h3]; simp
  ·have hm := List.all_eq_true.1 hsz _ (DataW.weights_mem_each htj hdj ((el2.length + sp2.length) * Tryz.prog.bytesOf 3) (by
    simp only [DataW.weights, Tryz.underlying63]
    refine List.mem_cons_of_mem _ (List.mem_append_left _ (weightsAll_mem h1 _ ?_))
    simp only [DataW.weights, Tryz.underlying78]
    refine DataW.weights_mem_each (j := 5) (t := 32) rfl h2 _ ?_
    simp [DataW.weights, Tryz.underlying32]))
   rw [show Tryz.prog.bytesOf 3 = 8 from by kernel_rfl] at hm
   simp at hm
   rw [hrb] at hm
   omega
end
end Go.Proofs.YtjeldcjchipdgaaGreatDoor
namespace Go.Proofs.YtjeldcjchipdgaaGreatDoor
open Go.ChangeShapes Go.WideShapes Go.ChangeAt Go.RowKit Go.Deep Go.HL
set_option maxRecDepth 100000
set_option maxRecDepth 10000
structure CsV where
 dr : Int
 f : Int
 c : Int
 b : Int
 ao : Option Addr
 cap : Nat
 ops : List OpI
def csval (x : CsV) : Value := .agg #[vi x.dr, vi x.f, vi x.c, vi x.b, .slice x.ao x.ops.length x.cap]
structure CsS (w : World) (x : CsV) : Prop where
 ops : OSI (· < w.heap.size) w x.ao x.cap x.ops
 dr : b64OpI x.dr
 f : b64OpI x.f
 c : b64OpI x.c
 b : b64OpI x.b
section
variable {H : Type} {enc : TypeId × Value → H} {W : World}
structure CsOf (W : World) (x : CsV) (d : DataW H) : Prop where
 datum : ∃ d0 d1 d2 d3 d4, d = .agg [d0, d1, d2, d3, d4] ∧ (d4 = .nil ∧ x.ops = [] ∨ ∃ el sp, d4 = .slice el sp ∧ x.ops.length = el.length ∧ ∀ (i : Nat) (o : OpI), x.ops[i]? = some o → ∃ d, el[i]? = some d ∧ OpIOf W o d)
theorem open_case13 {base : Nat} {v : Value} {d : DataW H} {p : List MemPlace} (hv : Value.okWide Tryz.prog W .any base 65 v) (h : DataW.Trod enc Tryz.prog W 0 (fun _ => true) true 65 v d p) :
 ∃ x : CsV, v = csval x ∧ CsS W x ∧ CsOf W x d := by
 unfold Value.okWide at hv
 rw [Tryz.underlying65] at hv
 obtain ⟨ca, rfl, hsz, _⟩ := hv
 obtain ⟨n, hn⟩ := h
 have hl : ca.toList.length = 5 := by rw [Array.length_toList, hsz]; kernel_rfl
 have hn2 : DataW.trod enc Tryz.prog W 0 (fun _ => true) true n 65 ca.toList = some (d, p) := hn
 obtain ⟨cs, hcs⟩ : ∃ cs, cs = ca.toList := ⟨_, rfl⟩
 have hca : ca = cs.toArray := by rw [hcs]
 rw [← hcs] at hn2 hl
 rw [hca]
 clear hca hcs hsz hn
 obtain ⟨xs, m, _, he, _, hx, hf⟩ := DataW.trod_struct Tryz.underlying65 hn2
 match cs, hl with
 |[c0, c1, c2, c3, c4], _ =>
  match xs, hx with
  |[y0, y1, y2, y3, y4], _ =>
   have f0 : DataW.trod enc Tryz.prog W 0 (fun _ => true) true m 3 (([c0, c1, c2, c3, c4].drop 0).take (Tryz.prog.cellsOf 3)) = some y0 := hf 0 _ rfl
   have f1 : DataW.trod enc Tryz.prog W 0 (fun _ => true) true m 3 (([c0, c1, c2, c3, c4].drop 1).take (Tryz.prog.cellsOf 3)) = some y1 := hf 1 _ rfl
   have f2 : DataW.trod enc Tryz.prog W 0 (fun _ => true) true m 3 (([c0, c1, c2, c3, c4].drop 2).take (Tryz.prog.cellsOf 3)) = some y2 := hf 2 _ rfl
   have f3 : DataW.trod enc Tryz.prog W 0 (fun _ => true) true m 3 (([c0, c1, c2, c3, c4].drop 3).take (Tryz.prog.cellsOf 3)) = some y3 := hf 3 _ rfl
   have f4 : DataW.trod enc Tryz.prog W 0 (fun _ => true) true m 63 (([c0, c1, c2, c3, c4].drop 4).take (Tryz.prog.cellsOf 63)) = some y4 := hf 4 _ rfl
   rw [show Tryz.prog.cellsOf 3 = 1 from by kernel_rfl] at f0 f1 f2 f3
   rw [show Tryz.prog.cellsOf 63 = 1 from by kernel_rfl] at f4
   obtain ⟨k0, e0, _, w0⟩ := DataW.trod_int Tryz.underlying3 f0
   obtain ⟨k1, e1, _, w1⟩ := DataW.trod_int Tryz.underlying3 f1
   obtain ⟨k2, e2, _, w2⟩ := DataW.trod_int Tryz.underlying3 f2
   obtain ⟨k3, e3, _, w3⟩ := DataW.trod_int Tryz.underlying3 f3
   obtain ⟨ao, cap, rs, e4, h4, h5⟩ := open_trod Tryz.underlying63 eoi (OpIOf W) (by kernel_rfl) el_OpI f4
   injection e0 with e0
   injection e1 with e1
   injection e2 with e2
   injection e3 with e3
   injection e4 with e4
   subst e0; subst e1; subst e2; subst e3; subst e4
   refine ⟨⟨k0, k1, k2, k3, ao, cap, rs⟩, rfl, ⟨⟨h4, fun r hr => ?_⟩, ?_, ?_, ?_, ?_⟩, ⟨y0.1, y1.1, y2.1, y3.1, y4.1, congrArg Prod.fst he, h5⟩⟩
   ·rcases h5 with ⟨_, h6⟩ | ⟨el, sp, _, _, h6⟩
    ·rw [show rs = [] from h6] at hr
     cases hr
    ·obtain ⟨i, hil, rfl⟩ := List.getElem_of_mem hr
     obtain ⟨d, _, h7⟩ := h6 i _ (List.getElem?_eq_getElem hil)
     exact h7.picks
   ·simpa [b64OpI, Lit.wf, IntKind.min, IntKind.max, IntKind.signed, IntKind.bits] using w0
   ·simpa [b64OpI, Lit.wf, IntKind.min, IntKind.max, IntKind.signed, IntKind.bits] using w1
   ·simpa [b64OpI, Lit.wf, IntKind.min, IntKind.max, IntKind.signed, IntKind.bits] using w2
   ·simpa [b64OpI, Lit.wf, IntKind.min, IntKind.max, IntKind.signed, IntKind.bits] using w3
theorem reach_case13 {d : DataW H} {x : CsV} {ts : List TypeId} {ds : List (DataW H)} {j : Nat} (hsz : (DataW.weightsEach Tryz.prog ts ds).all (· ≤ reachBytes) = true) (htj : ts[j]? = some 65) (hdj : ds[j]? = some d) (h : CsOf W x d) :
 ∀ o ∈ x.ops, o.picks.length * 8 ≤ 140737488351232 ∧ b64OpI o.kind ∧ b64OpI o.drive ∧ b64OpI o.at_ ∧ b64OpI o.n ∧ o.s.size ≤ 140737488351232 := by
 obtain ⟨d0, d1, d2, d3, d4, rfl, h3⟩ := h.datum
 have hin : (DataW.weightsEach Tryz.prog [3, 3, 3, 3, 63] [d0, d1, d2, d3, d4]).all (· ≤ reachBytes) = true := by
  refine List.all_eq_true.2 fun y hy => (List.all_eq_true.1 hsz _ (DataW.weights_mem_each htj hdj y ?_))
  simp only [DataW.weights, Tryz.underlying65]
  exact hy
 exact reach_opsi hin (j := 4) rfl rfl h3
end
end Go.Proofs.YtjeldcjchipdgaaGreatDoor
namespace Go.HL
open Go.RowKit
def preds (ops : Array Oper) (rs : List Nat) (i : Nat) : Bool := rs.any fun j => before? ops j i
def AllB : List Nat → (Nat → Bool) → (Nat → Prop) → Prop
 |[], _, _ => True
 |a :: l, p, f => (bif p a then True else f a) ∧ AllB l p f
theorem AllB_mem : ∀ {l : List Nat} {p : Nat → Bool} {f : Nat → Prop}, AllB l p f → ∀ i ∈ l, p i = false → f i
 |[], _, _, _, i, hi, _ => by cases hi
 |a :: l, p, f, h, i, hi, hp => by
  rcases List.mem_cons.1 hi with rfl | h1
  ·have := h.1
   rw [hp] at this
   exact this
  ·exact AllB_mem h.2 i h1 hp
def drawOkT (ops : Array Oper) (C R : List Nat) : Bool :=
 ((List.range ops.size).all fun i => C.contains i || R.contains i) && ((C ++ R).all fun i => decide (i < ops.size)) &&
 ((List.range ops.size).all fun i => (List.range ops.size).all fun j => i == j || dstOf ops i == none || dstOf ops i != dstOf ops j) &&
 ((List.range ops.size).all fun i => ((ops[i]?).map (·.after.toList.all fun e => !Region.binds .any e || decide (e.on < i))).getD true) &&
 srcOk ops [] (C ++ R) && (R.all fun i => (List.range ops.size).all fun j => (looks ops i).all fun t => dstOf ops j != some t || (if C.contains j then before? ops j i else before? ops j i || before? ops i j)) && nodupB (C ++ R)
section
variable (P : Program) (ops : Array Oper) (Q : Exit → Act → World → Prop) (N : Nat) (K : World → Prop) (w0 : World)
def DT : Nat → List Nat → Env → World → Prop
 |0, _, E, w => ∀ w', Chg Nob w w' → WX Q .normal N E w'
 |n + 1, rs, E, w => AllB rs (preds ops rs) fun i => ∀ w', Chg Nob w w' → ∀ o, ops[i]? = some o → WL P ops (One o.dst fun v w'' => K w'' ∧ DT n (rs.erase i) (putE E o.dst v) w'') N [o] (restr ops i E) w'
def DQT (R : List Nat) : List Nat → Env → Prop
 |[], E => DT P ops Q N K R.length R E w0
 |i :: is, E => ∃ v, (∀ o, ops[i]? = some o → ∀ w', K w' → WL P ops (One o.dst fun u w'' => u = v ∧ Chg Nob w' w'') N [o] (restr ops i E) w') ∧ DQT R is (putE E (dstOf ops i) v)
end
section
variable {P : Program} {ops : Array Oper} {Q : Exit → Act → World → Prop} {N : Nat} {K : World → Prop} {w0 : World} {E0 : Env}
theorem DQT_spec {R : List Nat} : ∀ {is : List Nat} {E : Env}, is.Nodup → DQT P ops Q N K w0 R is E → ∃ c : Nat → Value, DT P ops Q N K R.length R (envAfter ops c is E) w0 ∧
 ∀ pre i post, is = pre ++ i :: post → ∀ o, ops[i]? = some o → ∀ w', K w' → WL P ops (One o.dst fun u w'' => u = c i ∧ Chg Nob w' w'') N [o] (restr ops i (envAfter ops c pre E)) w'
 |[], E, _, h => ⟨fun _ => undef, h, fun pre i post hx => by cases pre <;> cases hx⟩
 |i :: is, E, hn, h => by
  obtain ⟨v, h1, h2⟩ := h
  obtain ⟨c, h3, h4⟩ := DQT_spec (List.nodup_cons.1 hn).2 h2
  have hi := (List.nodup_cons.1 hn).1
  let c' : Nat → Value := fun j => if j = i then v else c j
  have hc : ∀ j, j ∈ is → c j = c' j := fun j hj => by
   have : j ≠ i := fun e => hi (e ▸ hj)
   simp [c', this]
  have hci : c' i = v := by simp [c']
  refine ⟨c', ?_, ?_⟩
  ·show DT P ops Q N K R.length R (envAfter ops c' is (putE E (dstOf ops i) (c' i))) w0
   rw [hci, ← envAfter_congr ops c c' is _ hc]
   exact h3
  ·intro pre j post hx o ho w' hw
   cases pre with
   |nil =>
    injection hx with hx1 hx2
    subst hx1
    rw [hci]
    exact h1 o ho w' hw
   |cons p pre =>
    injection hx with hx1 hx2
    subst hx1
    have := h4 pre j post hx2 o ho w' hw
    have hj : j ∈ is := by rw [hx2]; simp
    rw [hc j hj, envAfter_congr ops c c' pre _ (fun k hk => hc k (by rw [hx2]; simp [hk]))] at this
    show WL P ops _ N [o] (restr ops j (envAfter ops c' pre (putE E (dstOf ops i) (c' i)))) w'
    rw [hci]
    exact this
theorem WC.drawT {id : Nat} (K : World → World → Prop) (C R : List Nat) (hm : P.follows .mixedOrders = true) (hok : drawOkT ops C R = true) (hN : ((List.range ops.size).all fun i => (dstOf ops i).all fun t => Nat.blt t N) = true) {w : World} (hK0 : K w.drew w.drew) (hKp : ∀ wd a b, K wd a → Chg Nob a b → K wd b)
 (h0 : ∀ wd, Chg Nob w wd → wd.heap.size = w.heap.size → DQT P ops Q N (K wd) wd R C E0) : WC P (.region id ops true) Q N E0 w := fun a0 ha0 => by
 have h := h0 w.drew (Chg.drew w) rfl
 simp only [drawOkT, Bool.and_eq_true, decide_eq_true_eq] at hok
 obtain ⟨⟨⟨⟨⟨⟨hpart, hlt0⟩, hdst0⟩, hback0⟩, hsrc⟩, hsrcT⟩, hnd⟩ := hok
 replace hnd := nodupB_spec hnd
 have hlt : ∀ k ∈ C ++ R, k < ops.size := fun k hk => by simpa using List.all_eq_true.1 hlt0 k hk
 have hdst : ∀ i j, i < ops.size → j < ops.size → i ≠ j → ∀ t, dstOf ops i = some t → dstOf ops j ≠ some t := by
  intro i j hi hj hne t h1 h2
  have := List.all_eq_true.1 (List.all_eq_true.1 hdst0 i (by simpa using hi)) j (by simpa using hj)
  simp [h1, h2, hne] at this
 have hback : ∀ i, i < ops.size → ∀ o, ops[i]? = some o → ∀ e ∈ o.after, Region.binds .any e = true → e.on < i := by
  intro i hi o ho e he hb
  have := List.all_eq_true.1 hback0 i (by simpa using hi)
  simp only [ho, Option.map_some, Option.getD_some] at this
  rw [List.all_eq_true] at this
  have := this e (by simpa using he)
  simpa [hb] using this
 have hNt : ∀ i, i < ops.size → ∀ t, dstOf ops i = some t → t < N := by
  intro i hi t ht
  have := List.all_eq_true.1 hN i (by simpa using hi)
  simpa [ht] using this
 have hin : ∀ i, i < ops.size → i ∈ C ∨ i ∈ R := fun i hi => by simpa using List.all_eq_true.1 hpart i (by simpa using hi)
 have hCn : C.Nodup := (List.nodup_append.1 hnd).1
 obtain ⟨c, hDL, hq⟩ := DQT_spec hCn h
 have hgs : ∀ (listed : Array Bool) (i j : Nat), i < listed.size → (listed.setIfInBounds i true).getD j false = if j = i then true else listed.getD j false := by
  intro listed i j hil
  simp only [Array.getD_eq_getD_getElem?, Array.getElem?_setIfInBounds]
  by_cases e : j = i
  ·subst e; simp [hil]
  ·have : ¬ i = j := fun x => e x.symm
   simp [this, e]
 have henv : ∀ (vals : Nat → Value) (rd : List Nat), (∀ i ∈ C, vals i = c i) → envAfter ops vals rd (envAfter ops c C E0) = envAfter ops vals (C ++ rd) E0 := by
  intro vals rd hC
  rw [envAfter_append, envAfter_congr ops vals c C E0 hC]
 have fin : ∀ (listed : Array Bool) (a : Act) (w1 wp : World) (vals : Nat → Value) (rd rs : List Nat), (∀ i, i < ops.size → i ∈ C ∨ i ∈ rd ∨ i ∈ rs) → (∀ i ∈ rd ++ rs, i < ops.size) → Mid ops N E0 listed a vals → (∀ i ∈ C, vals i = c i) → (∀ i ∈ rs, listed.getD i false = false) →
  Chg Nob wp w1 → DT P ops Q N (K w.drew) rs.length rs (envAfter ops vals rd (envAfter ops c C E0)) wp → (∀ i, i < ops.size → listed.getD i false = true) → Q .normal a w1 := by
  intro listed a w1 wp vals rd rs hpt hrl m hC hrs hpw hdl hall
  cases rs with
  |cons r rs =>
   have h1 := hall r (hrl r (by simp))
   have h2 := hrs r (by simp)
   rw [h1] at h2; cases h2
  |nil =>
   refine hdl w1 hpw a ⟨m.tsz, m.dfs, fun t v ht => ?_⟩
   rw [henv vals rd hC] at ht
   rcases (Rep.start ops E0 vals).after (C ++ rd) t v ht with ⟨j, hj, hd, rfl⟩ | ⟨h1, h2⟩
   ·have hjl : j < ops.size := by
     rcases List.mem_append.1 (by simpa using hj : j ∈ C ++ rd) with h | h
     ·exact hlt j (by simp [h])
     ·exact hrl j (by simp [h])
    exact m.done j hjl (hall j hjl) t hd
   ·refine m.old t v h2 fun j hj _ => h1 j ?_
    rcases hpt j hj with h | h | h
    ·simp [h]
    ·simp [h]
    ·cases h
 have key : ∀ (fuel : Nat) (listed : Array Bool) (a : Act) (w1 wp : World) (vals : Nat → Value) (rd rs : List Nat), (∀ i, i < ops.size → i ∈ C ∨ i ∈ rd ∨ i ∈ rs) → (∀ i ∈ rd ++ rs, i < ops.size ∧ i ∉ C) → rs.Nodup → (∀ i ∈ rd, i ∉ rs) → Mid ops N E0 listed a vals → (∀ i ∈ C, vals i = c i) → (∀ i ∈ rd, listed.getD i false = true) → (∀ i ∈ rs, listed.getD i false = false) →
  K w.drew w1 → Chg Nob wp w1 → DT P ops Q N (K w.drew) rs.length rs (envAfter ops vals rd (envAfter ops c C E0)) wp → ((List.range ops.size).filter fun i => !listed.getD i false).length ≤ fuel → wpAny P .any ops Q fuel listed a w1 := by
  intro fuel
  induction fuel with
  |zero =>
   intro listed a w1 wp vals rd rs hpt hrl hrn hdj m hC hrd hrs hM hpw hdl hf
   have hall : ∀ i, i < ops.size → listed.getD i false = true := by
    intro i hi
    have h0 := List.length_eq_zero_iff.1 (Nat.le_zero.1 hf)
    have : i ∉ (List.range ops.size).filter fun i => !listed.getD i false := by rw [h0]; simp
    simpa [hi] using this
   refine ⟨?_, fin listed a w1 wp vals rd rs hpt (fun i hi => (hrl i hi).1) m hC hrs hpw hdl hall⟩
   refine List.eq_nil_iff_forall_not_mem.2 fun i hi => ?_
   obtain ⟨h1, h2, _⟩ := mem_ready hi
   have h3 := hall i h1
   have : i < listed.size := by rw [m.sz]; exact h1
   simp [Array.getD_eq_getD_getElem?, this] at h2 h3
   rw [h2] at h3; cases h3
  |succ fuel ih =>
   intro listed a w1 wp vals rd rs hpt hrl hrn hdj m hC hrd hrs hM hpw hdl hf
   refine ⟨fun hnil => fin listed a w1 wp vals rd rs hpt (fun i hi => (hrl i hi).1) m hC hrs hpw hdl (ready_nil m.sz hback hnil), fun i hi => ?_⟩
   obtain ⟨hilt, hno, hpre⟩ := mem_ready hi
   have hil : i < listed.size := by rw [m.sz]; exact hilt
   have hno' : listed.getD i false = false := by
    simp [Array.getD_eq_getD_getElem?, hil] at hno ⊢; exact hno
   have ho : ops[i]? = some ops[i] := Array.getElem?_eq_getElem hilt
   have hdo := dstOf_eq ho
   have hf' : ((List.range ops.size).filter fun j => !(listed.setIfInBounds i true).getD j false).length ≤ fuel := by
    have e1 : ((List.range ops.size).filter fun j => !(listed.setIfInBounds i true).getD j false) = ((List.range ops.size).filter fun j => !listed.getD j false).filter fun j => j != i := by
     rw [List.filter_filter]
     congr 1
     funext j
     rw [hgs listed i j hil]
     by_cases e : j = i <;> simp [e]
    rw [e1]
    have : (((List.range ops.size).filter fun j => !listed.getD j false).filter fun j => j != i).length < ((List.range ops.size).filter fun j => !listed.getD j false).length := by
     rw [List.length_filter_lt_length_iff_exists]
     exact ⟨i, List.mem_filter.2 ⟨by simpa using hilt, by rw [hno']; rfl⟩, by simp⟩
    omega
   by_cases hiC : i ∈ C
   ·obtain ⟨pre, post, hsp⟩ := List.append_of_mem hiC
    have h1 := hq pre i post hsp _ ho w1 hM
    have hpc : ∀ k ∈ pre, vals k = c k := fun k hk => hC k (by rw [hsp]; simp [hk])
    have hrep : Rep ops E0 vals pre (envAfter ops c pre E0) := by
     have := (Rep.start ops E0 vals).after pre
     rw [envAfter_congr ops vals c pre E0 hpc] at this
     simpa using this
    have hh := m.holds hsrc (pre := pre) (post := post ++ R) (i := i) (by rw [hsp]; simp) hlt hrep hpre hno
    refine wpOp_mono ?_ (wpOp_of_WL ho hh (fun t ht => hNt i hilt t (by rw [hdo]; exact ht)) h1)
    rintro a' w' ⟨v, rfl, rfl, k⟩
    rw [← hdo]
    have hv : ∀ j, (if j = i then c i else vals j) = vals j := fun j => by
     by_cases e : j = i
     ·subst e; simp [hC j hiC]
     ·simp [e]
    have hm' := m.put hilt hdst (hNt i hilt) hpre hno (c i)
    simp only [hv] at hm'
    refine ih _ _ w' wp vals rd rs hpt hrl hrn hdj hm' hC (fun j hj => ?_) (fun j hj => ?_) (hKp _ _ _ hM k) (hpw.pure k) hdl hf'
    ·rw [hgs listed i j hil]; split
     ·rfl
     ·exact hrd j hj
    ·have : j ≠ i := by rintro rfl; exact (hrl j (by simp [hj])).2 hiC
     rw [hgs listed i j hil, if_neg this]; exact hrs j hj
   ·have hird : i ∉ rd := fun hx => by have := hrd i hx; rw [hno'] at this; cases this
    have hirs : i ∈ rs := (hpt i hilt).elim (fun h => absurd h hiC) (fun h => h.elim (fun h => absurd h hird) (fun h => h))
    have hpr : preds ops rs i = false := by
     rw [preds, List.any_eq_false]
     intro p hp hb
     have h1 := hpre p hb
     have h2 := hrs p hp
     rw [h1] at h2; cases h2
    obtain ⟨n, hn⟩ : ∃ n, rs.length = n + 1 := ⟨rs.length - 1, by have := List.length_pos_of_mem hirs; omega⟩
    rw [hn] at hdl
    have h1 := AllB_mem hdl i hirs hpr w1 hpw _ ho
    rw [henv vals rd hC] at h1
    have hrep : Rep ops E0 vals (C ++ rd) (envAfter ops vals (C ++ rd) E0) := by simpa using (Rep.start ops E0 vals).after (C ++ rd)
    have hh : Holds N (restr ops i (envAfter ops vals (C ++ rd) E0)) a := by
     have hsT : ∀ t ∈ looks ops i, ∀ j, j < ops.size → dstOf ops j = some t → (j ∈ C → before? ops j i = true) ∧ (before? ops j i = true ∨ before? ops i j = true) := by
      intro t ht j hj hd
      have q1 := List.all_eq_true.1 hsrcT i (by rcases hin i hilt with h | h; exact absurd h hiC; exact h)
      have q2 := List.all_eq_true.1 (List.all_eq_true.1 q1 j (by simpa using hj)) t ht
      simp only [hd, bne_self_eq_false, Bool.false_or] at q2
      by_cases hjC : C.contains j = true
      ·rw [hjC] at q2
       simp at q2
       exact ⟨fun _ => q2, .inl q2⟩
      ·simp only [Bool.not_eq_true] at hjC
       rw [hjC] at q2
       simp at q2
       exact ⟨fun h => by simp [h] at hjC, q2⟩
     refine ⟨m.tsz, m.dfs, fun t v ht => ?_⟩
     obtain ⟨g1, g2⟩ := restr_lookup ht
     rcases hrep t v g2 with ⟨j, hj, hd, rfl⟩ | ⟨g3, g4⟩
     ·have hjl : j < ops.size := by
       rcases List.mem_append.1 (by simpa using hj : j ∈ C ++ rd) with h | h
       ·exact hlt j (by simp [h])
       ·exact (hrl j (by simp [h])).1
      have hb : before? ops j i = true := by
       rcases List.mem_append.1 (by simpa using hj : j ∈ C ++ rd) with h | h
       ·exact (hsT t g1 j hjl hd).1 h
       ·rcases (hsT t g1 j hjl hd).2 with h5 | h5
        ·exact h5
        ·have h6 := m.clo j hjl (hrd j h) i h5
         rw [hno'] at h6; cases h6
      exact m.done j hjl (hpre j hb) t hd
     ·refine m.old t v g4 fun j hj hl hd => ?_
      rcases hpt j hj with h | h | h
      ·exact g3 j (by simp [h]) hd
      ·exact g3 j (by simp [h]) hd
      ·rw [hrs j h] at hl; cases hl
    refine wpOp_mono ?_ (wpOp_of_WL ho hh (fun t ht => hNt i hilt t (by rw [hdo]; exact ht)) h1)
    rintro a' w' ⟨v, rfl, hM', hdl'⟩
    have hm' := m.put hilt hdst (hNt i hilt) hpre hno v
    rw [← hdo]
    have hC' : ∀ j ∈ C, (if j = i then v else vals j) = c j := fun j hj => by
     have : j ≠ i := by rintro rfl; exact hiC hj
     rw [if_neg this]; exact hC j hj
    have hcr : ∀ j ∈ C ++ rd, vals j = (if j = i then v else vals j) := fun j hj => by
     have : j ≠ i := by rintro rfl; exact (List.mem_append.1 hj).elim hiC hird
     rw [if_neg this]
    have her : ∀ j, j ∈ rs.erase i ↔ j ≠ i ∧ j ∈ rs := fun j => List.Nodup.mem_erase_iff hrn
    refine ih _ _ w' w' (fun j => if j = i then v else vals j) (rd ++ [i]) (rs.erase i) (fun j hj => ?_) (fun j hj => ?_) (hrn.erase i) (fun j hj => ?_) hm' hC' (fun j hj => ?_) (fun j hj => ?_) hM' (Chg.refl _ _) ?_ hf'
    ·rcases hpt j hj with h | h | h
     ·exact .inl h
     ·exact .inr (.inl (by simp [h]))
     ·by_cases e : j = i
      ·exact .inr (.inl (by simp [e]))
      ·exact .inr (.inr ((her j).2 ⟨e, h⟩))
    ·rcases List.mem_append.1 hj with h | h
     ·rcases List.mem_append.1 h with h | h
      ·exact hrl j (by simp [h])
      ·have : j = i := by simpa using h
       subst this
       exact hrl j (by simp [hirs])
     ·exact hrl j (by simp [((her j).1 h).2])
    ·intro h
     have h5 := (her j).1 h
     rcases List.mem_append.1 hj with h6 | h6
     ·exact hdj j h6 h5.2
     ·exact h5.1 (by simpa using h6)
    ·rw [hgs listed i j hil]; split
     ·rfl
     ·rename_i hne
      rcases List.mem_append.1 hj with hj | hj
      ·exact hrd j hj
      ·exact absurd (by simpa using hj) hne
    ·have h5 := (her j).1 hj
     rw [hgs listed i j hil, if_neg h5.1]; exact hrs j h5.2
    ·rw [henv _ (rd ++ [i]) hC', ← List.append_assoc, envAfter_append, ← envAfter_congr ops vals _ (C ++ rd) E0 hcr]
     simp only [envAfter, if_true]
     rw [hdo, List.length_erase_of_mem hirs, hn]
     exact hdl'
 refine wp_region_any hm (key ops.size _ a0 w.drew w.drew c [] R (fun i hi => (hin i hi).elim .inl (fun h => .inr (.inr h))) (fun i hi => ⟨hlt i (by simpa using Or.inr (by simpa using hi)), fun h => (List.nodup_append.1 hnd).2.2 i h i (by simpa using hi) rfl⟩) (List.nodup_append.1 hnd).2.1 (fun i h => by cases h) ?_ (fun _ _ => rfl) (fun _ h => by cases h) (fun i hi => ?_) hK0 (Chg.refl _ _) hDL ?_)
 ·refine ⟨by simp, ha0.size, ha0.defs, fun i hi hl => ?_, fun t v ht _ => ha0.env t v ht, fun i hi hl => ?_⟩
  ·simp [Array.getD_eq_getD_getElem?, hi] at hl
  ·simp [Array.getD_eq_getD_getElem?, hi] at hl
 ·have hi' := hlt i (by simp [hi])
  simp [Array.getD_eq_getD_getElem?, hi']
 ·refine Nat.le_trans (List.length_filter_le _ _) (by simp)
theorem WC.drawM {id : Nat} (M : Nat → Prop) (C R : List Nat) (hm : P.follows .mixedOrders = true) (hok : drawOkT ops C R = true) (hN : ((List.range ops.size).all fun i => (dstOf ops i).all fun t => Nat.blt t N) = true) {w : World}
 (h0 : ∀ wd, Chg Nob w wd → wd.heap.size = w.heap.size → DQT P ops Q N (Chg M wd) wd R C E0) : WC P (.region id ops true) Q N E0 w :=
 WC.drawT (fun wd => Chg M wd) C R hm hok hN (Chg.refl _ _) (fun _ _ _ h k => h.pure k) h0
end
section
variable {P : Program} {ops : Array Oper} {Q : Exit → Act → World → Prop} {N : Nat} {M : Nat → Prop} {K : World → Prop} {w0 w : World} {E E' : Env} {R is : List Nat} {i : Nat} {o : Oper}
theorem DQT.step {v : Value} (E' : Env) (ho : ops[i]? = some o) (hs : Sub E' E) (hk : (E'.all fun p => (looks ops i).contains p.1) = true)
 (h1 : ∀ w', K w' → WL P ops (One o.dst fun u w'' => u = v ∧ Chg Nob w' w'') N [o] E' w') (h2 : DQT P ops Q N K w0 R is (putE E o.dst v)) : DQT P ops Q N K w0 R (i :: is) E :=
 ⟨v, fun o' ho' w' hw => by rw [ho] at ho'; injection ho' with ho'; subst ho'; exact (h1 w' hw).sub (sub_restr hs hk), by rw [dstOf_eq ho]; exact h2⟩
theorem DQT.done (h : Chg M w0 w0 → DT P ops Q N (Chg M w0) R.length R E w0) : DQT P ops Q N (Chg M w0) w0 R [] E := h (Chg.refl _ _)
theorem DT.step {T : Env → World → Prop} (E' : Env) (ho : ops[i]? = some o) (hs : Sub E' E) (hk : (E'.all fun p => (looks ops i).contains p.1) = true)
 (h1 : ∀ w', Chg Nob w w' → WL P ops (One o.dst fun v w'' => K w'' ∧ T (putE E o.dst v) w'') N [o] E' w') :
 ∀ w', Chg Nob w w' → ∀ o', ops[i]? = some o' → WL P ops (One o'.dst fun v w'' => K w'' ∧ T (putE E o'.dst v) w'') N [o'] (restr ops i E) w' :=
 fun w' hw o' ho' => by rw [ho] at ho'; injection ho' with ho'; subst ho'; exact (h1 w' hw).sub (sub_restr hs hk)
theorem DT.done (h : ∀ w', Chg Nob w w' → WX Q .normal N E w') (rs : List Nat) : DT P ops Q N K 0 rs E w := h
end
end Go.HL
namespace Go.HL
open Go.RowKit
section
variable {P : Program} {ops : Array Oper} {Q : Exit → Act → World → Prop} {N : Nat} {E : Env} {w : World} {rest : List Oper} {ty : TypeId} {pos : String} {af : Array Edge} {d : Nat} {α : Type} {e : Enc α} {S : Nat → Prop}
theorem WL.append0 {t tx T : TypeId} {s x : Operand} {ao : Option Addr} {bytes : Nat} {ys : List α} {z v : Value} (hinfo : (P.info? T).map (fun i => (i.zero, i.size, i.bytes)) = some (some z, e.sz, bytes)) (hzs : z.cells.size = e.sz)
 (ht : P.underlying t = some (.slice T)) (hs : ev E s = some (.slice ao 0 0)) (hx : ev E x = some v) (ho : Row S w T e ao 0 ([] : List α)) (hsrc : Src P e.sz tx v ys.length (e.all ys) w) (hne : 0 < ys.length)
 (hb : ys.length * bytes ≤ 140737488355328 ∧ ys.length ≤ 9223372036854775807) (hd : Nat.blt d N = true)
 (h : ∀ g c2 w', Row (fun b => b = g) w' T e (some ⟨g, 0, none⟩) c2 ys → Chg Nob w w' → g = w.heap.size → w'.heap.size = w.heap.size + 1 → WL P ops Q N rest ((d, .slice (some ⟨g, 0, none⟩) ys.length c2) :: E) w') :
 WL P ops Q N (⟨some d, .call ⟨.builtin .append, #[s, x], #[t, tx]⟩, ty, pos, af, none⟩ :: rest) E w := by
 obtain ⟨i, hi, h1, h2, h3⟩ := info_parts hinfo
 have hn63 : 0 + ys.length ≤ maxLen := by simpa [maxLen] using hb.2
 have hold : (Builtin.firstCells i.size 0 (.slice ao 0 0)).run P w.drew = .ok ([] : List Value).toArray w.drew := by
  cases ao with
  |none => simp [Builtin.firstCells]
  |some b => exact run_firstCells_some w.drew i.size 0 b 0 0 [] (by simp) (fun j v h => by simp at h)
 have hr := run_append_grow_src (P := P) w t tx ty T i z ht hi h1 ao 0 0 [] hold v ys.length (e.all ys) (by rw [h2]; exact hsrc) (by omega) (by omega) (growslice_fits (by omega) (by rw [h3]; simpa using hb.1))
 have hge := grownCap_ge w (0 + ys.length) 0 T
 have hcm : grownCap w (0 + ys.length) 0 T ≤ maxLen := grownCap_le_maxLen w (0 + ys.length) 0 T hn63
 have hlen : (e.all ys).length = ys.length * e.sz := Enc.all_len _ _
 obtain ⟨cap, hcap⟩ : ∃ cap, cap = grownCap w (0 + ys.length) 0 T := ⟨_, rfl⟩
 rw [← hcap] at hr hge hcm
 obtain ⟨W', hW'⟩ : ∃ W', W' = w.drew.alloc (.cells (([] ++ e.all ys).toArray ++ Builtin.zeroCells z.cells (cap - (0 + ys.length))) T) := ⟨_, rfl⟩
 rw [← hW', Nat.zero_add] at hr
 refine WL.run (.slice (some ⟨w.heap.size, 0, none⟩) ys.length cap) W' (fun a ha => by simp [execOp, resolve, invoke, builtin, ev_eval ha hs, ev_eval ha hx, hr]) hd ?_
 subst hW'
 have hnew := h w.heap.size cap (w.drew.alloc (.cells (([] ++ e.all ys).toArray ++ Builtin.zeroCells z.cells (cap - (0 + ys.length))) T)) ?_ ⟨rfl, rfl, rfl, by simp, fun k hk _ => Below.heap_alloc w.drew _ k hk⟩ rfl (by simp)
 ·exact hnew
 ·refine ⟨fun a ea => by injection ea with ea; subst ea; rfl, hlen, by omega, .inr ⟨w.heap.size, _, (0, 0), rfl, heap_alloc_new w.drew _, fun j _ h => by omega, hcm, ?_, ?_⟩⟩
  ·simp only [Array.size_append, List.size_toArray, size_zeroCells, hzs, List.nil_append, hlen, ← Nat.add_mul]
   congr 1
   omega
  ·simp only [Array.toList_append, List.nil_append]
   rw [← hlen]
   exact List.take_left
end
end Go.HL
namespace Go.HL
open Go.RowKit
section plain
variable {K V : Type} [DecidableEq K]
def mget : List (K × V) → K → Option V
 |[], _ => none
 |(k', v) :: r, k => if k = k' then some v else mget r k
def mput : List (K × V) → K → V → List (K × V)
 |[], k, v => [(k, v)]
 |(k', v') :: r, k, v => if k = k' then (k, v) :: r else (k', v') :: mput r k v
def mdel : List (K × V) → K → List (K × V)
 |[], _ => []
 |(k', v') :: r, k => if k = k' then r else (k', v') :: mdel r k
theorem mget_put (l : List (K × V)) (k : K) (v : V) (j : K) : mget (mput l k v) j = if j = k then some v else mget l j := by
 induction l with
 |nil => simp [mput, mget]
 |cons p r ih =>
  obtain ⟨k', v'⟩ := p
  simp only [mput]
  by_cases h : k = k'
  ·subst h
   simp only [if_true, mget]
   by_cases h2 : j = k <;> simp [h2]
  ·simp only [h, if_false, mget, ih]
   by_cases h2 : j = k'
   ·subst h2
    have : ¬ j = k := fun e => h e.symm
    simp [this]
   ·simp [h2]
def fnd (l : List (K × V)) (k : K) : Nat → Option (Nat × V) := match l with
 |[] => fun _ => none
 |(k', v) :: r => fun i => if k = k' then some (i, v) else fnd r k (i + 1)
theorem fnd_none {k : K} : ∀ {l : List (K × V)} {i : Nat}, fnd l k i = none → mget l k = none ∧ (∀ v, mput l k v = l ++ [(k, v)]) ∧ mdel l k = l
 |[], _, _ => ⟨rfl, fun _ => rfl, rfl⟩
 |(k', v') :: r, i, h => by
  simp only [fnd] at h
  split at h
  ·cases h
  ·rename_i hne
   obtain ⟨h1, h2, h3⟩ := fnd_none h
   refine ⟨by simp [mget, hne, h1], fun v => by simp [mput, hne, h2 v], by simp [mdel, hne, h3]⟩
theorem fnd_some {k : K} {v : V} {j : Nat} : ∀ {l : List (K × V)} {i : Nat}, fnd l k i = some (j, v) → ∃ q, j = i + q ∧ l[q]? = some (k, v) ∧ mget l k = some v ∧ (∀ v', mput l k v' = l.set q (k, v')) ∧ mdel l k = l.eraseIdx q
 |[], _, h => by simp [fnd] at h
 |(k', v') :: r, i, h => by
  simp only [fnd] at h
  split at h
  ·rename_i he
   subst he
   injection h with h
   injection h with h1 h2
   subst h1; subst h2
   exact ⟨0, rfl, rfl, by simp [mget], fun v' => by simp [mput], by simp [mdel]⟩
  ·rename_i hne
   obtain ⟨q, h1, h2, h3, h4, h5⟩ := fnd_some h
   exact ⟨q + 1, by omega, by simpa using h2, by simp [mget, hne, h3], fun v' => by simp [mput, hne, h4 v'], by simp [mdel, hne, h5]⟩
end plain
section
variable {K V : Type} [DecidableEq K] {kv : K → Value} {vv : V → Value}
def Mp (kv : K → Value) (vv : V → Value) (w : World) (m : Nat) (l : List (K × V)) : Prop := ∃ es clk, w.heap[m]? = some (.map es clk) ∧ es.toList.map (fun e => (e.key, e.val)) = l.map (fun p => (kv p.1, vv p.2))
omit [DecidableEq K] in
theorem Mp.lt {w : World} {m : Nat} {l : List (K × V)} (h : Mp kv vv w m l) : m < w.heap.size := by
 obtain ⟨es, clk, h1, _⟩ := h
 exact (Array.getElem?_eq_some_iff.1 h1).1
omit [DecidableEq K] in
theorem Mp.chg {M : Nat → Prop} {w w' : World} {m : Nat} {l : List (K × V)} (h : Mp kv vv w m l) (k : Chg M w w') (hm : ¬ M m) : Mp kv vv w' m l := by
 obtain ⟨es, clk, h1, h2⟩ := h
 exact ⟨es, clk, k.obj h1 hm, h2⟩
omit [DecidableEq K] in
theorem Mp.pure {w w' : World} {m : Nat} {l : List (K × V)} (h : Mp kv vv w m l) (k : Chg Nob w w') : Mp kv vv w' m l := h.chg k (fun x => x)
structure KeyOk (P : Program) (T : TypeId) (kv : K → Value) : Prop where
 chk : ∀ em w k, (Instr.checkKey em 10000 T (kv k)).run P w = .ok () w
 eq : ∀ w k k', (Op.equal T (kv k) (kv k')).run P w = .ok (decide (k = k')) w
 st : ∃ fs, P.underlying T = some (.struct fs)
 same : ∀ k, Instr.sameBits 10000 (kv k) (kv k) = true
variable {P : Program} {T : TypeId}
theorem run_findAsking (hk : KeyOk P T kv) (w : World) (k : K) : ∀ (es : List MapEntry) (l : List (K × V)) (i : Nat), es.map (fun e => (e.key, e.val)) = l.map (fun p => (kv p.1, vv p.2)) →
 (Instr.findAsking T (kv k) es i).run P w = .ok ((fnd l k i).map fun r => (r.1, vv r.2)) w
 |[], l, i, h => by
  cases l with
  |nil => simp [Instr.findAsking, fnd]
  |cons p r => simp at h
 |e :: es, l, i, h => by
  cases l with
  |nil => simp at h
  |cons p r =>
   obtain ⟨k', v'⟩ := p
   simp only [List.map_cons, List.cons.injEq, Prod.mk.injEq] at h
   obtain ⟨⟨h1, h2⟩, h3⟩ := h
   have ih := run_findAsking hk w k es r (i + 1) h3
   by_cases he : k = k'
   ·simp [Instr.findAsking, h1, hk.eq, he, fnd, h2]
   ·simp [Instr.findAsking, h1, hk.eq, he, fnd, ih]
theorem run_findKey (hk : KeyOk P T kv) (w : World) (k : K) (es : List MapEntry) (l : List (K × V)) (h : es.map (fun e => (e.key, e.val)) = l.map (fun p => (kv p.1, vv p.2))) :
 (Instr.findKey T (kv k) es).run P w = .ok ((fnd l k 0).map fun r => (r.1, vv r.2)) w := by
 obtain ⟨fs, hu⟩ := hk.st
 have ha := run_findAsking hk w k es l 0 h
 cases es with
 |nil =>
  cases l with
  |nil => simp [Instr.findKey, run_underlying hu, Instr.findNow, fnd]
  |cons p r => simp at h
 |cons e es => simp [Instr.findKey, run_underlying hu, Instr.findNow, Instr.sameNow, ha]
end
section
variable {K V : Type} [DecidableEq K] {kv : K → Value} {vv : V → Value} {P : Program} {ops : Array Oper} {Q : Exit → Act → World → Prop} {N : Nat} {E : Env} {w : World} {rest : List Oper} {d : Nat} {ty t T U : TypeId} {pos : String} {af : Array Edge} {x y z : Operand} {m : Nat} {l : List (K × V)} {k : K}
theorem WL.mlookup {zv : Value} (hk : KeyOk P T kv) (ht : P.underlying t = some (.map T U)) (hz : ∀ w, (zeroValue U).run P w = .ok zv w) (hm : Mp kv vv w m l) (hx : ev E x = some (.map (some m))) (hy : ev E y = some (kv k)) (hd : Nat.blt d N = true)
 (h : WL P ops Q N rest ((d, .tuple #[((mget l k).map vv).getD zv, .bool (mget l k).isSome]) :: E) w) : WL P ops Q N (⟨some d, .lookup t x y true, ty, pos, af, none⟩ :: rest) E w := by
 refine WL.run _ w (fun a ha => ?_) hd h
 obtain ⟨es, clk, h1, h2⟩ := hm
 have hf := run_findKey hk w k es.toList l h2
 simp only [execOp, ev_eval ha hx, ev_eval ha hy]
 cases hq : fnd l k 0 with
 |none =>
  obtain ⟨h3, _⟩ := fnd_none hq
  rw [hq] at hf
  simp [Instr.lookup, run_underlying ht, MapKept.run_getObj_map h1, hk.chk, hf, hz, h3]
 |some r =>
  obtain ⟨j, v⟩ := r
  obtain ⟨q, _, _, h3, _⟩ := fnd_some hq
  rw [hq] at hf
  simp [Instr.lookup, run_underlying ht, MapKept.run_getObj_map h1, hk.chk, hf, h3]
theorem Chg.setBlk (w : World) (m : Nat) (o : Obj) : Chg (· = m) w { w with heap := w.heap.setIfInBounds m o } :=
 ⟨rfl, rfl, rfl, by simp, fun k hk hm => by
  have : m ≠ k := fun e => hm e.symm
  simp [Array.getElem?_setIfInBounds_ne this]⟩
theorem setBlk_get {w : World} {m : Nat} (o : Obj) (h : m < w.heap.size) : ({ w with heap := w.heap.setIfInBounds m o } : World).heap[m]? = some o := by simp [h]
theorem run_thatStays (hk : KeyOk P T kv) (w : World) (k : K) : (Instr.keyThatStays (kv k) (kv k)).run P w = .ok (kv k) w := by
 simp [Instr.keyThatStays, hk.same]
theorem run_mapPut {v : V} (hk : KeyOk P T kv) (ht : P.underlying t = some (.map T U)) (hm : Mp kv vv w m l) (k : K) :
 ∃ w', (Instr.mapUpdate t (.map (some m)) (kv k) (vv v)).run P w = .ok () w' ∧ Mp kv vv w' m (mput l k v) ∧ Chg (· = m) w w' ∧ w'.heap.size = w.heap.size := by
 obtain ⟨es, clk, h1, h2⟩ := hm
 have hlt := (Array.getElem?_eq_some_iff.1 h1).1
 have hf := run_findKey hk w k es.toList l h2
 cases hq : fnd l k 0 with
 |none =>
  obtain ⟨_, h3, _⟩ := fnd_none hq
  rw [hq] at hf
  refine ⟨{ w with heap := w.heap.setIfInBounds m (.map (es.push ⟨kv k, vv v, clk⟩) (clk + 1)) }, ?_, ⟨_, _, setBlk_get _ hlt, ?_⟩, Chg.setBlk _ _ _, by simp⟩
  ·simp [Instr.mapUpdate, run_underlying ht, MapKept.run_getObj_map h1, hk.chk, hf, MapKept.run_setObj_map _ h1]
  ·rw [h3]
   simp [h2]
 |some r =>
  obtain ⟨j, u⟩ := r
  obtain ⟨q, h3, h4, _, h5, _⟩ := fnd_some hq
  rw [Nat.zero_add] at h3
  subst h3
  rw [hq] at hf
  have hlen : es.toList.length = l.length := by simpa using congrArg List.length h2
  have hjl : j < l.length := (List.getElem?_eq_some_iff.1 h4).1
  have hjs : j < es.size := by rw [← Array.length_toList, hlen]; exact hjl
  have hje : es[j]? = some es[j] := Array.getElem?_eq_getElem hjs
  have hkey : es[j].key = kv k := by
   have := congrArg (fun l : List (Value × Value) => l[j]?) h2
   simp only [List.getElem?_map, h4, Option.map_some, Array.getElem?_toList, hje] at this
   injection this with this
   injection this
  refine ⟨{ w with heap := w.heap.setIfInBounds m (.map (es.modify j fun e => { e with key := kv k, val := vv v }) clk) }, ?_, ⟨_, _, setBlk_get _ hlt, ?_⟩, Chg.setBlk _ _ _, by simp⟩
  ·simp [Instr.mapUpdate, run_underlying ht, MapKept.run_getObj_map h1, hk.chk, hf, hje, hkey, run_thatStays hk, MapKept.run_setObj_map _ h1]
  ·rw [h5 v]
   apply List.ext_getElem?
   intro i
   have hi := congrArg (fun l : List (Value × Value) => l[i]?) h2
   simp only [List.getElem?_map, Array.getElem?_toList] at hi
   simp only [List.getElem?_map, Array.getElem?_toList, Array.getElem?_modify, List.getElem?_set]
   by_cases e : j = i
   ·subst e
    simp [hje, hjl]
   ·simp [e, hi]
theorem WL.mput {v : V} (hk : KeyOk P T kv) (ht : P.underlying t = some (.map T U)) (hm : Mp kv vv w m l) (hx : ev E x = some (.map (some m))) (hy : ev E y = some (kv k)) (hv : ev E z = some (vv v))
 (h : ∀ w', w'.heap.size = w.heap.size → Mp kv vv w' m (mput l k v) → Chg (· = m) w w' → WL P ops Q N rest E w') : WL P ops Q N (⟨none, .mapUpdate t x y z, ty, pos, af, none⟩ :: rest) E w := by
 obtain ⟨w', h1, h2, h3, h4⟩ := run_mapPut (v := v) hk ht hm k
 exact WL.run0 w' (fun a ha => by simp [execOp, ev_eval ha hx, ev_eval ha hy, ev_eval ha hv, h1]) (h w' h4 h2 h3)
omit [DecidableEq K] in
theorem WL.makeMap (hd : Nat.blt d N = true) (h : ∀ g w', w.heap.size = g → g < w'.heap.size → Mp kv vv w' g [] → Chg Nob w w' → WL P ops Q N rest ((d, .map (some g)) :: E) w') :
 WL P ops Q N (⟨some d, .makeMap t none, ty, pos, af, none⟩ :: rest) E w :=
 WL.run _ (w.alloc (.map #[] 0)) (fun a ha => by simp [execOp, Instr.makeMap, newObj, Sem.run]) hd
  (h _ _ rfl (by simp) ⟨#[], 0, heap_alloc_new w _, rfl⟩ (Chg.alloc _ _))
end
end Go.HL
namespace Go.HL
open Go.RowKit
def kb (w : World) (b : Nat) : Option (Option TypeId) := (w.heap[b]?).map fun o => match o with
 |.cells _ e _ => some e
 |_ => none
theorem Blk.kb {w : World} {b : Nat} {e : TypeId} {cs : List Value} (h : Blk w b e cs) : kb w b = some (some e) := by
 unfold Blk at h
 simp [Go.HL.kb, h]
theorem Mp.kb {K V : Type} {kv : K → Value} {vv : V → Value} {w : World} {m : Nat} {l : List (K × V)} (h : Mp kv vv w m l) : kb w m = some none := by
 obtain ⟨es, clk, h1, _⟩ := h
 simp [Go.HL.kb, h1]
theorem Own.kb {w : World} {e : TypeId} {sz : Nat} {ao : Option Addr} {n c : Nat} {cs : List Value} (h : Own w e sz ao n c cs) : At (fun b => kb w b = some (some e)) ao := fun a ea => by
 rcases h.2.2 with ⟨rfl, _⟩ | ⟨g, cur, fr, rfl, hg, _⟩
 ·cases ea
 ·injection ea with ea
  subst ea
  simp [Go.HL.kb, hg]
theorem Row.chgK {α : Type} {S M : Nat → Prop} {w w' : World} {T : TypeId} {e : Enc α} {ao : Option Addr} {c : Nat} {xs : List α} (h : Row S w T e ao c xs) (k : Chg M w w') (hd : ∀ b, b < w.heap.size → M b → kb w b ≠ some (some T)) : Row S w' T e ao c xs :=
 ⟨h.at_, h.own.chg k (fun a ea hm => hd _ (h.own.lt a ea) hm (h.own.kb a ea))⟩
theorem Row.kb {α : Type} {S : Nat → Prop} {w : World} {T : TypeId} {e : Enc α} {ao : Option Addr} {c : Nat} {xs : List α} (h : Row S w T e ao c xs) : Row (fun b => S b ∧ kb w b = some (some T)) w T e ao c xs := ⟨fun a ea => ⟨h.at_ a ea, h.own.kb a ea⟩, h.own⟩
theorem splice_take {α : Type} {L vs : List α} {o n : Nat} (h1 : o + vs.length ≤ n) (h2 : n ≤ L.length) : (L.take o ++ vs ++ L.drop (o + vs.length)).take n = (L.take n).take o ++ vs ++ (L.take n).drop (o + vs.length) := by
 apply List.ext_getElem?
 intro j
 simp only [List.append_assoc, List.getElem?_take, List.getElem?_append, List.length_take, List.getElem?_drop]
 rw [show min o L.length = o from by omega, show min o (min n L.length) = o from by omega]
 by_cases hj : j < n
 ·simp only [hj, if_true]
  by_cases h3 : j < o
  ·simp [h3, hj]
  ·by_cases h4 : j - o < vs.length
   ·simp [h3, h4]
   ·simp [h3, h4, show o + vs.length + (j - o - vs.length) < n from by omega]
 ·simp [hj, show ¬ j < o from by omega, show ¬ j - o < vs.length from by omega]
  intro h5
  exfalso
  omega
section
variable {α : Type} {e : Enc α} {S : Nat → Prop} {w : World} {T : TypeId} {g c : Nat} {xs ys : List α}
theorem Enc.all_set (e : Enc α) {xs : List α} {j : Nat} (hj : j < xs.length) (z : α) : e.all (xs.set j z) = (e.all xs).take (j * e.sz) ++ e.f z ++ (e.all xs).drop (j * e.sz + (e.f z).length) := by
 rw [List.set_eq_take_append_cons_drop, if_pos hj, Enc.all_append, e.len, Enc.all_take, show j * e.sz + e.sz = (j + 1) * e.sz from by rw [Nat.add_mul, Nat.one_mul], Enc.all_drop, List.append_assoc]
 rfl
theorem Row.splice (hr : Row S w T e (some ⟨g, 0, none⟩) c xs) {o : Nat} {vs : List Value} (ho : o + vs.length ≤ xs.length * e.sz) (hl : ys.length = xs.length) (he : (e.all xs).take o ++ vs ++ (e.all xs).drop (o + vs.length) = e.all ys) :
 Row S (w.setCells g o vs) T e (some ⟨g, 0, none⟩) c ys ∧ (∀ j, j < vs.length → (w.cell? ⟨g, o + j, none⟩).isSome = true) ∧ (∀ j, j < vs.length → w.frozen? ⟨g, o + j, none⟩ = false) := by
 obtain ⟨hat, hlen, hcap, hc | ⟨g', cur, fr, hg', hg, hfr, hmax, hsz, htk⟩⟩ := hr
 ·cases hc.1
 ·injection hg' with hg'
  injection hg' with hg' _ _
  subst hg'
  have hcs : xs.length * e.sz ≤ c * e.sz := Nat.mul_le_mul_right _ hcap
  have hs2 := setCells_same g T fr vs o w cur hg (by omega)
  refine ⟨⟨hat, Enc.all_len _ _, by omega, .inr ⟨g, _, fr, rfl, hs2, ?_, hmax, ?_, ?_⟩⟩, fun j hj => ?_, fun j hj => ?_⟩
  ·intro j hj
   refine hfr j ?_
   simp only [List.size_toArray, List.length_append, List.length_take, List.length_drop, Array.length_toList] at hj
   omega
  ·simp only [List.size_toArray, List.length_append, List.length_take, List.length_drop, Array.length_toList]
   omega
  ·have hcl : cur.toList.length = cur.size := Array.length_toList
   rw [List.toList_toArray, hl, splice_take ho (by omega), htk]
   exact he
  ·rw [cell_of_row w g _ cur T fr hg, Array.getElem?_eq_getElem (by omega)]
   rfl
  ·have := hfr (o + j) (by omega)
   simp only [World.frozen?, hg]
   simpa using this
end
section
variable {P : Program} {ops : Array Oper} {Q : Exit → Act → World → Prop} {N : Nat} {E : Env} {w : World} {rest : List Oper}
 {d : Nat} {ty : TypeId} {pos : String} {af : Array Edge} {α : Type} {e : Enc α} {S : Nat → Prop} {t tb T : TypeId} {x y : Operand} {g o c : Nat} {xs ys : List α}
theorem Holds.dup {a : Act} (h : Holds N E a) {t : Nat} {v : Value} (hx : ev E (.tmp t) = some v) : Holds N ((t, v) :: E) a := ⟨h.size, h.defs, fun s u hu => by
 by_cases e : s = t
 ·subst e
  simp at hu
  subst hu
  exact h.env _ _ hx
 ·have hne : (s == t) = false := by simpa using e
  simp only [List.lookup, hne] at hu
  exact h.env s u hu⟩
theorem WL.caseB {l : List Oper} {t : Nat} {b : Bool} (hx : ev E (.tmp t) = some (.bool b)) (hT : b = true → WL P ops Q N l ((t, .bool true) :: E) w) (hF : b = false → WL P ops Q N l ((t, .bool false) :: E) w) : WL P ops Q N l E w := by
 cases b
 ·exact fun a ha => hF rfl a (ha.dup hx)
 ·exact fun a ha => hT rfl a (ha.dup hx)
theorem WL.runN {op : Op} (v : Value) (w' : World) (hrun : ∀ a, Holds N E a → (execOp a.eval ⟨none, op, ty, pos, af, none⟩).run P w = .ok (.value v) w') (h : WL P ops Q N rest E w') : WL P ops Q N (⟨none, op, ty, pos, af, none⟩ :: rest) E w := fun a ha => by
 refine wpList_plain rfl fun K hK => ?_
 unfold Oper.wp
 rw [hrun a ha]
 exact hK _ _ (h _ ha)
theorem setCells_sz (vs : List Value) : ∀ (o : Nat) (w : World), (w.setCells g o vs).heap.size = w.heap.size := by
 induction vs with
 |nil => intro o w; rfl
 |cons v r ih => intro o w; rw [World.setCells, ih]; simp
theorem WL.storeE {vs : List Value} {k : Nat} (hs : ∀ w, (sizeOf t).run P w = .ok k w) (hr : Row S w T e (some ⟨g, 0, none⟩) c xs) (hx : ev E x = some (.pointer (some ⟨g, o, none⟩))) (hy : ev E y = some (.agg vs.toArray)) (hk : vs.length = k) (h1 : ∀ u ∈ vs, u.oneCell' = true)
 (ho : o + vs.length ≤ xs.length * e.sz) (hl : ys.length = xs.length) (he : (e.all xs).take o ++ vs ++ (e.all xs).drop (o + vs.length) = e.all ys)
 (h : ∀ w', w'.heap.size = w.heap.size → Row S w' T e (some ⟨g, 0, none⟩) c ys → Chg (· = g) w w' → WL P ops Q N rest E w') :
 WL P ops Q N (⟨none, .store t x y, ty, pos, af, none⟩ :: rest) E w := by
 obtain ⟨h2, h3, h4⟩ := hr.splice ho hl he
 refine WL.run0 (w.setCells g o vs) (fun a hh => ?_) (h _ (setCells_sz _ _ _) h2 (setCells_chg g vs o w))
 have hst := run_storeCells_cells (P := P) g o vs 0 w (by simpa using h3) (by simpa using h4) h1
 simp only [Nat.add_zero] at hst
 simp [execOp, ev_eval hh hx, ev_eval hh hy, Instr.storeAt, Instr.sureAddr, storeVar, hs, Value.cells, hk, hst]
theorem WL.storeF {v : Value} (hs : ∀ w, (sizeOf t).run P w = .ok 1 w) (hr : Row S w T e (some ⟨g, 0, none⟩) c xs) (hx : ev E x = some (.pointer (some ⟨g, o, none⟩))) (hy : ev E y = some v) (h1 : v.oneCell' = true)
 (ho : o + 1 ≤ xs.length * e.sz) (hl : ys.length = xs.length) (he : (e.all xs).take o ++ [v] ++ (e.all xs).drop (o + 1) = e.all ys)
 (h : ∀ w', w'.heap.size = w.heap.size → Row S w' T e (some ⟨g, 0, none⟩) c ys → Chg (· = g) w w' → WL P ops Q N rest E w') :
 WL P ops Q N (⟨none, .store t x y, ty, pos, af, none⟩ :: rest) E w := by
 obtain ⟨h2, h3, h4⟩ := hr.splice (vs := [v]) ho hl he
 refine WL.run0 (w.setCells g o [v]) (fun a hh => ?_) (h _ (setCells_sz _ _ _) h2 (setCells_chg g [v] o w))
 have hst := run_storeCells_cells (P := P) g o [v] 0 w (by simpa using h3) (by simpa using h4) (by simpa using h1)
 simp only [Nat.add_zero] at hst
 have hc1 : v.cells = #[v] := by cases v <;> simp_all [Value.oneCell', Value.cells]
 simp [execOp, ev_eval hh hx, ev_eval hh hy, Instr.storeAt, Instr.sureAddr, storeVar, hs, hc1, hst]
theorem zeroCells_list (z : Array Value) (n : Nat) : (Builtin.zeroCells z n).toList.length = n * z.size ∧ ∀ u ∈ (Builtin.zeroCells z n).toList, u ∈ z.toList := by
 refine ⟨by rw [Array.length_toList, size_zeroCells], fun u hu => ?_⟩
 simp only [Builtin.zeroCells, Array.mem_toList_iff, Array.mem_map, Array.mem_range] at hu
 obtain ⟨i, hi, rfl⟩ := hu
 have hz : 0 < z.size := by
  rcases Nat.eq_zero_or_pos z.size with h | h
  ·rw [h, Nat.mul_zero] at hi; omega
  ·exact h
 rw [getElem!_pos z (i % z.size) (Nat.mod_lt _ hz), Array.mem_toList_iff]
 exact Array.getElem_mem _
theorem WL.clearTail {z : Value} {i m : Nat} (ht : P.underlying t = some (.slice T)) (hz : ∀ w, (zeroValue T).run P w = .ok z w) (hzs : z.cells.size = e.sz) (hz1 : ∀ u ∈ z.cells.toList, u.oneCell' = true) (hr : Row S w T e (some ⟨g, 0, none⟩) c xs) (hi : i + m = xs.length)
 (hx : ev E x = some (.slice (cutAt (some ⟨g, 0, none⟩) c i e.sz) m (c - i)))
 (h : ∀ w', w'.heap.size = w.heap.size → Row S w' T e (some ⟨g, 0, none⟩) c (xs.take i) → Chg (· = g) w w' → WL P ops Q N rest E w') :
 WL P ops Q N (⟨none, .call ⟨.builtin .clear, #[x], #[t]⟩, ty, pos, af, none⟩ :: rest) E w := by
 rcases Nat.eq_zero_or_pos m with hm | hm
 ·subst hm
  have hxs : xs.take i = xs := List.take_of_length_le (by omega)
  refine WL.runN (.tuple #[]) w (fun a ha => ?_) (h w rfl (by rw [hxs]; exact hr) ((Chg.refl Nob w).mono (fun _ _ f => f.elim)))
  have hcl : (Builtin.clear_ #[t] ty #[.slice (cutAt (some ⟨g, 0, none⟩) c i e.sz) 0 (c - i)]).run P w = .ok (.tuple #[]) w := by
   cases cutAt (some ⟨g, 0, none⟩) c i e.sz <;> simp [Builtin.clear_, run_underlying ht]
  simp [execOp, resolve, invoke, builtin, ev_eval ha hx, hcl]
 ·have hcap := hr.own.cap
  have hne : ¬ c = i := by omega
  have hcut : cutAt (some (⟨g, 0, none⟩ : Addr)) c i e.sz = some ⟨g, i * e.sz, none⟩ := by simp [cutAt, hne, Addr.add_lit]
  rw [hcut] at hx
  obtain ⟨hl, hu⟩ := zeroCells_list z.cells m
  obtain ⟨vs, hvs⟩ : ∃ vs, vs = (Builtin.zeroCells z.cells m).toList := ⟨_, rfl⟩
  rw [← hvs] at hl hu
  rw [hzs] at hl
  obtain ⟨hat, hlen, hcp, hc0 | ⟨g', cur, fr, hg', hg, hfr, hmax, hsz, htk⟩⟩ := hr
  ·cases hc0.1
  ·injection hg' with hg'
   injection hg' with hg' _ _
   subst hg'
   have e1 : i * e.sz + m * e.sz = xs.length * e.sz := by rw [← Nat.add_mul, hi]
   have hcs : xs.length * e.sz ≤ c * e.sz := Nat.mul_le_mul_right _ hcap
   have hs2 := setCells_same g T fr vs (i * e.sz) w cur hg (by omega)
   have hst := run_storeCells_cells (P := P) g (i * e.sz) vs 0 w (fun j hj => by
    rw [Nat.add_zero, cell_of_row w g _ cur T fr hg, Array.getElem?_eq_getElem (by omega)]
    rfl) (fun j hj => by
    have := hfr (i * e.sz + 0 + j) (by omega)
    simp only [World.frozen?, hg]
    simpa using this) (fun u h5 => hz1 u (hu u h5))
   simp only [Nat.add_zero] at hst
   refine WL.runN (.tuple #[]) (w.setCells g (i * e.sz) vs) (fun a ha => ?_) (h _ (setCells_sz _ _ _) ⟨hat, Enc.all_len _ _, by simp; omega, .inr ⟨g, _, fr, rfl, hs2, ?_, hmax, ?_, ?_⟩⟩ (setCells_chg g vs _ w))
   ·obtain ⟨q, rfl⟩ : ∃ q, m = q + 1 := ⟨m - 1, by omega⟩
    have hcl : (Builtin.clear_ #[t] ty #[.slice (some ⟨g, i * e.sz, none⟩) (q + 1) (c - i)]).run P w = .ok (.tuple #[]) (w.setCells g (i * e.sz) vs) := by
     simp [Builtin.clear_, run_underlying ht, hz, ← hvs, hst]
    simp [execOp, resolve, invoke, builtin, ev_eval ha hx, hcl]
   ·intro j hj
    refine hfr j ?_
    simp only [List.size_toArray, List.length_append, List.length_take, List.length_drop, Array.length_toList] at hj
    omega
   ·simp only [List.size_toArray, List.length_append, List.length_take, List.length_drop, Array.length_toList]
    omega
   ·rw [List.toList_toArray, ← Enc.all_take, ← htk, List.take_take, List.length_take, Nat.min_eq_left (show i ≤ xs.length by omega), Nat.min_eq_left (Nat.mul_le_mul_right _ (show i ≤ xs.length by omega)), List.append_assoc, List.take_append_of_le_length (by rw [List.length_take, Array.length_toList]; omega), List.take_take, Nat.min_self]
theorem WL.sliceRow {hi : Operand} {i n : Nat} {j : IntKind} (ht : P.underlying t = some (.slice T)) (hs : ∀ w, (sizeOf T).run P w = .ok e.sz w) (hx : ev E x = some (.slice (some ⟨g, 0, none⟩) n c)) (hhi : ev E hi = some (.int j (i : Int))) (hi' : i ≤ c) (hd : Nat.blt d N = true)
 (h : WL P ops Q N rest ((d, .slice (some ⟨g, 0, none⟩) i c) :: E) w) : WL P ops Q N (⟨some d, .slice t x none (some hi) none, ty, pos, af, none⟩ :: rest) E w := by
 refine WL.run _ w (fun a ha => ?_) hd h
 simp only [execOp, ev_eval ha hx, Option.map_none, Option.map_some, ev_eval ha hhi]
 have := run_sliceAt w ht hs (some ⟨g, 0, none⟩) n c 0 i .i64 j none (some (.int j (i : Int))) (.inr ⟨rfl, rfl⟩) (.inl ⟨rfl, hi'⟩) (Nat.zero_le _)
 have hc : cutAt (some (⟨g, 0, none⟩ : Addr)) c 0 e.sz = some ⟨g, 0, none⟩ := by
  unfold cutAt
  split <;> simp [Addr.add_lit]
 rw [hc] at this
 simp [this]
theorem WL.makeFun {f : FuncId} {v : Value} (hx : ev E x = some v) (hd : Nat.blt d N = true) (h : WL P ops Q N rest ((d, .func (.func f) #[] #[v]) :: E) w) :
 WL P ops Q N (⟨some d, .makeFunc (.func f) #[] #[x], ty, pos, af, none⟩ :: rest) E w :=
 WL.run _ w (fun a ha => by simp [execOp, ev_eval ha hx, Instr.makeFunc]) hd h
theorem WL.qq {ao : Option Addr} (ht : P.underlying t = some (.pointer (P.pointee t))) (hx : ev E x = some (.pointer ao)) (hy : ev E y = some (.pointer none)) (hd : Nat.blt d N = true) (h : WL P ops Q N rest ((d, .bool ao.isNone) :: E) w) :
 WL P ops Q N (⟨some d, .binOp .eql t x y tb, ty, pos, af, none⟩ :: rest) E w :=
 WL.run _ w (fun a ha => by simp [execOp, ev_eval ha hx, ev_eval ha hy, eqGuard, binOp, run_equal_pointer_nil (P := P) w t ao ht]) hd h
theorem WL.ptrSome {ao : Option Addr} (ht : P.underlying t = some (.pointer (P.pointee t))) (hx : ev E x = some (.pointer ao)) (hy : ev E y = some (.pointer none)) (hd : Nat.blt d N = true) (h : WL P ops Q N rest ((d, .bool ao.isSome) :: E) w) :
 WL P ops Q N (⟨some d, .binOp .neq t x y tb, ty, pos, af, none⟩ :: rest) E w :=
 WL.run _ w (fun a ha => by
  have : (!ao.isNone) = ao.isSome := by cases ao <;> rfl
  simp [execOp, ev_eval ha hx, ev_eval ha hy, eqGuard, binOp, run_equal_pointer_nil (P := P) w t ao ht, this]) hd h
theorem WL.mdel0 {K V : Type} [DecidableEq K] {kv : K → Value} {vv : V → Value} {U : TypeId} {m : Nat} {l : List (K × V)} {k : K} {ats : Array TypeId} (hk : KeyOk P T kv) (ht : P.underlying t = some (.map T U)) (hm : Mp kv vv w m l) (hx : ev E x = some (.map (some m))) (hy : ev E y = some (kv k)) (hat : ats[0]? = some t)
 (h : ∀ w', w'.heap.size = w.heap.size → Mp kv vv w' m (Go.HL.mdel l k) → Chg (· = m) w w' → WL P ops Q N rest E w') : WL P ops Q N (⟨none, .call ⟨.builtin .delete, #[x, y], ats⟩, ty, pos, af, none⟩ :: rest) E w := by
 obtain ⟨es, clk, h1, h2⟩ := hm
 have hlt := (Array.getElem?_eq_some_iff.1 h1).1
 have hf := run_findKey hk w k es.toList l h2
 cases hq : fnd l k 0 with
 |none =>
  obtain ⟨_, _, h3⟩ := fnd_none hq
  rw [hq] at hf
  refine WL.runN (.tuple #[]) { w with heap := w.heap.setIfInBounds m (.map es clk) } (fun a ha => ?_) (h _ (by simp) ⟨_, _, setBlk_get _ hlt, by rw [h3]; exact h2⟩ (Chg.setBlk _ _ _))
  simp [execOp, resolve, invoke, builtin, ev_eval ha hx, ev_eval ha hy, Builtin.delete_, hat, run_underlying ht, MapKept.run_getObj_map h1, hk.chk, hf, MapKept.run_setObj_map _ h1]
 |some r =>
  obtain ⟨j, u⟩ := r
  obtain ⟨q, h3, h4, _, _, h5⟩ := fnd_some hq
  rw [Nat.zero_add] at h3
  subst h3
  rw [hq] at hf
  refine WL.runN (.tuple #[]) { w with heap := w.heap.setIfInBounds m (.map (es.eraseIdxIfInBounds j) clk) } (fun a ha => ?_) (h _ (by simp) ⟨_, _, setBlk_get _ hlt, ?_⟩ (Chg.setBlk _ _ _))
  ·simp [execOp, resolve, invoke, builtin, ev_eval ha hx, ev_eval ha hy, Builtin.delete_, hat, run_underlying ht, MapKept.run_getObj_map h1, hk.chk, hf, MapKept.run_setObj_map _ h1]
  ·rw [h5]
   have hlen : es.toList.length = l.length := by simpa using congrArg List.length h2
   have hjl : j < l.length := (List.getElem?_eq_some_iff.1 h4).1
   have hje : j < es.size := by rw [← Array.length_toList, hlen]; exact hjl
   rw [Array.eraseIdxIfInBounds, dif_pos hje, Array.toList_eraseIdx, List.eraseIdx_eq_take_drop_succ, List.eraseIdx_eq_take_drop_succ, List.map_append, List.map_append, List.map_take, List.map_take, List.map_drop, List.map_drop, h2]
end
end Go.HL
namespace Go.HL
open Go.RowKit
section
variable {P : Program} {ops : Array Oper} {Q : Exit → Act → World → Prop} {N : Nat} {E : Env} {w : World} {rest : List Oper} {d : Nat} {ty : TypeId} {pos : String} {af : Array Edge} {t tb : TypeId} {x y : Operand} {k : IntKind} {m n : Int} {s u : ByteArray}
theorem WL.eqlT (hx : ev E x = some (.int k m)) (hy : ev E y = some (.int k n)) (hd : Nat.blt d N = true) (e : m = n) (h : WL P ops Q N rest ((d, .bool true) :: E) w) : WL P ops Q N (⟨some d, .binOp .eql t x y tb, ty, pos, af, none⟩ :: rest) E w :=
 WL.qi hx hy hd (fun _ => h) (fun c => by exfalso; first | exact c e | exact e c | omega)
theorem WL.eqlF (hx : ev E x = some (.int k m)) (hy : ev E y = some (.int k n)) (hd : Nat.blt d N = true) (e : m ≠ n) (h : WL P ops Q N rest ((d, .bool false) :: E) w) : WL P ops Q N (⟨some d, .binOp .eql t x y tb, ty, pos, af, none⟩ :: rest) E w :=
 WL.qi hx hy hd (fun c => by exfalso; first | exact c e | exact e c | omega) (fun _ => h)
theorem WL.neqT (hx : ev E x = some (.int k m)) (hy : ev E y = some (.int k n)) (hd : Nat.blt d N = true) (e : m ≠ n) (h : WL P ops Q N rest ((d, .bool true) :: E) w) : WL P ops Q N (⟨some d, .binOp .neq t x y tb, ty, pos, af, none⟩ :: rest) E w :=
 WL.qo hx hy hd (fun _ => h) (fun c => by exfalso; first | exact c e | exact e c | omega)
theorem WL.qs (hx : ev E x = some (.int k m)) (hy : ev E y = some (.int k n)) (hd : Nat.blt d N = true) (e : m = n) (h : WL P ops Q N rest ((d, .bool false) :: E) w) : WL P ops Q N (⟨some d, .binOp .neq t x y tb, ty, pos, af, none⟩ :: rest) E w :=
 WL.qo hx hy hd (fun c => by exfalso; first | exact c e | exact e c | omega) (fun _ => h)
theorem WL.lssT (hx : ev E x = some (.int k m)) (hy : ev E y = some (.int k n)) (hd : Nat.blt d N = true) (e : m < n) (h : WL P ops Q N rest ((d, .bool true) :: E) w) : WL P ops Q N (⟨some d, .binOp .lss t x y tb, ty, pos, af, none⟩ :: rest) E w :=
 WL.qh hx hy hd (fun _ => h) (fun c => by exfalso; first | exact c e | exact e c | omega)
theorem WL.lssF (hx : ev E x = some (.int k m)) (hy : ev E y = some (.int k n)) (hd : Nat.blt d N = true) (e : n ≤ m) (h : WL P ops Q N rest ((d, .bool false) :: E) w) : WL P ops Q N (⟨some d, .binOp .lss t x y tb, ty, pos, af, none⟩ :: rest) E w :=
 WL.qh hx hy hd (fun c => by exfalso; first | exact c e | exact e c | omega) (fun _ => h)
theorem WL.geqT (hx : ev E x = some (.int k m)) (hy : ev E y = some (.int k n)) (hd : Nat.blt d N = true) (e : n ≤ m) (h : WL P ops Q N rest ((d, .bool true) :: E) w) : WL P ops Q N (⟨some d, .binOp .geq t x y tb, ty, pos, af, none⟩ :: rest) E w :=
 WL.za hx hy hd (fun _ => h) (fun c => by exfalso; first | exact c e | exact e c | omega)
theorem WL.geqF (hx : ev E x = some (.int k m)) (hy : ev E y = some (.int k n)) (hd : Nat.blt d N = true) (e : m < n) (h : WL P ops Q N rest ((d, .bool false) :: E) w) : WL P ops Q N (⟨some d, .binOp .geq t x y tb, ty, pos, af, none⟩ :: rest) E w :=
 WL.za hx hy hd (fun c => by exfalso; first | exact c e | exact e c | omega) (fun _ => h)
theorem WL.sneqT (hx : ev E x = some (.string s)) (hy : ev E y = some (.string u)) (hd : Nat.blt d N = true) (e : s ≠ u) (h : WL P ops Q N rest ((d, .bool true) :: E) w) : WL P ops Q N (⟨some d, .binOp .neq t x y tb, ty, pos, af, none⟩ :: rest) E w :=
 WL.sneq? hx hy hd (fun _ => h) (fun c => by exfalso; first | exact c e | exact e c)
theorem WL.sneqF (hx : ev E x = some (.string s)) (hy : ev E y = some (.string u)) (hd : Nat.blt d N = true) (e : s = u) (h : WL P ops Q N rest ((d, .bool false) :: E) w) : WL P ops Q N (⟨some d, .binOp .neq t x y tb, ty, pos, af, none⟩ :: rest) E w :=
 WL.sneq? hx hy hd (fun c => by exfalso; first | exact c e | exact e c) (fun _ => h)
end
end Go.HL
namespace Go.HL
open Go.RowKit
section
variable {P : Program} {ops : Array Oper} {Q : Exit → Act → World → Prop} {N : Nat} {E : Env} {w : World} {rest : List Oper} {ty : TypeId} {pos : String} {af : Array Edge} {d : Nat} {α : Type} {e : Enc α} {t T tx : TypeId}
theorem all_app (xs ys : List α) : e.all (xs ++ ys) = e.all xs ++ e.all ys := by simp [Enc.all]
theorem WL.copyRow {S S2 : Nat → Prop} {x y : Operand} {g c i cy : Nat} {ao : Option Addr} {xs ys : List α} (ht : P.underlying t = some (.slice T)) (hinfo : (P.info? T).map (·.size) = some 1) (h1 : e.sz = 1) (hr : Row S w T e (some ⟨g, 0, none⟩) c xs) (hy : RSl S2 w e ao cy ys) (hi : i + ys.length ≤ xs.length) (hne : 0 < ys.length)
 (hx : ev E x = some (.slice (cutAt (some ⟨g, 0, none⟩) c i e.sz) (xs.length - i) (c - i))) (hs : ev E y = some (.slice ao ys.length cy)) (hd : Nat.blt d N = true)
 (h : ∀ w', w'.heap.size = w.heap.size → Row S w' T e (some ⟨g, 0, none⟩) c (xs.take i ++ ys ++ xs.drop (i + ys.length)) → Chg (· = g) w w' → WL P ops Q N rest ((d, .int .i64 (ys.length : Int)) :: E) w') :
 WL P ops Q N (⟨some d, .call ⟨.builtin .copy, #[x, y], #[t, tx]⟩, ty, pos, af, none⟩ :: rest) E w := by
 have hcap := hr.own.cap
 have hne2 : ¬ c = i := by omega
 have hcut : cutAt (some (⟨g, 0, none⟩ : Addr)) c i e.sz = some ⟨g, i, none⟩ := by simp [cutAt, hne2, Addr.add_lit, h1]
 rw [hcut] at hx
 obtain ⟨vs, hvs⟩ : ∃ vs, vs = e.all ys := ⟨_, rfl⟩
 have hvl : vs.length = ys.length := by rw [hvs, Enc.all_len, h1, Nat.mul_one]
 have hv1 : ∀ u ∈ vs, u.oneCell' = true := by
  rw [hvs]
  intro u hu
  obtain ⟨q, _, hq⟩ := List.mem_flatMap.1 hu
  exact e.one q u hq
 obtain ⟨a, rfl⟩ : ∃ a, ao = some a := by
  cases ao with
  |none => have := hy.none_nil; subst this; simp at hne
  |some a => exact ⟨a, rfl⟩
 obtain ⟨hat, hlen, hcp, hc0 | ⟨g', cur, fr, hg', hg, hfr, hmax, hsz, htk⟩⟩ := hr
 ·cases hc0.1
 ·injection hg' with hg'
  injection hg' with hg' _ _
  subst hg'
  rw [h1] at hsz htk hlen
  simp only [Nat.mul_one] at hsz htk hlen
  have hl := run_loadCells_list (P := P) w a vs (fun j v hj => by
   rw [hvs] at hj
   obtain ⟨b, off, ea, hc⟩ := hy.sl.2 j v hj
   injection ea with ea
   subst ea
   rw [Addr.add_lit]
   exact hc)
  have hs2 := setCells_same g T fr vs i w cur hg (by omega)
  have hst := run_storeCells_cells (P := P) g i vs 0 w (fun j hj => by
   rw [Nat.add_zero, cell_of_row w g _ cur T fr hg, Array.getElem?_eq_getElem (by omega)]
   rfl) (fun j hj => by
   have := hfr (i + 0 + j) (by omega)
   simp only [World.frozen?, hg]
   simpa using this) hv1
  simp only [Nat.add_zero] at hst
  refine WL.run (.int .i64 (ys.length : Int)) (w.setCells g i vs) (fun a' ha => ?_) hd (h _ (setCells_sz _ _ _) ⟨hat, Enc.all_len _ _, by simp; omega, .inr ⟨g, _, fr, rfl, hs2, ?_, hmax, ?_, ?_⟩⟩ (setCells_chg g vs _ w))
  ·have hmin : Nat.min ys.length (xs.length - i) = ys.length := Nat.min_eq_left (by omega)
   have hcl : (Builtin.copy_ #[t, tx] ty #[.slice (some ⟨g, i, none⟩) (xs.length - i) (c - i), .slice (some a) ys.length cy]).run P w = .ok (.int .i64 (ys.length : Int)) (w.setCells g i vs) := by
    cases hq : P.info? T with
    |none => simp [hq] at hinfo
    |some ii =>
     have hi1 : ii.size = 1 := by simpa [hq] using hinfo
     rw [hvl] at hl
     simp [Builtin.copy_, run_underlying ht, Builtin.lenOf, Builtin.firstCells, sizeOf, typeInfo, hq, hi1, hmin, hl, hst]
     rfl
   simp [execOp, resolve, invoke, builtin, ev_eval ha hx, ev_eval ha hs, hcl]
  ·intro j hj
   refine hfr j ?_
   simp only [List.size_toArray, List.length_append, List.length_take, List.length_drop, Array.length_toList] at hj
   omega
  ·simp only [List.size_toArray, List.length_append, List.length_take, List.length_drop, Array.length_toList, h1, Nat.mul_one]
   omega
  ·have e1 : e.all (xs.take i) = cur.toList.take i := by
    have := Enc.all_take e xs i
    rw [h1, Nat.mul_one] at this
    rw [← this, ← htk, List.take_take, Nat.min_eq_left (by omega)]
   have e2 : e.all (xs.drop (i + ys.length)) = (cur.toList.take xs.length).drop (i + ys.length) := by
    have h5 : e.all xs = e.all (xs.take (i + ys.length)) ++ e.all (xs.drop (i + ys.length)) := by rw [← all_app, List.take_append_drop]
    have h6 : (e.all (xs.take (i + ys.length))).length = i + ys.length := by rw [Enc.all_len, h1, Nat.mul_one, List.length_take]; omega
    rw [htk, h5, List.drop_append_of_le_length (by omega), List.drop_of_length_le (l := e.all (xs.take (i + ys.length))) (by omega), List.nil_append]
   rw [all_app, all_app, e1, e2, ← hvs]
   have hcl : cur.toList.length = cur.size := Array.length_toList
   apply List.ext_getElem?
   intro j
   simp only [h1, Nat.mul_one, List.getElem?_take, List.getElem?_append, List.length_append, List.length_take, List.getElem?_drop, List.length_drop, hcl, hvl]
   by_cases h7 : j < i
   ·have a1 : j < min i cur.size := by omega
    have a2 : j < min i cur.size + ys.length := by omega
    have a3 : j < min i xs.length + ys.length + (xs.length - (i + ys.length)) := by omega
    simp [a1, a2, a3]
   ·by_cases h8 : j < i + ys.length
    ·have a1 : ¬ j < min i cur.size := by omega
     have a2 : j < min i cur.size + ys.length := by omega
     have a3 : j < min i xs.length + ys.length + (xs.length - (i + ys.length)) := by omega
     simp [a1, a2, a3]
    ·have a1 : ¬ j < min i cur.size := by omega
     have a2 : ¬ j < min i cur.size + ys.length := by omega
     have a4 : i + ys.length + (j - (min i cur.size + ys.length)) = j := by omega
     by_cases h9 : j < xs.length
     ·have a3 : j < min i xs.length + ys.length + (xs.length - (i + ys.length)) := by omega
      simp only [a1, a2, a3, a4, h9, if_true, if_false]
     ·have a3 : ¬ j < min i xs.length + ys.length + (xs.length - (i + ys.length)) := by omega
      simp only [a3, a1, a2, a4, h9, if_false]
end
end Go.HL
namespace Go.Proofs.YtjeldcjchipdgaaGreatDoor
open Go.RowKit Go.HL
set_option maxRecDepth 100000
theorem drop_pred {xs : List UInt8} {k : Nat} {x : UInt8} (hk : 0 < k) (hx : xs[k - 1]? = some x) : xs.drop (k - 1) = x :: xs.drop k := by
 obtain ⟨h1, h2⟩ := List.getElem?_eq_some_iff.1 hx
 rw [List.drop_eq_getElem_cons h1, h2, show k - 1 + 1 = k from by omega]
theorem trimR_calls {w : World} {ao : Option Addr} {c : Nat} {xs : List UInt8} (hr : RSl (· < w.heap.size) w eb ao c xs) (hl : xs.length ≤ 140737488351232) :
 Calls Tryz.prog 129 [.slice ao xs.length c, v8 0].toArray w (Ret fun v w' => (∃ (k : Nat) (ao' : Option Addr) (c' : Nat), k ≤ xs.length ∧ v = .slice ao' (xs.take k).length c' ∧ RSl (· < w.heap.size) w' eb ao' c' (xs.take k) ∧ (∀ x ∈ xs.drop k, x = 0) ∧ (k = 0 ∨ ∃ x, xs[k - 1]? = some x ∧ x ≠ 0)) ∧ Chg Nob w w') := by
 refine Calls.of_WC Tryz.func129 rfl Tryz.ntmps129 (by simp) ?_
 refine WC.sr (WL.assign rfl rfl (WL.t (WC.seq (WC.block (?_)))))
 refine WC.loop (σ := List UInt8 × Option Addr × Nat) (fun q => [(0, .slice q.2.1 q.1.length q.2.2), (1, v8 0)])
  (fun q w' => RSl (· < w.heap.size) w' eb q.2.1 q.2.2 q.1 ∧ (∃ k, k ≤ xs.length ∧ q.1 = xs.take k ∧ ∀ x ∈ xs.drop k, x = 0) ∧ Chg Nob w w') (fun q => q.1.length) (xs, ao, c) ⟨rfl, rfl, trivial⟩ ⟨hr, ⟨xs.length, Nat.le_refl _, by simp, by simp⟩, Chg.refl _ _⟩ ?_
 clear hr
 rintro ⟨ys, ay, cy⟩ w1 ⟨hq, ⟨k, hk, hys, hz⟩, kk⟩
 dsimp only at hq hys ⊢
 have hln : ys.length = k := by rw [hys, List.length_take]; omega
 refine WC.seq (WC.sr (WL.move rfl rfl (WL.len Tryz.underlying51 rfl rfl (WL.qn rfl rfl rfl (fun h7 => ?_) (fun h7 => ?_)))))
 ·refine WL.move rfl rfl (WL.qa rfl rfl rfl (WL.move rfl rfl (WL.qa rfl rfl rfl (WL.move rfl rfl (WL.qa rfl rfl rfl (WL.len Tryz.underlying51 rfl rfl (WL.qa rfl rfl rfl (?_))))))))
  refine WL.qj rfl rfl (by constructor <;> omega) rfl ?_
  rw [show ((ys.length : Int) - 1) = ((k - 1 : Nat) : Int) from by omega]
  refine WL.qa rfl rfl rfl (?_)
  obtain ⟨x, hx⟩ : ∃ x, ys[k - 1]? = some x := ⟨_, List.getElem?_eq_getElem (by omega)⟩
  refine WL.qg Tryz.underlying51 Tryz.sizeOf5 hq rfl rfl ⟨hx, rfl⟩ rfl ?_
  intro b_1 o_1 hc_1
  refine WL.qa rfl rfl rfl (WL.load Tryz.isAgg5 rfl (hc_1 0 _ rfl) rfl (WL.qa rfl rfl rfl (WL.move rfl rfl (WL.qa rfl rfl rfl (WL.qi rfl rfl rfl (fun h16 => ?_) (fun h16 => ?_))))))
  ·refine WL.qd rfl rfl rfl (WL.t (WC.qb rfl (WC.skip (WX.qa (WC.block (WC.region (WL.move rfl rfl (WL.move rfl rfl (WL.len Tryz.underlying51 rfl rfl (?_))))))))))
   refine WL.qj rfl rfl (by constructor <;> omega) rfl ?_
   rw [show ((ys.length : Int) - 1) = ((k - 1 : Nat) : Int) from by omega]
   refine WL.slice (l := 0) (h := (k - 1)) (k := .i64) Tryz.underlying51 Tryz.sizeOf5 hq rfl (.inr ⟨rfl, rfl⟩) (.inl rfl) (by constructor <;> omega) rfl ?_
   intro a_hs c_hs hs n_hs
   refine WL.assign rfl rfl (WL.nil (WX.qc (?_)))
   have hk0 : 0 < k := by omega
   refine WX.qf (List.drop 0 (List.take (k - 1) ys), a_hs, c_hs) ⟨rfl, rfl, trivial⟩ ⟨hs, ⟨k - 1, by omega, ?_, ?_⟩, kk⟩ (by show List.length _ < _; simp; omega)
   ·show List.drop 0 (List.take (k - 1) ys) = _
    rw [List.drop_zero, hys, List.take_take, Nat.min_eq_left (by omega)]
   ·intro z hz2
    rw [hys, List.getElem?_take] at hx
    split at hx
    ·rw [drop_pred hk0 hx] at hz2
     rcases List.mem_cons.1 hz2 with rfl | hz2
     ·exact UInt8.toNat_inj.1 (by omega)
     ·exact hz z hz2
    ·cases hx
  ·refine WL.qd rfl rfl rfl (WL.t (WC.qa rfl (WC.exit (WX.qd (WX.qd (WX.qh (WX.qa (WC.sr (WL.move rfl rfl (WL.assign rfl rfl (WL.t (WC.ret (WX.qg (.inl rfl) Tryz.results129 rfl ?_)))))))))))))
   refine ⟨_, rfl, ⟨k, _, _, hk, by rw [← hys], by rw [← hys]; exact hq, hz, ?_⟩, kk⟩
   right
   refine ⟨x, ?_, ?_⟩
   ·rw [hys, List.getElem?_take] at hx
    split at hx
    ·exact hx
    ·cases hx
   ·exact fun h => h16 (by rw [h])
 ·refine WL.move rfl rfl (WL.pass rfl rfl rfl rfl (WL.pass rfl rfl rfl rfl (WL.pass rfl rfl rfl rfl (WL.pass rfl rfl rfl rfl (WL.pass rfl rfl rfl rfl (WL.pass rfl rfl rfl rfl (WL.pass rfl rfl rfl rfl (WL.pass rfl rfl rfl rfl (WL.qc rfl rfl rfl (WL.t (WC.qa rfl (WC.exit (WX.qd (WX.qd (WX.qh (WX.qa (WC.sr (WL.move rfl rfl (WL.assign rfl rfl (WL.t (WC.ret (WX.qg (.inl rfl) Tryz.results129 rfl ?_))))))))))))))))))))))
  refine ⟨_, rfl, ⟨k, _, _, hk, by rw [← hys], by rw [← hys]; exact hq, hz, ?_⟩, kk⟩
  left; omega
theorem trimL_calls {w : World} {ao : Option Addr} {c : Nat} {xs : List UInt8} (hr : RSl (· < w.heap.size) w eb ao c xs) (hl : xs.length ≤ 140737488351232) :
 Calls Tryz.prog 128 [.slice ao xs.length c, v8 0].toArray w (Ret fun v w' => (∃ (n : Nat) (ao' : Option Addr) (c' : Nat), v = .slice ao' n c' ∧ (n = 0 ↔ ∀ x ∈ xs, x = 0)) ∧ Chg Nob w w') := by
 refine Calls.of_WC Tryz.func128 rfl Tryz.ntmps128 (by simp) ?_
 refine WC.sr (WL.assign rfl rfl (WL.t (WC.seq (WC.block (?_)))))
 refine WC.loop (σ := List UInt8 × Option Addr × Nat) (fun q => [(0, .slice q.2.1 q.1.length q.2.2), (1, v8 0)])
  (fun q w' => RSl (· < w.heap.size) w' eb q.2.1 q.2.2 q.1 ∧ ((∀ x ∈ q.1, x = 0) ↔ ∀ x ∈ xs, x = 0) ∧ q.1.length ≤ xs.length ∧ Chg Nob w w') (fun q => q.1.length) (xs, ao, c) ⟨rfl, rfl, trivial⟩ ⟨hr, Iff.rfl, Nat.le_refl _, Chg.refl _ _⟩ ?_
 clear hr
 rintro ⟨ys, ay, cy⟩ w1 ⟨hq, hz, hle, kk⟩
 dsimp only at hq hz hle ⊢
 refine WC.seq (WC.sr (WL.move rfl rfl (WL.len Tryz.underlying51 rfl rfl (WL.qn rfl rfl rfl (fun h7 => ?_) (fun h7 => ?_)))))
 ·refine WL.move rfl rfl (WL.qa rfl rfl rfl (WL.move rfl rfl (WL.qa rfl rfl rfl (?_))))
  obtain ⟨x, ys', rfl⟩ : ∃ x ys', ys = x :: ys' := by cases ys with | nil => simp at h7 | cons x r => exact ⟨x, r, rfl⟩
  have hx : (x :: ys')[0]? = some x := rfl
  refine WL.qg Tryz.underlying51 Tryz.sizeOf5 hq rfl rfl ⟨hx, rfl⟩ rfl ?_
  intro b_1 o_1 hc_1
  refine WL.qa rfl rfl rfl (WL.load Tryz.isAgg5 rfl (hc_1 0 _ rfl) rfl (WL.qa rfl rfl rfl (WL.move rfl rfl (WL.qa rfl rfl rfl (WL.qi rfl rfl rfl (fun h13 => ?_) (fun h13 => ?_))))))
  ·refine WL.qd rfl rfl rfl (WL.t (WC.qb rfl (WC.skip (WX.qa (WC.block (WC.region (WL.move rfl rfl (WL.slice (l := 1) (h := (x :: ys').length) (j := .i64) Tryz.underlying51 Tryz.sizeOf5 hq rfl (.inl rfl) (.inr ⟨rfl, rfl⟩) (by simp) rfl ?_))))))))
   intro a_hs c_hs hs n_hs
   refine WL.assign rfl rfl (WL.nil (WX.qc (?_)))
   refine WX.qf (List.drop 1 (List.take (x :: ys').length (x :: ys')), a_hs, c_hs) ⟨rfl, rfl, trivial⟩ ⟨hs, ?_, ?_, kk⟩ (by show List.length _ < _; simp)
   ·have e1 : List.drop 1 (List.take (x :: ys').length (x :: ys')) = ys' := by simp
    have hx0 : x = 0 := UInt8.toNat_inj.1 (by omega)
    show (∀ z ∈ List.drop 1 (List.take (x :: ys').length (x :: ys')), z = 0) ↔ _
    rw [e1, ← hz, hx0]
    simp
   ·show (List.drop 1 (List.take (x :: ys').length (x :: ys'))).length ≤ _
    simp at hle ⊢
    omega
  ·refine WL.qd rfl rfl rfl (WL.t (WC.qa rfl (WC.exit (WX.qd (WX.qd (WX.qh (WX.qa (WC.seq (WC.sr (WL.move rfl rfl (WL.len Tryz.underlying51 rfl rfl (WL.qi rfl rfl rfl (fun h19 => ?_) (fun h19 => ?_)))))))))))))
   ·refine WL.t (WC.qb rfl (WC.sr (WL.assign rfl rfl (WL.t (WC.ret (WX.qb (WX.qg (.inl rfl) Tryz.results128 rfl ?_)))))))
    exfalso; omega
   ·refine WL.t (WC.qa rfl (WC.skip (WX.qa (WC.sr (WL.move rfl rfl (WL.assign rfl rfl (WL.t (WC.ret (WX.qg (.inl rfl) Tryz.results128 rfl ?_)))))))))
    have h3 : (x :: ys').length ≠ 0 := by simp
    refine ⟨_, rfl, ⟨_, _, _, rfl, ⟨fun h => absurd h h3, fun h => ?_⟩⟩, kk⟩
    exact absurd (hz.2 h x (.head _)) (fun h9 => h13 (by rw [h9]))
 ·refine WL.move rfl rfl (WL.pass rfl rfl rfl rfl (WL.pass rfl rfl rfl rfl (WL.pass rfl rfl rfl rfl (WL.pass rfl rfl rfl rfl (WL.pass rfl rfl rfl rfl (WL.qc rfl rfl rfl (WL.nil (WX.qa (WC.qa rfl (WC.exit (WX.qd (WX.qd (WX.qh (WX.qa (WC.seq (WC.sr (WL.move rfl rfl (WL.len Tryz.underlying51 rfl rfl (WL.qi rfl rfl rfl (fun h19 => ?_) (fun h19 => ?_))))))))))))))))))))
  ·refine WL.t (WC.qb rfl (WC.sr (WL.assign rfl rfl (WL.t (WC.ret (WX.qb (WX.qg (.inl rfl) Tryz.results128 rfl ?_)))))))
   refine ⟨_, rfl, ⟨0, none, 0, rfl, ⟨fun _ => hz.1 (fun x hx => ?_), fun _ => rfl⟩⟩, kk⟩
   have : ys = [] := List.eq_nil_of_length_eq_zero (by omega)
   subst this
   cases hx
   done
  ·refine WL.t (WC.qa rfl (WC.skip (WX.qa (WC.sr (WL.move rfl rfl (WL.assign rfl rfl (WL.t (WC.ret (WX.qg (.inl rfl) Tryz.results128 rfl ?_)))))))))
   exfalso; omega
theorem trimmed {xs : List UInt8} {k : Nat} (h : ∀ x ∈ xs.take k, x = 0) (hz : ∀ x ∈ xs.drop k, x = 0) (hlast : k = 0 ∨ ∃ x, xs[k - 1]? = some x ∧ x ≠ 0) : ∀ x ∈ xs, x = 0 := by
 intro x hx
 rw [← List.take_append_drop k xs] at hx
 rcases List.mem_append.1 hx with hx | hx
 ·exact h x hx
 ·exact hz x hx
theorem trim_calls {w : World} {ao : Option Addr} {c : Nat} {xs : List UInt8} (hr : RSl (· < w.heap.size) w eb ao c xs) (hl : xs.length ≤ 140737488351232) :
 Calls Tryz.prog 116 [.slice ao xs.length c, .string ⟨#[0]⟩].toArray w (Ret fun v w' => (∃ (n : Nat) (ao' : Option Addr) (c' : Nat), v = .slice ao' n c' ∧ (n = 0 ↔ ∀ x ∈ xs, x = 0)) ∧ Chg Nob w w') := by
 have kk := Chg.refl Nob w
 refine Calls.of_WC Tryz.func116 rfl Tryz.ntmps116 (by simp) ?_
 refine WC.sr (WL.assign rfl rfl (WL.t (WC.seq (WC.sr (WL.move rfl rfl (WL.len Tryz.underlying51 rfl rfl (WL.qi rfl rfl rfl (fun h9 => ?_) (fun h9 => ?_))))))))
 ·refine WL.t (WC.qb rfl (WC.sr (WL.assign rfl rfl (WL.t (WC.ret (WX.qb (WX.qg (.inl rfl) Tryz.results116 rfl ?_)))))))
  have : xs = [] := List.eq_nil_of_length_eq_zero (by omega)
  subst this
  exact ⟨_, rfl, ⟨0, none, 0, rfl, ⟨fun _ x hx => absurd hx List.not_mem_nil, fun _ => rfl⟩⟩, kk⟩
 ·refine WL.t (WC.qa rfl (WC.skip (WX.qa (WC.seq (WC.sr (WL.move rfl rfl (WL.seql? rfl rfl rfl (fun h11 => ?_) (fun h11 => ?_))))))))
  ·refine WL.t (WC.qb rfl (WC.sr (WL.move rfl rfl (WL.assign rfl rfl (WL.nil (WX.qa (WC.ret (WX.qb (WX.qg (.inl rfl) Tryz.results116 rfl ?_)))))))))
   cases h11; done
  ·refine WL.t (WC.qa rfl (WC.skip (WX.qa (WC.seq (WC.sr (WL.move rfl rfl (WL.qr Tryz.underlying9 rfl rfl (WL.eqlT rfl rfl rfl ((by decide)) ?_))))))))
   refine WL.move rfl rfl (WL.qa rfl rfl rfl (WL.move rfl rfl (WL.qa rfl rfl rfl (WL.sindex Tryz.underlying9 rfl rfl _ rfl _ (show (⟨#[0]⟩ : ByteArray).data.toList[0]? = some 0 from rfl) rfl ?_))))
   refine WL.qa rfl rfl rfl (WL.lssT rfl rfl rfl ((by decide)) ?_)
   refine WL.qd rfl rfl rfl (WL.t (WC.qb rfl (WC.seq (WC.qc (Nob) [0, 1, 2, 4, 5] [3, 6, 7] mixed rfl rfl (fun wd_1 kd_1 zd_1 => ?_)))))
   replace hr := hr.pure kd_1
   replace kk := kk.pure kd_1
   apply DQ.step [(0, _)] rfl ⟨rfl, trivial⟩ rfl (fun _ _ => WL.move rfl rfl  WL.q)
   apply DQ.step [(1, _)] rfl ⟨rfl, trivial⟩ rfl (fun _ _ => WL.move rfl rfl  WL.q)
   apply DQ.step [(22, _)] rfl ⟨rfl, trivial⟩ rfl
   ·intro wq_5 kq_5
    refine WL.sindex Tryz.underlying9 rfl rfl _ rfl _ (show (⟨#[0]⟩ : ByteArray).data.toList[0]? = some 0 from rfl) rfl (WL.q)
   apply DQ.step [(1, _)] rfl ⟨rfl, trivial⟩ rfl (fun _ _ => WL.move rfl rfl  WL.q)
   apply DQ.step [(25, _)] rfl ⟨rfl, trivial⟩ rfl
   ·intro wq_7 kq_7
    refine WL.sindex Tryz.underlying9 rfl rfl _ rfl _ (show (⟨#[0]⟩ : ByteArray).data.toList[0]? = some 0 from rfl) rfl (WL.q)
   refine DQ.done (fun hd_2 => ?_)
   refine DL.step [(21, _), (23, _)] rfl ⟨rfl, rfl, trivial⟩ rfl (fun wq_8 kq_8 => ?_)
   replace hr := hr.pure kq_8
   replace kk := kk.pure kq_8
   replace hd_2 := hd_2.pure kq_8
   have hr0 := hr.old
   refine WL.call eg_129 rfl rfl (trimR_calls hr0 hl) ?_
   rintro v w1 ⟨⟨k, a1, c1, hk, rfl, hq, hz, hlast⟩, k1⟩
   replace kk := kk.pure k1
   replace hd_2 := hd_2.pure k1
   refine WL.nil (WX.one ⟨hd_2, ?_⟩)
   refine DL.step [(24, _), (26, _)] rfl ⟨rfl, rfl, trivial⟩ rfl (fun wq_9 kq_9 => ?_)
   replace kk := kk.pure kq_9
   replace hd_2 := hd_2.pure kq_9
   replace hq := hq.pure kq_9
   have hq0 := hq.old
   refine WL.call eg_128 rfl rfl (trimL_calls hq0 (by rw [List.length_take]; omega)) ?_
   rintro v w2 ⟨⟨n, a2, c2, rfl, hn⟩, k2⟩
   replace kk := kk.pure k2
   replace hd_2 := hd_2.pure k2
   refine WL.nil (WX.one ⟨hd_2, ?_⟩)
   refine DL.step [(27, _)] rfl ⟨rfl, trivial⟩ rfl (fun wq_10 kq_10 => ?_)
   replace kk := kk.pure kq_10
   replace hd_2 := hd_2.pure kq_10
   refine WL.assign rfl rfl (WL.nil ?_)
   refine WX.one ⟨hd_2, ?_⟩
   refine DL.done (fun we_11 ke_11 => ?_)
   replace kk := kk.pure ke_11
   refine WX.qa (WC.ret (WX.qb (WX.qg (.inl rfl) Tryz.results116 rfl ?_)))
   exact ⟨_, rfl, ⟨n, a2, c2, rfl, hn.trans ⟨fun h => trimmed h hz hlast, fun h x hx => h x (List.mem_of_mem_take hx)⟩⟩, kk⟩
end Go.Proofs.YtjeldcjchipdgaaGreatDoor
namespace Go.Proofs.YtjeldcjchipdgaaGreatDoor
open Go.RowKit Go.HL
set_option maxRecDepth 100000
def cnt (n : Nat) : List UInt8 := if 128 ≤ n then UInt8.ofNat (n % 128 + 128) :: cnt (n / 128) else [UInt8.ofNat n]
termination_by n
decreasing_by omega
theorem cnt_big {n : Nat} (h : 128 ≤ n) : cnt n = UInt8.ofNat (n % 128 + 128) :: cnt (n / 128) := by rw [cnt, if_pos h]
theorem cnt_small {n : Nat} (h : n < 128) : cnt n = [UInt8.ofNat n] := by rw [cnt, if_neg (by omega)]
theorem cnt_len (k : Nat) : ∀ n, n < 128 ^ (k + 1) → (cnt n).length ≤ k + 1 := by
 induction k with
 |zero => intro n h; rw [cnt_small (by simpa using h)]; simp
 |succ k ih =>
  intro n h
  by_cases hn : 128 ≤ n
  ·rw [cnt_big hn]
   have := ih (n / 128) (by rw [Nat.div_lt_iff_lt_mul (by decide)]; rw [Nat.pow_succ] at h; exact h)
   simp only [List.length_cons]
   omega
  ·rw [cnt_small (by omega)]; simp
theorem cnt_len64 (n : UInt64) : (cnt n.toNat).length ≤ 10 := cnt_len 9 _ (by have := n.toNat_lt; omega)
theorem or128 (x : UInt8) : x ||| 128 = UInt8.ofNat (x.toNat % 128 + 128) := by
 have h : ∀ y : Fin 256, (UInt8.ofNat y.1 ||| 128) = UInt8.ofNat ((UInt8.ofNat y.1).toNat % 128 + 128) := by decide +kernel
 have := h ⟨x.toNat, x.toNat_lt⟩
 simpa using this
theorem count_calls {S : Nat → Prop} {w : World} {ao : Option Addr} {c : Nat} {xs : List UInt8} (n : UInt64) (hr : Row S w 5 eb ao c xs) (hS : ∀ b, w.heap.size ≤ b → S b) (hb : xs.length ≤ 70368744177664) :
 Calls Tryz.prog 111 [.slice ao xs.length c, v64 n].toArray w (Ret fun v w' => ∃ ao' c', v = .slice ao' (xs ++ cnt n.toNat).length c' ∧ Row S w' 5 eb ao' c' (xs ++ cnt n.toNat) ∧ Grow S w ao w' ao') := by
 refine Calls.of_WC Tryz.func111 rfl Tryz.ntmps111 (by simp) ?_
 refine WC.sr (WL.assign rfl rfl (WL.t (WC.seq (WC.block (?_)))))
 refine WC.loop (σ := List UInt8 × Option Addr × Nat × UInt64) (fun s => [(0, .slice s.2.1 s.1.length s.2.2.1), (1, v64 s.2.2.2)])
  (fun s w' => s.1 ++ cnt s.2.2.2.toNat = xs ++ cnt n.toNat ∧ Row S w' 5 eb s.2.1 s.2.2.1 s.1 ∧ Grow S w ao w' s.2.1) (fun s => s.2.2.2.toNat) (xs, ao, c, n) ⟨rfl, rfl, trivial⟩ ⟨rfl, hr, Grow.refl _ _ _⟩ ?_
 rintro ⟨ys, a1, c1, m⟩ w1 ⟨he, hr1, hg⟩
 dsimp only at he hr1 hg ⊢
 have hlen : ys.length ≤ 70368744177680 := by
  have h1 := congrArg List.length he
  have h2 := cnt_len64 n
  simp only [List.length_append] at h1
  omega
 have hsz := hg.chg.size
 refine WC.seq (WC.sr (WL.move rfl rfl (WL.za rfl rfl rfl (fun h => ?_) (fun h => ?_))))
 ·refine WL.t (WC.qb rfl (WC.skip (WX.qa (WC.seq (WC.block (WC.region (WL.move rfl rfl (WL.move rfl rfl (WL.c_u64_u8 Tryz.underlying24 Tryz.underlying5 rfl rfl (WL.num rfl rfl (n_or8 _ _ _ 128) rfl (?_)))))))))))
  refine WL.build (e := eb) [m.toUInt8 ||| 128] Tryz.underlying51 Tryz.sizeOf5 Tryz.zeroValue5 rfl rfl rfl (by simp [Value.cells] <;> rfl) (by decide) rfl ?_
  intro a_hr2 w_hr2 hr2 l_hr2 z_hr2 k_hr2
  replace hg := hg.pure k_hr2
  replace hr1 := hr1.pure k_hr2
  refine WL.append (e := eb) info_5 rfl Tryz.underlying51 rfl rfl hr1 (hr2.rsl.src Tryz.underlying51) (by (try simp only [List.length_append, List.length_cons, List.length_nil] at *); omega) (by intro b hb; first | (apply hS; omega) | ((try dsimp only); omega)) rfl ?_
  intro a_hr3 c_hr3 w_hr3 hr3 g_hr3 n_hr3
  replace hg := hg.trans g_hr3
  refine WL.assign rfl rfl (WL.nil (WX.qc (WX.qa (WC.region (WL.move rfl rfl (WL.num rfl rfl (n_shr64 _ _ _ _ 7 (by decide)) rfl (WL.assign rfl rfl (?_))))))))
  refine WL.nil (?_)
  have hm : (m >>> UInt64.ofNat 7).toNat = m.toNat / 128 := by simp [Nat.shiftRight_eq_div_pow]
  refine WX.qf (ys ++ [m.toUInt8 ||| 128], a_hr3, c_hr3, m >>> UInt64.ofNat 7) ⟨rfl, rfl, trivial⟩ ⟨?_, hr3, hg⟩ ?_
  ·rw [← he, hm, cnt_big (n := m.toNat) (by omega), or128]
   simp
  ·show (m >>> UInt64.ofNat 7).toNat < m.toNat
   rw [hm]; omega
 ·refine WL.t (WC.qa rfl (WC.exit (WX.qd (WX.qd (WX.qh (WX.qa (WC.sr (WL.move rfl rfl (WL.move rfl rfl (WL.c_u64_u8 Tryz.underlying24 Tryz.underlying5 rfl rfl (?_)))))))))))
  refine WL.build (e := eb) [m.toUInt8] Tryz.underlying51 Tryz.sizeOf5 Tryz.zeroValue5 rfl rfl rfl (by simp [Value.cells] <;> rfl) (by decide) rfl ?_
  intro a_hr2 w_hr2 hr2 l_hr2 z_hr2 k_hr2
  replace hg := hg.pure k_hr2
  replace hr1 := hr1.pure k_hr2
  refine WL.append (e := eb) info_5 rfl Tryz.underlying51 rfl rfl hr1 (hr2.rsl.src Tryz.underlying51) (by (try simp only [List.length_append, List.length_cons, List.length_nil] at *); omega) (by intro b hb; first | (apply hS; omega) | ((try dsimp only); omega)) rfl ?_
  intro a_hr3 c_hr3 w_hr3 hr3 g_hr3 n_hr3
  replace hg := hg.trans g_hr3
  refine WL.assign rfl rfl (WL.t (WC.ret (?_)))
  have hx : xs ++ cnt n.toNat = ys ++ [m.toUInt8] := by
   rw [← he, cnt_small (by omega)]; rfl
  rw [hx]
  exact WX.qg (.inl rfl) Tryz.results111 rfl ⟨_, rfl, _, _, rfl, hr3, hg⟩
end Go.Proofs.YtjeldcjchipdgaaGreatDoor
namespace Go.Proofs.YtjeldcjchipdgaaGreatDoor
open Go.RowKit Go.HL
set_option maxRecDepth 100000
structure Item where
 kind : Int
 n : Int
 s : ByteArray
theorem Item.eq_iff (a b : Item) : (a.kind = b.kind ∧ a.n = b.n ∧ a.s = b.s) ↔ a = b := by
 obtain ⟨k, n, s⟩ := a
 obtain ⟨k2, n2, s2⟩ := b
 simp
instance : DecidableEq Item := fun a b => decidable_of_iff _ (Item.eq_iff a b)
def eit : Enc Item := ⟨3, fun i => [vi i.kind, vi i.n, .string i.s], fun _ => rfl, by simp [Value.oneCell'], by decide⟩
theorem check1_calls (i : Item) (w : World) : Calls Tryz.prog 121 [.agg (eit.f i).toArray].toArray w (Ret fun v w' => v = .bool (decide (i.kind = 2 ∧ 4000 < i.s.size)) ∧ Chg Nob w w') := by
 refine Calls.of_WC Tryz.func121 rfl Tryz.ntmps121 (by simp) ?_
 refine WC.sr (WL.box rfl rfl ?_)
 intro g_1 w_1 hge_1 hlt_1 hb_1 k_1
 refine WL.assign rfl rfl (WL.t (WC.sr (WL.fieldAddr (fld_116_0) rfl rfl (WL.qb Tryz.isAgg3 hb_1 rfl rfl rfl (WL.qi rfl rfl rfl (fun h => ?_) (fun h => ?_))))))
 ·refine WL.move rfl rfl (WL.qa rfl rfl rfl (WL.fieldAddr (fld_116_2) rfl rfl (WL.qa rfl rfl rfl (WL.qb Tryz.isAgg9 hb_1 rfl rfl rfl (WL.qa rfl rfl rfl (WL.qr Tryz.underlying9 rfl rfl (WL.qa rfl rfl rfl (WL.gtr rfl rfl rfl (WL.qd rfl rfl rfl (WL.assign rfl rfl (WL.t (WC.ret (?_)))))))))))))
  have he : decide (i.kind = 2 ∧ 4000 < i.s.size) = decide (4000 < (i.s.size : Int)) := decide_eq_decide.2 (by omega)
  rw [he]
  exact WX.qg (.inl rfl) Tryz.results121 rfl ⟨_, rfl, rfl, k_1⟩
 ·refine WL.move rfl rfl (WL.pass rfl rfl rfl rfl (WL.pass rfl rfl rfl rfl (WL.pass rfl rfl rfl rfl (WL.pass rfl rfl rfl rfl (WL.qc rfl rfl rfl (WL.assign rfl rfl (WL.nil (WX.qa (WC.ret (?_))))))))))
  have he : decide (i.kind = 2 ∧ 4000 < i.s.size) = false := by simp [h]
  rw [he]
  exact WX.qg (.inl rfl) Tryz.results121 rfl ⟨_, rfl, rfl, k_1⟩
def Pred {α : Type} (P : Program) (f : FuncId) (lb : Array Value) (val : α → Value) (p : α → Bool) (w : World) : Prop :=
 ∀ (W : World) (x : α), Chg Nob w W → Calls P f (#[] ++ [val x].toArray ++ lb) W (Ret fun v w' => v = .bool (p x) ∧ Chg Nob W w')
theorem indexFunc_item {S : Nat → Prop} {w : World} {ao : Option Addr} {c : Nat} {l : List Item} (hr : RSl S w eit ao c l) (g : FuncId) (lb : Array Value) (p : Item → Bool) (eg : ∀ (args : Array Value) (w : World), (callFunc g args).run Tryz.prog w = .ok (.enter g args) w)
 (hp : Pred Tryz.prog g lb (fun x => .agg (eit.f x).toArray) p w) (hl : l.length ≤ 9223372036854775807) :
 Calls Tryz.prog 137 [.slice ao l.length c, .func (.func g) #[] lb].toArray w (Ret fun v w' => ∃ r : Int, v = vi r ∧ decide (0 ≤ r) = l.any p ∧ Chg Nob w w') := by
 refine Calls.of_WC Tryz.func137 rfl Tryz.ntmps137 (by simp) ?_
 refine WC.sr (WL.assign rfl rfl (WL.t (WC.seq (WC.sr (WL.move rfl rfl (WL.len Tryz.underlying117 rfl rfl (WL.move rfl rfl (WL.t (WC.block (?_))))))))))
 refine WC.loop (σ := Nat) (fun k => [(0, .slice ao l.length c), (1, .func (.func g) #[] lb), (7, vi l.length), (8, vi k)])
  (fun k w' => k ≤ l.length ∧ (l.take k).any p = false ∧ Chg Nob w w') (fun k => l.length - k) 0 ⟨rfl, rfl, rfl, rfl, trivial⟩ ⟨Nat.zero_le _, by simp, Chg.refl _ _⟩ ?_
 rintro k w1 ⟨hk, hno, k1⟩
 replace hr := hr.pure k1
 refine WC.sr (WL.qh rfl rfl rfl (fun h => ?_) (fun h => ?_))
 ·refine WL.t (WC.seq (WC.qb rfl (WC.skip (WX.qa (WC.seq (WC.block (WC.sr (WL.move rfl rfl (WL.assign rfl rfl (WL.t (WC.sr (WL.move rfl rfl (WL.move rfl rfl (WL.move rfl rfl (?_)))))))))))))))
  obtain ⟨x, hx⟩ : ∃ x, l[k]? = some x := ⟨_, List.getElem?_eq_getElem (by omega)⟩
  refine WL.qg Tryz.underlying117 Tryz.sizeOf116 hr rfl rfl ⟨hx, rfl⟩ rfl ?_
  intro b_1 o_1 hc_1
  refine WL.qw _ Tryz.isAgg116 Tryz.sizeOf116 rfl hc_1 rfl rfl (WL.callv eg rfl rfl rfl (hp w1 x k1) ?_)
  rintro v w2 ⟨rfl, k2⟩
  refine WL.t (?_)
  cases hpx : p x
  ·refine WC.qa rfl (WC.skip (WX.qc (WX.qa (WC.region (WL.qe rfl rfl (by omega) rfl (WL.move rfl rfl (WL.nil (?_))))))))
   refine WX.qf (k + 1) ⟨rfl, rfl, rfl, rfl, trivial⟩ ⟨by omega, ?_, k1.pure k2⟩ (by show _ - _ < _ - _; omega)
   rw [List.take_add_one, hx]
   simp [hno, hpx]
  ·refine WC.qb rfl (WC.sr (WL.move rfl rfl (WL.assign rfl rfl (WL.t (WC.ret (WX.qe (WX.qb (WX.qb (WX.qe (WX.qb (WX.qg (.inl rfl) Tryz.results137 rfl ⟨_, rfl, _, rfl, ?_, k1.pure k2⟩)))))))))))
   have : l.any p = true := List.any_eq_true.2 ⟨x, List.mem_of_getElem? hx, hpx⟩
   rw [this]; simp
 ·refine WL.t (WC.seq (WC.qa rfl (WC.exit (WX.qd (WX.qd (WX.qh (WX.qa (WC.sr (WL.assign rfl rfl (WL.t (WC.ret (WX.qg (.inl rfl) Tryz.results137 rfl ⟨_, rfl, _, rfl, ?_, k1⟩))))))))))))
  have : l.any p = false := by rw [List.take_of_length_le (by omega)] at hno; exact hno
  rw [this]; simp
theorem containsFunc_item {S : Nat → Prop} {w : World} {ao : Option Addr} {c : Nat} {l : List Item} (hr : RSl S w eit ao c l) (g : FuncId) (lb : Array Value) (p : Item → Bool) (eg : ∀ (args : Array Value) (w : World), (callFunc g args).run Tryz.prog w = .ok (.enter g args) w)
 (hp : Pred Tryz.prog g lb (fun x => .agg (eit.f x).toArray) p w) (hl : l.length ≤ 9223372036854775807) :
 Calls Tryz.prog 122 [.slice ao l.length c, .func (.func g) #[] lb].toArray w (Ret fun v w' => v = .bool (l.any p) ∧ Chg Nob w w') := by
 refine Calls.of_WC Tryz.func122 rfl Tryz.ntmps122 (by simp) ?_
 refine WC.sr (WL.assign rfl rfl (WL.t (WC.sr (WL.move rfl rfl (WL.move rfl rfl (WL.call eg_137 rfl rfl (indexFunc_item hr g lb p eg hp hl) ?_))))))
 rintro v w1 ⟨r, rfl, h, k⟩
 refine WL.geq rfl rfl rfl (WL.assign rfl rfl (WL.t (WC.ret (?_))))
 rw [← h]
 exact WX.qg (.inl rfl) Tryz.results122 rfl ⟨_, rfl, rfl, k⟩
end Go.Proofs.YtjeldcjchipdgaaGreatDoor
namespace Go.Proofs.YtjeldcjchipdgaaGreatDoor
open Go.RowKit Go.HL
set_option maxRecDepth 100000
def longI (i : Item) : Bool := decide (i.kind = 2 ∧ 4000 < i.s.size)
def okI (i : Item) : Bool := decide (i.kind = 1 ∧ i.s = ⟨#[]⟩ ∨ i.kind = 2 ∧ i.n = 0)
def checkE (l : List Item) : Int := if 2000 < l.length ∨ l.any longI = true then 14 else if l.all okI = true then 0 else 2
theorem check_calls {S : Nat → Prop} {w : World} {ao : Option Addr} {c : Nat} {l : List Item} (hr : RSl S w eit ao c l) (hl : l.length ≤ 9223372036854775807) :
 Calls Tryz.prog 110 [.slice ao l.length c].toArray w (Ret fun v w' => v = vi (checkE l) ∧ Chg Nob w w') := by
 replace hr := hr.old
 refine Calls.of_WC Tryz.func110 rfl Tryz.ntmps110 (by simp) ?_
 refine WC.sr (WL.assign rfl rfl (WL.t (WC.sr (WL.assign rfl rfl (WL.t (WC.seq (WC.sr (WL.move rfl rfl (WL.len Tryz.underlying117 rfl rfl (WL.qn rfl rfl rfl (fun h => ?_) (fun h => ?_)))))))))))
 ·refine WL.move rfl rfl (WL.pass rfl rfl rfl rfl (WL.pass rfl rfl rfl rfl (WL.pass rfl rfl rfl rfl (WL.qd rfl rfl rfl (WL.t (WC.qb rfl (WC.sr (WL.assign rfl rfl (WL.t (WC.ret (WX.qb (?_))))))))))))
  have : checkE l = 14 := by unfold checkE; rw [if_pos (.inl (by omega))]
  rw [this]
  exact WX.qg (.inl rfl) Tryz.results110 rfl ⟨_, rfl, rfl, Chg.refl _ _⟩
 ·refine WL.move rfl rfl (WL.qa rfl rfl rfl (WL.move rfl rfl (WL.qa rfl rfl rfl (WL.move rfl rfl (WL.qa rfl rfl rfl (WL.call eg_122 rfl rfl (containsFunc_item hr _ _ longI eg_121 (fun W x k => check1_calls x W) hl) ?_))))))
  rintro v w1 ⟨rfl, k⟩
  replace hr := hr.pure k
  cases hlong : l.any longI
  ·refine WL.qc rfl rfl rfl (WL.t (WC.qa rfl (WC.skip (WX.qa (WC.seq (WC.seq (WC.region (WL.move rfl rfl (WL.len Tryz.underlying117 rfl rfl (WL.move rfl rfl (WL.t (WC.block (?_)))))))))))))
   refine WC.loop (σ := Nat) (fun i => [(14, .slice ao l.length c), (15, vi l.length), (16, vi i)])
    (fun i w' => i ≤ l.length ∧ (l.take i).all okI = true ∧ Chg Nob w1 w') (fun i => l.length - i) 0 ⟨rfl, rfl, rfl, trivial⟩ ⟨Nat.zero_le _, by simp, Chg.refl _ _⟩ ?_
   rintro i w2 ⟨hi, hall, k2⟩
   replace hr := hr.pure k2
   have kk := k.pure k2
   have zk := kk.size
   refine WC.sr (WL.qh rfl rfl rfl (fun h17 => ?_) (fun h17 => ?_))
   ·refine WL.t (WC.seq (WC.qb rfl (WC.skip (WX.qa (WC.seq (WC.block (WC.sr (?_))))))))
    obtain ⟨x, hx⟩ : ∃ x, l[i]? = some x := ⟨_, List.getElem?_eq_getElem (by omega)⟩
    refine WL.qg Tryz.underlying117 Tryz.sizeOf116 hr rfl rfl ⟨hx, rfl⟩ rfl ?_
    intro b_1 o_1 hc_1
    refine WL.qw _ Tryz.isAgg116 Tryz.sizeOf116 rfl hc_1 rfl rfl (WL.alloc Tryz.zeroValue116 rfl ?_)
    intro g_2 w_2 hge_2 hlt_2 hb_2 k_2
    have zs_k_2 := k_2.size
    replace hr := hr.pure k_2
    replace kk := kk.pure k_2
    refine WL.ql Tryz.sizeOf116 hb_2 rfl rfl (by rfl) (by exact Enc.one _ _) (by exact Nat.le_of_ble_eq_true rfl) rfl ?_
    intro w_3 hs_3 hn_3 k_3
    have zs_k_3 := k_3.size
    replace hr := hr.chg k_3 (by intro b h1 h2 h3; have h4 : _ = _ := h3; (try dsimp only at h2); exfalso; omega)
    replace kk := kk.chg k_3 (by intro x h1 h2; have h3 : _ = _ := h2; exfalso; omega)
    replace hb_2 := hn_3
    refine WL.t (WC.block (WC.seq (WC.sr (WL.fieldAddr (fld_116_0) rfl rfl (WL.qb Tryz.isAgg3 hb_2 rfl rfl rfl (WL.qi rfl rfl rfl (fun h23 => ?_) (fun h23 => ?_)))))))
    ·refine WL.move rfl rfl (WL.qa rfl rfl rfl (WL.fieldAddr (fld_116_2) rfl rfl (WL.qa rfl rfl rfl (WL.qb Tryz.isAgg9 hb_2 rfl rfl rfl (WL.qa rfl rfl rfl (WL.seql? rfl rfl rfl (fun h27 => ?_) (fun h27 => ?_)))))))
     ·refine WL.qd rfl rfl rfl (WL.assign rfl rfl (WL.t (WC.qb rfl (WC.skip (WX.qa (WC.qb rfl (WC.skip (WX.qc (WX.qc (WX.qa (WC.region (WL.qe rfl rfl (by omega) rfl (WL.move rfl rfl (WL.nil (?_)))))))))))))))
      refine WX.qf (i + 1) ⟨rfl, rfl, rfl, trivial⟩ ⟨by omega, ?_, k2.pure ?_⟩ (by show _ - _ < _ - _; omega)
      ·rw [List.take_add_one, hx]
       simp_all [okI]
      ·exact (k_2.chg k_3 (by intro x h1 h2; have h3 : _ = _ := h2; exfalso; omega))
     ·refine WL.qd rfl rfl rfl (WL.assign rfl rfl (WL.t (WC.qa rfl (WC.region (WL.fieldAddr (fld_116_0) rfl rfl (WL.qb Tryz.isAgg3 hb_2 rfl rfl rfl (WL.qi rfl rfl rfl (fun h31 => ?_) (fun h31 => ?_))))))))
      ·refine WL.move rfl rfl (WL.qa rfl rfl rfl (WL.fieldAddr (fld_116_1) rfl rfl (WL.qa rfl rfl rfl (WL.qb Tryz.isAgg3 hb_2 rfl rfl rfl (WL.qa rfl rfl rfl (WL.qi rfl rfl rfl (fun h35 => ?_) (fun h35 => ?_)))))))
       ·refine WL.qd rfl rfl rfl (WL.assign rfl rfl (WL.t (WC.qb rfl (WC.skip (WX.qc (WX.qc (WX.qa (WC.region (WL.qe rfl rfl (by omega) rfl (WL.move rfl rfl (WL.nil (?_))))))))))))
        refine WX.qf (i + 1) ⟨rfl, rfl, rfl, trivial⟩ ⟨by omega, ?_, k2.pure ?_⟩ (by show _ - _ < _ - _; omega)
        ·rw [List.take_add_one, hx]
         simp_all [okI]
        ·exact (k_2.chg k_3 (by intro x h1 h2; have h3 : _ = _ := h2; exfalso; omega))
       ·refine WL.qd rfl rfl rfl (WL.assign rfl rfl (WL.t (WC.qa rfl (WC.sr (WL.assign rfl rfl (WL.t (WC.ret (WX.qe (WX.qe (WX.qb (WX.qb (WX.qe (WX.qb (WX.qg (.inl rfl) Tryz.results110 rfl ?_))))))))))))))
        refine ⟨_, rfl, ?_, kk⟩
        congr 1
        unfold checkE
        rw [if_neg (by simp [hlong]; omega)]
        first | (rw [if_pos (by rw [List.take_of_length_le (by omega)] at hall; exact hall)]; done) | (rw [if_neg (fun ha => by have := List.all_eq_true.1 ha x (List.mem_of_getElem? hx); simp_all [okI])])
      ·refine WL.move rfl rfl (WL.pass rfl rfl rfl rfl (WL.pass rfl rfl rfl rfl (WL.pass rfl rfl rfl rfl (WL.qc rfl rfl rfl (WL.assign rfl rfl (WL.t (WC.qa rfl (WC.sr (WL.assign rfl rfl (WL.t (WC.ret (WX.qe (WX.qe (WX.qb (WX.qb (WX.qe (WX.qb (WX.qg (.inl rfl) Tryz.results110 rfl ?_))))))))))))))))))
       refine ⟨_, rfl, ?_, kk⟩
       congr 1
       unfold checkE
       rw [if_neg (by simp [hlong]; omega)]
       first | (rw [if_pos (by rw [List.take_of_length_le (by omega)] at hall; exact hall)]; done) | (rw [if_neg (fun ha => by have := List.all_eq_true.1 ha x (List.mem_of_getElem? hx); simp_all [okI])])
    ·refine WL.move rfl rfl (WL.pass rfl rfl rfl rfl (WL.pass rfl rfl rfl rfl (WL.pass rfl rfl rfl rfl (WL.qc rfl rfl rfl (WL.assign rfl rfl (WL.t (WC.qa rfl (WC.region (WL.fieldAddr (fld_116_0) rfl rfl (WL.qb Tryz.isAgg3 hb_2 rfl rfl rfl (WL.qi rfl rfl rfl (fun h31 => ?_) (fun h31 => ?_))))))))))))
     ·refine WL.move rfl rfl (WL.qa rfl rfl rfl (WL.fieldAddr (fld_116_1) rfl rfl (WL.qa rfl rfl rfl (WL.qb Tryz.isAgg3 hb_2 rfl rfl rfl (WL.qa rfl rfl rfl (WL.qi rfl rfl rfl (fun h35 => ?_) (fun h35 => ?_)))))))
      ·refine WL.qd rfl rfl rfl (WL.assign rfl rfl (WL.t (WC.qb rfl (WC.skip (WX.qc (WX.qc (WX.qa (WC.region (WL.qe rfl rfl (by omega) rfl (WL.move rfl rfl (WL.nil (?_))))))))))))
       refine WX.qf (i + 1) ⟨rfl, rfl, rfl, trivial⟩ ⟨by omega, ?_, k2.pure ?_⟩ (by show _ - _ < _ - _; omega)
       ·rw [List.take_add_one, hx]
        simp_all [okI]
       ·exact (k_2.chg k_3 (by intro x h1 h2; have h3 : _ = _ := h2; exfalso; omega))
      ·refine WL.qd rfl rfl rfl (WL.assign rfl rfl (WL.t (WC.qa rfl (WC.sr (WL.assign rfl rfl (WL.t (WC.ret (WX.qe (WX.qe (WX.qb (WX.qb (WX.qe (WX.qb (WX.qg (.inl rfl) Tryz.results110 rfl ?_))))))))))))))
       refine ⟨_, rfl, ?_, kk⟩
       congr 1
       unfold checkE
       rw [if_neg (by simp [hlong]; omega)]
       first | (rw [if_pos (by rw [List.take_of_length_le (by omega)] at hall; exact hall)]; done) | (rw [if_neg (fun ha => by have := List.all_eq_true.1 ha x (List.mem_of_getElem? hx); simp_all [okI])])
     ·refine WL.move rfl rfl (WL.pass rfl rfl rfl rfl (WL.pass rfl rfl rfl rfl (WL.pass rfl rfl rfl rfl (WL.qc rfl rfl rfl (WL.assign rfl rfl (WL.t (WC.qa rfl (WC.sr (WL.assign rfl rfl (WL.t (WC.ret (WX.qe (WX.qe (WX.qb (WX.qb (WX.qe (WX.qb (WX.qg (.inl rfl) Tryz.results110 rfl ?_))))))))))))))))))
      refine ⟨_, rfl, ?_, kk⟩
      congr 1
      unfold checkE
      rw [if_neg (by simp [hlong]; omega)]
      first | (rw [if_pos (by rw [List.take_of_length_le (by omega)] at hall; exact hall)]; done) | (rw [if_neg (fun ha => by have := List.all_eq_true.1 ha x (List.mem_of_getElem? hx); simp_all [okI])])
   ·refine WL.t (WC.seq (WC.qa rfl (WC.exit (WX.qd (WX.qd (WX.qh (WX.qa (WC.sr (WL.assign rfl rfl (WL.t (WC.ret (WX.qg (.inl rfl) Tryz.results110 rfl ?_))))))))))))
    refine ⟨_, rfl, ?_, kk⟩
    congr 1
    unfold checkE
    rw [if_neg (by simp [hlong]; omega)]
    first | (rw [if_pos (by rw [List.take_of_length_le (by omega)] at hall; exact hall)]; done) | (rw [if_neg (fun ha => by have := List.all_eq_true.1 ha x (List.mem_of_getElem? hx); simp_all [okI])])
  ·refine WL.qc rfl rfl rfl (WL.t (WC.qb rfl (WC.sr (WL.assign rfl rfl (WL.nil (WX.qa (WC.ret (WX.qb (?_)))))))))
   have : checkE l = 14 := by unfold checkE; rw [if_pos (.inr hlong)]
   rw [this]
   exact WX.qg (.inl rfl) Tryz.results110 rfl ⟨_, rfl, rfl, k⟩
end Go.Proofs.YtjeldcjchipdgaaGreatDoor
