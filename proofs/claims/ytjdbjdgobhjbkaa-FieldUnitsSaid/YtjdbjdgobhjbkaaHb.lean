import Derived.Deep.AppendSrc
import Derived.Laws.AppendOwn
import Derived.Laws.IdiomCopy
import Derived.Lib.ConvBytes
import Derived.Test.YtjdbjdgobhjbkaaHa
namespace Go.HL
open Go.RowKit

/-- what may have turned: of the blocks that were there, those of M alone -/
structure Chg (M : Nat → Prop) (w w' : World) : Prop where
  os : w'.os = w.os
  tape : w'.tape = w.tape
  output : w'.output = w.output
  size : w.heap.size ≤ w'.heap.size
  block : ∀ k, k < w.heap.size → ¬ M k → w'.heap[k]? = w.heap[k]?

abbrev Nob : Nat → Prop := fun _ => False

theorem Chg.refl (M : Nat → Prop) (w : World) : Chg M w w := ⟨rfl, rfl, rfl, Nat.le_refl _, fun _ _ _ => rfl⟩
theorem Chg.trans {M M' : Nat → Prop} {a b c : World} (h : Chg M a b) (k : Chg M' b c) (hM : ∀ x, x < a.heap.size → M' x → M x) : Chg M a c :=
  ⟨k.os.trans h.os, k.tape.trans h.tape, k.output.trans h.output, Nat.le_trans h.size k.size,
   fun i hi hm => (k.block i (Nat.lt_of_lt_of_le hi h.size) (fun x => hm (hM i hi x))).trans (h.block i hi hm)⟩
theorem Chg.mono {M M' : Nat → Prop} {a b : World} (h : Chg M a b) (hM : ∀ x, x < a.heap.size → M x → M' x) : Chg M' a b :=
  ⟨h.os, h.tape, h.output, h.size, fun i hi hm => h.block i hi (fun x => hm (hM i hi x))⟩
theorem Chg.pure {M : Nat → Prop} {a b c : World} (h : Chg M a b) (k : Chg Nob b c) : Chg M a c := h.trans k (fun _ _ x => x.elim)
theorem Chg.alloc (w : World) (o : Obj) : Chg Nob w (w.alloc o) := ⟨rfl, rfl, rfl, by simp, fun k hk _ => Below.heap_alloc _ _ _ hk⟩
theorem Chg.drew (w : World) : Chg Nob w w.drew := ⟨rfl, rfl, rfl, Nat.le_refl _, fun _ _ _ => rfl⟩
theorem Chg.setCell (w : World) (a : Addr) (v : Value) : Chg (· = a.block) w (w.setCell a v) :=
  ⟨rfl, rfl, rfl, by simp [World.setCell], fun _ _ hm => Below.heap_setCell _ _ _ _ hm⟩
theorem Chg.below {w w' : World} (h : Chg Nob w w') : Below w.heap.size w w' := ⟨h.os, h.tape, h.output, h.size, fun k hk => h.block k hk (fun x => x)⟩
theorem Chg.ofBelow {w w' : World} (h : Below w.heap.size w w') : Chg Nob w w' := ⟨h.os, h.tape, h.output, h.size, fun k hk _ => h.block k hk⟩
theorem Chg.cell {M : Nat → Prop} {w w' : World} (h : Chg M w w') {p : Addr} {v : Value} (hc : w.cell? p = some v) (hm : ¬ M p.block) : w'.cell? p = some v := by
  rw [World.cell?_of_block (w := w) (h.block p.block (World.block_lt_of_cell? w p hc) hm)]; exact hc
theorem Chg.obj {M : Nat → Prop} {w w' : World} (h : Chg M w w') {b : Nat} {o : Obj} (hc : w.heap[b]? = some o) (hm : ¬ M b) : w'.heap[b]? = some o := by
  rw [h.block b (Array.getElem?_eq_some_iff.1 hc).1 hm]; exact hc

/-- a block of cells, whole -/
def Blk (w : World) (b : Nat) (e : TypeId) (cs : List Value) : Prop := w.heap[b]? = some (.cells cs.toArray e (0, 0))
theorem Blk.lt {w : World} {b : Nat} {e : TypeId} {cs : List Value} (h : Blk w b e cs) : b < w.heap.size := (Array.getElem?_eq_some_iff.1 h).1
theorem Blk.new (w : World) (e : TypeId) (cs : List Value) : Blk (w.alloc (.cells cs.toArray e)) w.heap.size e cs := by
  show (w.heap.push _)[w.heap.size]? = _
  simp
theorem Blk.chg {M : Nat → Prop} {w w' : World} {b : Nat} {e : TypeId} {cs : List Value} (h : Blk w b e cs) (k : Chg M w w') (hm : ¬ M b) : Blk w' b e cs := k.obj h hm
theorem Blk.cell {w : World} {b : Nat} {e : TypeId} {cs : List Value} (h : Blk w b e cs) {j : Nat} {v : Value} (hj : cs[j]? = some v) : w.cell? ⟨b, j, none⟩ = some v := by
  unfold Blk at h
  simp [World.cell?, h, hj]
theorem Blk.free {w : World} {b : Nat} {e : TypeId} {cs : List Value} (h : Blk w b e cs) (j : Nat) : w.frozen? ⟨b, j, none⟩ = false := by
  unfold Blk at h
  simp [World.frozen?, h]
theorem Blk.set {w : World} {b : Nat} {e : TypeId} {cs : List Value} (h : Blk w b e cs) (j : Nat) (v : Value) : Blk (w.setCell ⟨b, j, none⟩ v) b e (cs.set j v) := by
  unfold Blk at h ⊢
  simp only [World.setCell, Array.getElem?_modify, h, if_true, Option.map_some]
  simp

/-- what a slice reads: the cells, one behind the other -/
def Sl (w : World) (ao : Option Addr) (n sz : Nat) (cs : List Value) : Prop :=
  cs.length = n * sz ∧ ∀ j c, cs[j]? = some c → ∃ b off, ao = some ⟨b, off, none⟩ ∧ w.cell? ⟨b, off + j, none⟩ = some c
/-- its block, if it has one, is of S -/
def At (S : Nat → Prop) (ao : Option Addr) : Prop := ∀ a, ao = some a → S a.block
theorem At.mono {S T : Nat → Prop} {ao : Option Addr} (h : At S ao) (k : ∀ b, S b → T b) : At T ao := fun a e => k _ (h a e)
theorem At.none (S : Nat → Prop) : At S none := fun _ e => by cases e
theorem Sl.nil (w : World) (ao : Option Addr) (sz : Nat) : Sl w ao 0 sz [] := ⟨by simp, fun j c h => by simp at h⟩
theorem Sl.chg {M : Nat → Prop} {w w' : World} {ao : Option Addr} {n sz : Nat} {cs : List Value} (h : Sl w ao n sz cs) (k : Chg M w w') (hm : At (fun b => ¬ M b) ao) : Sl w' ao n sz cs :=
  ⟨h.1, fun j c hj => by
    obtain ⟨b, off, e, hc⟩ := h.2 j c hj
    exact ⟨b, off, e, k.cell hc (show ¬ M b from hm _ e)⟩⟩
theorem Sl.pure {w w' : World} {ao : Option Addr} {n sz : Nat} {cs : List Value} (h : Sl w ao n sz cs) (k : Chg Nob w w') : Sl w' ao n sz cs := h.chg k (fun _ _ x => x)

/-- a row of the call's own: nil, or the head of a block that nothing else writes -/
def Own (w : World) (e : TypeId) (sz : Nat) (ao : Option Addr) (n c : Nat) (cs : List Value) : Prop :=
  cs.length = n * sz ∧ n ≤ c ∧ ((ao = none ∧ c = 0) ∨ ∃ g cur fr, ao = some ⟨g, 0, none⟩ ∧ w.heap[g]? = some (.cells cur e fr) ∧ (∀ j, j < cur.size → ¬ (fr.1 ≤ j ∧ j < fr.2)) ∧
    c ≤ maxLen ∧ cur.size = c * sz ∧ cur.toList.take (n * sz) = cs)
section own
variable {w : World} {e : TypeId} {sz : Nat} {ao : Option Addr} {n c : Nat} {cs : List Value}
theorem Own.nil (w : World) (e : TypeId) (sz : Nat) : Own w e sz none 0 0 [] := ⟨by simp, Nat.le_refl _, .inl ⟨rfl, rfl⟩⟩
theorem Own.len (h : Own w e sz ao n c cs) : cs.length = n * sz := h.1
theorem Own.cap (h : Own w e sz ao n c cs) : n ≤ c := h.2.1
theorem Own.lt (h : Own w e sz ao n c cs) : At (· < w.heap.size) ao := fun a ea => by
  rcases h.2.2 with ⟨rfl, _⟩ | ⟨g, cur, fr, rfl, hg, _⟩
  · cases ea
  · injection ea with ea; subst ea; exact (Array.getElem?_eq_some_iff.1 hg).1
theorem Own.chg {M : Nat → Prop} {w' : World} (h : Own w e sz ao n c cs) (k : Chg M w w') (hm : At (fun b => ¬ M b) ao) : Own w' e sz ao n c cs := by
  refine ⟨h.1, h.2.1, ?_⟩
  rcases h.2.2 with hn | ⟨g, cur, fr, rfl, hg, rest⟩
  · exact .inl hn
  · exact .inr ⟨g, cur, fr, rfl, k.obj hg (hm _ rfl), rest⟩
theorem Own.pure {w' : World} (h : Own w e sz ao n c cs) (k : Chg Nob w w') : Own w' e sz ao n c cs := h.chg k (fun _ _ x => x)
theorem Own.sl (h : Own w e sz ao n c cs) : Sl w ao n sz cs := by
  refine ⟨h.1, fun j u hu => ?_⟩
  rcases h.2.2 with ⟨rfl, rfl⟩ | ⟨g, cur, fr, rfl, hg, _, _, _, ht⟩
  · have hn : n = 0 := by have := h.2.1; omega
    have := h.1
    rw [hn, Nat.zero_mul] at this
    rw [List.eq_nil_of_length_eq_zero this] at hu
    simp at hu
  · refine ⟨g, 0, rfl, ?_⟩
    rw [Nat.zero_add, cell_of_row w g j cur e fr hg]
    rw [← ht, List.getElem?_take] at hu
    split at hu
    · simpa using hu
    · cases hu
theorem Own.of_none (h : Own w e sz none n c cs) : n = 0 ∧ c = 0 ∧ cs = [] := by
  rcases h.2.2 with ⟨_, rfl⟩ | ⟨g, cur, fr, hx, _⟩
  · have hn : n = 0 := by have := h.2.1; omega
    have := h.1
    rw [hn, Nat.zero_mul] at this
    exact ⟨hn, rfl, List.eq_nil_of_length_eq_zero this⟩
  · cases hx
end own

theorem setCells_other (g k : Nat) : ∀ (vs : List Value) (o : Nat) (w : World), k ≠ g → (w.setCells g o vs).heap[k]? = w.heap[k]?
  | [], _, _, _ => rfl
  | v :: r, o, w, h => by
    rw [World.setCells, setCells_other g k r (o + 1) _ h]
    exact Below.heap_setCell _ _ _ _ h
theorem setCells_same (g : Nat) (e : TypeId) (fr : Nat × Nat) : ∀ (vs : List Value) (o : Nat) (w : World) (cur : Array Value), w.heap[g]? = some (.cells cur e fr) → o + vs.length ≤ cur.size →
    (w.setCells g o vs).heap[g]? = some (.cells (cur.toList.take o ++ vs ++ cur.toList.drop (o + vs.length)).toArray e fr)
  | [], o, w, cur, hg, _ => by simp [World.setCells, hg]
  | v :: r, o, w, cur, hg, hl => by
    have hlt : g < w.heap.size := (Array.getElem?_eq_some_iff.1 hg).1
    have h1 : (w.setCell ⟨g, o, none⟩ v).heap[g]? = some (.cells (cur.setIfInBounds o v) e fr) := by
      simp only [World.setCell, Array.getElem?_modify, hg, if_true, Option.map_some]
      simp
    have ho : o < cur.size := by simp at hl; omega
    rw [World.setCells, setCells_same g e fr r (o + 1) _ _ h1 (by simp at hl ⊢; omega)]
    congr 2
    apply Array.ext'
    simp only [Array.toList_setIfInBounds, List.toList_toArray, List.length_cons]
    apply List.ext_getElem?
    intro j
    have hlen : cur.toList.length = cur.size := Array.length_toList
    simp only [List.append_assoc, List.getElem?_append, List.length_take, List.length_set, List.getElem?_take, List.getElem?_set, List.getElem?_drop, hlen, List.length_append, List.cons_append, List.length_cons, List.getElem?_cons]
    have e1 : min (o + 1) cur.size = o + 1 := by omega
    have e2 : min o cur.size = o := by omega
    simp only [e1, e2]
    by_cases hj : j < o
    · have : ¬ o = j := by omega
      simp [hj, this, show j < o + 1 from by omega]
    · by_cases hj2 : j = o
      · subst hj2; simp [ho]
      · have h3 : ¬ j < o + 1 := by omega
        have h4 : ¬ j - o = 0 := by omega
        simp only [hj, h3, if_false, h4, show j - (o + 1) = j - o - 1 from by omega]
        by_cases hj3 : j - o - 1 < r.length
        · simp [hj3]
        · have : ¬ o = o + 1 + r.length + (j - o - 1 - r.length) := by omega
          simp only [hj3, if_false, this]
          congr 1
          omega
theorem setCells_chg (g : Nat) (vs : List Value) (o : Nat) (w : World) : Chg (· = g) w (w.setCells g o vs) := by
  induction vs generalizing o w with
  | nil => exact Chg.refl _ _
  | cons v r ih => exact (Chg.setCell w ⟨g, o, none⟩ v).trans (ih (o + 1) _) (fun _ _ h => h)

/-- append: to a row of the call's own; what is appended is read first -/
theorem run_append_hl {P : Program} (w : World) (t tx ty e : TypeId) (i : TypeInfo) (z : Value) (sz bytes : Nat) (ht : P.underlying t = some (.slice e)) (hi : P.info? e = some i) (hz : i.zero = some z)
    (hsize : i.size = sz) (hby : i.bytes = bytes) (hzs : z.cells.size = sz)
    (ao : Option Addr) (n c : Nat) (cs : List Value) (hown : Own w e sz ao n c cs) (x : Value) (m : Nat) (news : List Value) (hs : Src P sz tx x m news w)
    (h63 : n + m ≤ maxLen) (hbytes : (n + m) * bytes ≤ 140737488355328) :
    ∃ ao' c' w', (Builtin.append_ #[t, tx] ty #[.slice ao n c, x]).run P w = .ok (.slice ao' (n + m) c') w' ∧ Own w' e sz ao' (n + m) c' (cs ++ news) ∧
      Chg (fun b => (∃ a, ao = some a ∧ b = a.block) ∧ ao' = ao) w w' ∧ (ao' = ao ∨ At (w.heap.size ≤ ·) ao') ∧ (ao' = none → ao = none ∧ m = 0) := by
  subst hsize
  subst hby
  have hsmall : n + m ≤ 9223372036854775807 := by simp only [maxLen] at h63; omega
  have hlen : (cs ++ news).length = (n + m) * i.size := by rw [List.length_append, hown.1, hs.newsLen, Nat.add_mul]
  have grown : ∀ (old : Nat), old < n + m → ∀ (M : Nat → Prop),
      Own (w.drew.alloc (.cells ((cs ++ news).toArray ++ Builtin.zeroCells z.cells (grownCap w (n + m) old e - (n + m))) e)) e i.size
        (some ⟨w.heap.size, 0, none⟩) (n + m) (grownCap w (n + m) old e) (cs ++ news) ∧
      Chg M w (w.drew.alloc (.cells ((cs ++ news).toArray ++ Builtin.zeroCells z.cells (grownCap w (n + m) old e - (n + m))) e)) := by
    intro old ho M
    have hge := grownCap_ge w (n + m) old e
    have hcm : grownCap w (n + m) old e ≤ maxLen := grownCap_le_maxLen w (n + m) old e h63
    refine ⟨⟨hlen, hge, .inr ⟨w.heap.size, _, (0, 0), rfl, heap_alloc_new w.drew _, fun j _ h => by omega, hcm, ?_, ?_⟩⟩, ⟨rfl, rfl, rfl, by simp, fun k hk _ => Below.heap_alloc w.drew _ k hk⟩⟩
    · simp only [Array.size_append, List.size_toArray, size_zeroCells, hzs, hlen, ← Nat.add_mul]
      congr 1
      omega
    · simp only [Array.toList_append]
      rw [← hlen]
      exact List.take_left
  rcases hown.2.2 with ⟨rfl, rfl⟩ | ⟨g, cur, fr, rfl, hg, hfr, hcm, hcs, htake⟩
  · obtain ⟨rfl, _, rfl⟩ := hown.of_none
    by_cases hm : m = 0
    · subst hm
      have hn : news = [] := List.eq_nil_of_length_eq_zero (by simpa using hs.newsLen)
      subst hn
      refine ⟨none, 0, w, ?_, Own.nil w e i.size, Chg.refl _ _, Or.inl rfl, fun _ => ⟨rfl, rfl⟩⟩
      rcases hs.kind with ⟨e', hk⟩ | hk <;> simp [Builtin.append_, run_underlying ht, run_underlying hk, sizeOf, typeInfo, hi, hs.len, hs.cells]
    · have hr := run_append_grow_src (P := P) w t tx ty e i z ht hi hz none 0 0 [] (by simp [Builtin.firstCells]) x m news hs (by omega) (by omega) (growslice_fits (by omega) hbytes)
      have hgr := grown 0 (by omega) (fun b => (∃ a, (none : Option Addr) = some a ∧ b = a.block) ∧ some (⟨w.heap.size, 0, none⟩ : Addr) = none)
      exact ⟨_, _, _, hr, hgr.1, hgr.2, Or.inr (fun a ea => by injection ea with ea; subst ea; exact Nat.le_refl _), fun h => by cases h⟩
  · by_cases hroom : n + m ≤ c
    · have hfit : n * i.size + news.length ≤ cur.size := by rw [hs.newsLen, hcs, ← Nat.add_mul]; exact Nat.mul_le_mul_right _ hroom
      have hr := run_append_room_src (P := P) w t tx ty e i ht hi g 0 n c x m news hs hroom
        (fun j hj => by rw [Nat.zero_add, cell_of_row w g _ cur e fr hg]; rw [Array.getElem?_eq_getElem (by omega)]; rfl)
        (fun j hj => by
          have := hfr (0 + n * i.size + j) (by omega)
          simp only [World.frozen?, hg]
          simpa using this)
      rw [Nat.zero_add] at hr
      have hs2 := setCells_same g e fr news (n * i.size) w cur hg hfit
      refine ⟨_, _, _, hr, ⟨hlen, hroom, .inr ⟨g, _, fr, rfl, hs2, ?_, hcm, ?_, ?_⟩⟩, (setCells_chg g news _ w).mono (fun b _ hb => ⟨⟨_, rfl, hb⟩, rfl⟩), Or.inl rfl, fun h => by cases h⟩
      · intro j hj
        refine hfr j ?_
        simp only [List.size_toArray, List.length_append, List.length_take, List.length_drop, Array.length_toList] at hj
        omega
      · simp only [List.size_toArray, List.length_append, List.length_take, List.length_drop, Array.length_toList]
        omega
      · rw [htake, ← hlen]
        exact List.take_left
    · have holds : ∀ j u, cs[j]? = some u → w.drew.cell? ((⟨g, 0, none⟩ : Addr).add j) = some u := fun j u hu => by
        obtain ⟨b, off, e1, hc⟩ := hown.sl.2 j u hu
        injection e1 with e1
        injection e1 with e2 e3
        subst e2; subst e3
        rw [Addr.add_lit]; exact hc
      have hr := run_append_grow_src (P := P) w t tx ty e i z ht hi hz (some ⟨g, 0, none⟩) n c cs (run_firstCells_some w.drew i.size n _ n c cs hown.1 holds) x m news hs (by omega) (by omega) (growslice_fits (by omega) hbytes)
      have hgr := grown c (by omega) (fun b => (∃ a, some (⟨g, 0, none⟩ : Addr) = some a ∧ b = a.block) ∧ some (⟨w.heap.size, 0, none⟩ : Addr) = some ⟨g, 0, none⟩)
      exact ⟨_, _, _, hr, hgr.1, hgr.2, Or.inr (fun a ea => by injection ea with ea; subst ea; exact Nat.le_refl _), fun h => by cases h⟩

theorem Src.ofSl {P : Program} {w : World} {sz : Nat} {tx e' : TypeId} (hk : P.underlying tx = some (.slice e')) {ao : Option Addr} {m c : Nat} {cs : List Value} (h : Sl w ao m sz cs) (h1 : ∀ u ∈ cs, u.oneCell' = true) (hn : ao = none → m = 0) :
    Src P sz tx (.slice ao m c) m cs w := by
  cases ao with
  | some a =>
    refine Go.Src.ofSlice w hk a m c cs h.1 (fun j u hu => ?_) h1
    obtain ⟨b, off, e, hc⟩ := h.2 j u hu
    injection e with e
    subst e
    rwa [Addr.add_lit]
  | none =>
    obtain rfl := hn rfl
    have : cs = [] := List.eq_nil_of_length_eq_zero (by simpa using h.1)
    subst this
    exact Go.Src.ofNil w hk c
end Go.HL
