import Derived.Test.YtggecdldnpildaaGreatQArrayTails7
/-! plain: a block's cells on a rack -/
namespace Go.HL
theorem mod_two {n x : Nat} (h : x < 2 * n) : x % n = if x < n then x else x - n := by
  split
  · rename_i h1
    exact Nat.mod_eq_of_lt h1
  · rename_i h1
    rw [Nat.mod_eq_sub_mod (by omega), Nat.mod_eq_of_lt (by omega)]
theorem mod_cancel {n c u v : Nat} (hu : u < n) (hv : v < n) (h : (c + u) % n = (c + v) % n) : u = v := by
  have hc : c % n < n := Nat.mod_lt _ (by omega)
  have h2 : (c % n + u) % n = (c % n + v) % n := by rw [Nat.mod_add_mod, Nat.mod_add_mod]; exact h
  clear h
  generalize c % n = x at h2 hc
  rw [mod_two (x := x + u) (by omega), mod_two (x := x + v) (by omega)] at h2
  split at h2 <;> split at h2 <;> omega
/-- which cell of a row is read as its i-th column -/
def cix (k i : Nat) : Nat := if i < k then i + 3 else i - k
theorem cix_is {k i : Nat} (hi : i < k + 3) : (i + 3) % (k + 3) = cix k i := by
  rw [mod_two (by omega), cix]
  split <;> split <;> omega
theorem cix_lt {k i : Nat} (hi : i < k + 3) : cix k i < k + 3 := by rw [cix]; split <;> omega
theorem cix_inj {k i j : Nat} (hi : i < k + 3) (hj : j < k + 3) (h : cix k i = cix k j) : i = j := by
  rw [cix, cix] at h
  split at h <;> split at h <;> omega
/-- a row's cell, by the column that it is -/
theorem cix_cell {k i : Nat} (p : List UInt8) (rest : List (List UInt8)) (hi : i < k + 3) : (three (chunksA k p) 128 k ++ chunksA k p ++ rest)[cix k i]? = (colsR k p)[i]? := by
  have hl := chunksA_len k p
  rw [List.append_assoc, colsR, cix]
  split
  · rename_i h
    rw [List.getElem?_append_right (by rw [three_len]; omega), three_len, Nat.add_sub_cancel, List.getElem?_append_left (by omega), List.getElem?_append_left (by omega)]
  · rename_i h
    rw [List.getElem?_append_left (by rw [three_len]; omega), List.getElem?_append_right (by omega), hl]
/-- the bytes of a block, out of its rows' columns -/
noncomputable def datA (l : List (List (List UInt8) × List Int)) (bad : List Int) : List UInt8 := l.flatMap fun s => ((rbA s.1 (wrgA s.2 bad) (s.1.length - 3)).take (s.1.length - 3)).flatten
theorem datA_snoc (l : List (List (List UInt8) × List Int)) (s : List (List UInt8) × List Int) (bad : List Int) : datA (l ++ [s]) bad = datA l bad ++ ((rbA s.1 (wrgA s.2 bad) (s.1.length - 3)).take (s.1.length - 3)).flatten := by simp [datA]
theorem datA_cons (l : List (List (List UInt8) × List Int)) (s : List (List UInt8) × List Int) (bad : List Int) : datA (s :: l) bad = ((rbA s.1 (wrgA s.2 bad) (s.1.length - 3)).take (s.1.length - 3)).flatten ++ datA l bad := by simp [datA]
theorem layR_shift {n : Nat} (hn : 4 ≤ n) : ∀ (l a b : Nat) (p : List UInt8), layR (rowsA n a l) p = layR (rowsA n b l) p := by
  intro l
  induction l using Nat.strongRecOn with
  | _ l ih =>
    intro a b p
    rcases Nat.eq_zero_or_pos l with rfl | hl
    · rfl
    · have hk : 1 ≤ min l (n - 3) := by omega
      rw [rowsA_cons hn hl, rowsA_cons (a := b) hn hl, layR, layR, ih (l - min l (n - 3)) (by omega) (a + min l (n - 3) + 3) (b + min l (n - 3) + 3)]
end Go.HL
namespace Go.Proofs.YtggecdldnpildaaGreat
open Go.RowKit Go.HL
set_option maxRecDepth 100000

/-! where a cell lies, what a row holds -/
def plN (n f c : Nat) : Pl := (((c % n : Nat) : Int), ((f + c / n : Nat) : Int))
theorem plN_inj {n f c d : Nat} (h : plN n f c = plN n f d) : c = d := by
  injection h with h1 h2
  have h3 : c % n = d % n := by omega
  have h4 : c / n = d / n := by omega
  rw [← Nat.div_add_mod c n, ← Nat.div_add_mod d n, h3, h4]
def colA (s : RA) (f c : Nat) : List UInt8 := if goneS s ((c % s.dn : Nat) : Int) = true then [] else heldS s (plN s.dn f c)
def stpA (s : RA) (f : Nat) (r : Nat × Nat) : List (List UInt8) × List Int := ((List.range (r.2 + 3)).map fun i => colA s f (r.1 + cix r.2 i), (List.range (r.2 + 3)).map fun i => (((r.1 + cix r.2 i) % s.dn : Nat) : Int))
def strA (s : RA) (f addr size : Nat) : List (List (List UInt8) × List Int) := (rowsA s.dn addr (secsA size)).map (stpA s f)
theorem stpA_len (s : RA) (f : Nat) (r : Nat × Nat) : (stpA s f r).1.length = r.2 + 3 ∧ (stpA s f r).2.length = r.2 + 3 := by simp [stpA]
theorem stpA_col {s : RA} {f : Nat} {r : Nat × Nat} {i : Nat} (hi : i < r.2 + 3) : (stpA s f r).1[i]? = some (colA s f (r.1 + cix r.2 i)) := by simp [stpA, hi]
theorem stpA_drv {s : RA} {f : Nat} {r : Nat × Nat} {i : Nat} (hi : i < r.2 + 3) : (stpA s f r).2.getD i 0 = (((r.1 + cix r.2 i) % s.dn : Nat) : Int) := by simp [stpA, List.getD_eq_getElem?_getD, hi]
/-- all that is gone is among the bad ones -/
def Cov (s : RA) (a m : Nat) (bad : List Int) : Prop := ∀ c, a ≤ c → c < a + m → goneS s ((c % s.dn : Nat) : Int) = true → ((c % s.dn : Nat) : Int) ∈ bad
theorem stpA_ok {s : RA} (h : s.ok) {f : Nat} {r : Nat × Nat} {bad : List Int} (hr : 1 ≤ r.2 ∧ r.2 + 3 ≤ s.dn) (hb : bad.length ≤ 3) (hc : Cov s r.1 (r.2 + 3) bad) : OkCol (stpA s f r).1 (stpA s f r).2 bad := by
  obtain ⟨l1, l2⟩ := stpA_len s f r
  have hd := h.dn
  refine ⟨by rw [l1, l2], by rw [l2]; omega, ?_, hb, fun i c hi hg => ?_⟩
  · rw [stpA, List.Nodup, List.pairwise_map]
    refine List.Pairwise.imp_of_mem ?_ List.pairwise_lt_range
    intro a b ha hb hab e
    have ha' := List.mem_range.1 ha
    have hb' := List.mem_range.1 hb
    have h1 := cix_lt ha'
    have h2 := cix_lt hb'
    have := cix_inj ha' hb' (mod_cancel (n := s.dn) (c := r.1) (by omega) (by omega) (by omega))
    omega
  · have hil : i < r.2 + 3 := by have := (List.getElem?_eq_some_iff.1 hi).1; omega
    have h1 := cix_lt hil
    rw [stpA_col hil] at hi
    injection hi with hi
    subst hi
    rw [stpA_drv hil] at hg
    rw [colA]
    split
    · rename_i h2
      exact absurd (hc _ (by omega) (by omega) h2) hg
    · exact heldS_len h _
/-- the cells of a block are as they were written, but for some drives -/
def Intact (s : RA) (f a : Nat) (cells : List (List UInt8)) (bad : List Int) : Prop := ∀ (j : Nat) (c : List UInt8), cells[j]? = some c → (((a + j) % s.dn : Nat) : Int) ∉ bad → goneS s (((a + j) % s.dn : Nat) : Int) = false ∧ heldS s (plN s.dn f (a + j)) = c
theorem Intact.cov {s : RA} {f a : Nat} {cells : List (List UInt8)} {bad : List Int} (h : Intact s f a cells bad) : Cov s a cells.length bad := fun c h1 h2 hg => by
  by_cases hm : ((c % s.dn : Nat) : Int) ∈ bad
  · exact hm
  · obtain ⟨x, hx⟩ : ∃ x, cells[c - a]? = some x := ⟨_, List.getElem?_eq_getElem (by omega)⟩
    have := (h (c - a) x hx (by rw [show a + (c - a) = c from by omega]; exact hm)).1
    rw [show a + (c - a) = c from by omega, hg] at this
    cases this
theorem datA_rows {s : RA} (h : s.ok) (h5 : 4 ≤ s.dn) {f : Nat} {bad : List Int} (hb : bad.length ≤ 3) : ∀ (l a : Nat) (p : List UInt8), 128 * l ≤ p.length → Intact s f a (layR (rowsA s.dn a l) p) bad → datA ((rowsA s.dn a l).map (stpA s f)) bad = datsR (rowsA s.dn a l) p := by
  intro l
  induction l using Nat.strongRecOn with
  | _ l ih =>
    intro a p hp hI
    cases l with
    | zero => rfl
    | succ l =>
      obtain ⟨k, hk⟩ : ∃ k, k = min (l + 1) (s.dn - 3) := ⟨_, rfl⟩
      have hk1 : 1 ≤ k ∧ k + 3 ≤ s.dn ∧ k ≤ l + 1 := by omega
      have hd := h.dn
      rw [rowsA_cons h5 (Nat.succ_pos l), ← hk] at hI ⊢
      rw [List.map_cons, datA_cons, datsR]
      dsimp only at hI ⊢
      rw [layR] at hI
      dsimp only at hI
      have hll : (three (chunksA k p) 128 k ++ chunksA k p).length = k + 3 := by rw [List.length_append, three_len, chunksA_len]; omega
      have ih := ih (l + 1 - k) (by omega) (a + k + 3) (p.drop (128 * k)) (by rw [List.length_drop]; omega) (fun j c hc hn => by
        have h1 := hI (k + 3 + j) c (by rw [List.getElem?_append_right (by omega), hll, Nat.add_sub_cancel_left]; exact hc)
        rw [show a + (k + 3 + j) = a + k + 3 + j from by omega] at h1
        exact h1 hn)
      rw [ih]
      obtain ⟨l1, l2⟩ := stpA_len s f (a, k)
      have hcol : rbA (stpA s f (a, k)).1 (wrgA (stpA s f (a, k)).2 bad) k = colsR k p := by
        have hc : Cov s a (k + 3) bad := fun c h1 h2 hg => hI.cov c h1 (by rw [List.length_append, hll]; omega) hg
        have hok := stpA_ok h (f := f) (r := (a, k)) ⟨hk1.1, hk1.2.1⟩ hb hc
        refine rbA_of (by omega) (Nat.le_trans (wrgA_len hok.nod) hb) (rbw (colsR_len k p) (colsR_all (by omega)) (colsR_par k p) (fun i hi hw => ?_))
        have hdr : (stpA s f (a, k)).2.getD i 0 ∉ bad := fun hm => hw (wrgA_mem.2 ⟨by rw [l2]; exact hi, hm⟩)
        rw [stpA_drv (r := (a, k)) hi] at hdr
        rw [stpA_col (r := (a, k)) hi]
        obtain ⟨c, hcs⟩ : ∃ c, (colsR k p)[i]? = some c := ⟨_, List.getElem?_eq_getElem (by rw [colsR_len]; exact hi)⟩
        obtain ⟨g1, g2⟩ := hI (cix k i) c (by rw [cix_cell p _ hi, hcs]) hdr
        rw [hcs, colA]
        dsimp only
        rw [g1, if_neg (by decide), g2]
      rw [l1, Nat.add_sub_cancel, hcol]
/-- what is read of a block that is intact but for three drives -/
theorem datA_is {s : RA} (h : s.ok) (h5 : 4 ≤ s.dn) {f a : Nat} {bad : List Int} {b : List UInt8} (hb : bad.length ≤ 3) (hI : Intact s f a (layA s.dn b) bad) : (datA (strA s f a b.length) bad).take b.length = b := by
  have hs := secsA_up (size := b.length)
  have hpl : (padA b).length = b.length + 128 := by simp [padA]
  rw [layA, layR_shift h5 _ 0 a] at hI
  rw [strA, datA_rows h h5 hb _ _ _ (by omega) hI, datsR_is, datR_rows h5, List.take_take, Nat.min_eq_left (by omega), padA, List.take_append_of_le_length (Nat.le_refl _), List.take_length]
/-! writes -/
def putS (s : RA) (f c : Nat) (b : List UInt8) : RA := if goneS s ((c % s.dn : Nat) : Int) = true then s else addS s (plN s.dn f c) b
def wrT (s : RA) (f a : Nat) (cells : List (List UInt8)) : Nat → RA
  | 0 => s
  | i + 1 => putS (wrT s f a cells i) f (a + i) (cells.getD i [])
theorem putS_dn (s : RA) (f c : Nat) (b : List UInt8) : (putS s f c b).dn = s.dn ∧ (putS s f c b).sn = s.sn ∧ (putS s f c b).gone = s.gone ∧ (putS s f c b).waits.length ≤ s.waits.length + 1 := by
  unfold putS
  split
  · exact ⟨rfl, rfl, rfl, by omega⟩
  · exact ⟨rfl, rfl, rfl, by simp [addS]⟩
theorem putS_up {s : RA} (h : Up s) (f c : Nat) (b : List UInt8) : Up (putS s f c b) := by
  unfold putS
  split
  · exact h
  · exact addS_up h _ _
theorem wrT_dn (s : RA) (f a : Nat) (cells : List (List UInt8)) (i : Nat) : (wrT s f a cells i).dn = s.dn ∧ (wrT s f a cells i).sn = s.sn ∧ (wrT s f a cells i).gone = s.gone ∧ (wrT s f a cells i).waits.length ≤ s.waits.length + i := by
  induction i with
  | zero => exact ⟨rfl, rfl, rfl, Nat.le_refl _⟩
  | succ i ih =>
    obtain ⟨a1, a2, a3, a4⟩ := ih
    obtain ⟨b1, b2, b3, b4⟩ := putS_dn (wrT s f a cells i) f (a + i) (cells.getD i [])
    rw [wrT]
    exact ⟨by rw [b1, a1], by rw [b2, a2], by rw [b3, a3], by omega⟩
theorem wrT_up {s : RA} (h : Up s) (f a : Nat) (cells : List (List UInt8)) (i : Nat) : Up (wrT s f a cells i) := by
  induction i with
  | zero => exact h
  | succ i ih => exact putS_up ih _ _ _
theorem wrT_gone (s : RA) (f a : Nat) (cells : List (List UInt8)) (i : Nat) (d : Int) : goneS (wrT s f a cells i) d = goneS s d := by rw [goneS, goneS, (wrT_dn s f a cells i).2.2.1]
theorem putS_held (s : RA) (f c : Nat) (b : List UInt8) (q : Pl) : heldS (putS s f c b) q = if goneS s ((c % s.dn : Nat) : Int) = false ∧ q = plN s.dn f c then b else heldS s q := by
  unfold putS
  split
  · rename_i h
    rw [if_neg (fun h1 => by rw [h1.1] at h; cases h)]
  · rename_i h
    rw [addS_held]
    by_cases h1 : q = plN s.dn f c
    · rw [if_pos h1, if_pos ⟨by simpa using h, h1⟩]
    · rw [if_neg h1, if_neg (fun h2 => h1 h2.2)]
theorem wrT_held {s : RA} {f a : Nat} {cells : List (List UInt8)} {j : Nat} {c : List UInt8} (hc : cells[j]? = some c) (hg : goneS s (((a + j) % s.dn : Nat) : Int) = false) : ∀ (i : Nat), j < i → heldS (wrT s f a cells i) (plN s.dn f (a + j)) = c
  | 0, h => by omega
  | i + 1, h => by
    rw [wrT, putS_held, (wrT_dn s f a cells i).1, wrT_gone]
    by_cases e : j = i
    · subst e
      rw [if_pos ⟨hg, rfl⟩, List.getD_eq_getElem?_getD, hc]
      rfl
    · rw [if_neg (fun h1 => e (by have := plN_inj h1.2; omega)), wrT_held hc hg i (by omega)]
/-- behind a write the block is intact but for what was gone -/
theorem wrT_intact (s : RA) (f a : Nat) (cells : List (List UInt8)) {bad : List Int} (h : Cov s a cells.length bad) : Intact (wrT s f a cells cells.length) f a cells bad := fun j c hc hn => by
  have hj := (List.getElem?_eq_some_iff.1 hc).1
  rw [(wrT_dn s f a cells cells.length).1] at hn ⊢
  rw [wrT_gone]
  have hg : goneS s (((a + j) % s.dn : Nat) : Int) = false := by
    rcases hx : goneS s (((a + j) % s.dn : Nat) : Int) with _ | _
    · rfl
    · exact absurd (h (a + j) (by omega) (by omega) hx) hn
  exact ⟨hg, wrT_held hc hg _ hj⟩
/-! a block's drives -/
def drvA (n a cost : Nat) : List Int := srt ((List.range (min cost n)).map fun c => (((a + c) % n : Nat) : Int))
theorem drvA_len (n a cost : Nat) : (drvA n a cost).length = min cost n := by rw [drvA, srt_len, List.length_map, List.length_range]
theorem drvA_mem {n a cost : Nat} (hn : 0 < n) {j : Nat} (hj : j < cost) : (((a + j) % n : Nat) : Int) ∈ drvA n a cost := by
  rw [drvA, srt_mem, List.mem_map]
  rcases Nat.lt_or_ge j n with h | h
  · exact ⟨j, List.mem_range.2 (by omega), rfl⟩
  · refine ⟨j % n, List.mem_range.2 (by have := Nat.mod_lt j hn; omega), ?_⟩
    rw [Nat.add_mod_mod]
theorem drvA_in {n a cost : Nat} (hn : 0 < n) {d : Int} (h : d ∈ drvA n a cost) : ∃ j, j < cost ∧ j < n ∧ d = (((a + j) % n : Nat) : Int) := by
  rw [drvA, srt_mem, List.mem_map] at h
  obtain ⟨c, hc, rfl⟩ := h
  have := List.mem_range.1 hc
  exact ⟨c, by omega, by omega, rfl⟩
def gonA (s : RA) (ds : List Int) : List Int := ds.filter fun d => goneS s d
theorem gonA_sorted (s : RA) (n a cost : Nat) : srt (gonA s (drvA n a cost)) = gonA s (drvA n a cost) := srt_id (List.Pairwise.filter _ (srt_sorted _))
theorem gonA_cov {s : RA} {a cost : Nat} (hn : 0 < s.dn) : Cov s a cost (gonA s (drvA s.dn a cost)) := fun c h1 h2 hg => by
  have := drvA_mem (n := s.dn) (a := a) (cost := cost) hn (j := c - a) (by omega)
  rw [show a + (c - a) = c from by omega] at this
  exact List.mem_filter.2 ⟨this, hg⟩
end Go.Proofs.YtggecdldnpildaaGreat
namespace Go.HL
open Go.RowKit
/-! rows told apart by the kinds of their blocks -/
theorem kb_chg {M : Nat → Prop} {w w' : World} (k : Chg M w w') {b : Nat} (hb : b < w.heap.size) (hm : ¬ M b) : kb w' b = kb w b := by rw [kb, kb, k.block b hb hm]
abbrev KS (S : Nat → Prop) (w : World) (U : TypeId) : Nat → Prop := fun b => S b ∧ b < w.heap.size ∧ kb w b = some (some U)
/-- a row that is read, its block's kind known -/
def RSK {α : Type} (S : Nat → Prop) (w : World) (U : TypeId) (e : Enc α) (ao : Option Addr) (c : Nat) (xs : List α) : Prop := RSl (KS S w U) w e ao c xs
section
variable {α : Type} {S M : Nat → Prop} {w w' : World} {T U : TypeId} {e : Enc α} {ao : Option Addr} {c : Nat} {xs : List α}
theorem Row.rsk (h : Row S w T e ao c xs) : RSK S w T e ao c xs := (h.kb.lt.rsl).mono (fun b hb => ⟨hb.1.1, hb.2, hb.1.2⟩)
theorem RSK.rsl (h : RSK S w U e ao c xs) : RSl S w e ao c xs := RSl.mono h (fun b hb => hb.1)
theorem RSK.chg (h : RSK S w U e ao c xs) (k : Chg M w w') (hd : ∀ b, b < w.heap.size → S b → kb w b = some (some U) → M b → False) : RSK S w' U e ao c xs := by
  have z := k.size
  have h2 : RSl (fun b => KS S w U b ∧ ¬ M b) w e ao c xs := RSl.mono h (fun b hb => ⟨hb, fun hm => hd b hb.2.1 hb.1 hb.2.2 hm⟩)
  exact (h2.chg k (fun b _ hb hm => hb.2 hm)).mono (fun b hb => ⟨hb.1.1, by have := hb.1.2.1; omega, by rw [kb_chg k hb.1.2.1 hb.2]; exact hb.1.2.2⟩)
theorem RSK.pure (h : RSK S w U e ao c xs) (k : Chg Nob w w') : RSK S w' U e ao c xs := h.chg k (fun _ _ _ _ x => x)
theorem RSK.mono {S' : Nat → Prop} (h : RSK S w U e ao c xs) (k : ∀ b, b < w.heap.size → S b → S' b) : RSK S' w U e ao c xs := RSl.mono h (fun b hb => ⟨k b hb.2.1 hb.1, hb.2⟩)
theorem RSK.nil (S : Nat → Prop) (w : World) (U : TypeId) (e : Enc α) (ao : Option Addr) (c : Nat) : RSK S w U e ao c [] := RSl.nil _ _ _ _ _
theorem RSK.cut (h : RSK S w U e ao c xs) (l k : Nat) (hl : l ≤ k ∧ k ≤ xs.length) : RSK S w U e (cutAt ao c l e.sz) (c - l) ((xs.take k).drop l) := RSl.cut h l k hl
/-- what grows is of another kind -/
theorem RSK.grow {T' : TypeId} {β : Type} {e' : Enc β} {a1 a2 : Option Addr} {c1 : Nat} {ys : List β} {S1 S2 : Nat → Prop} (h : RSK S w U e ao c xs) (ho : Row S1 w T' e' a1 c1 ys) (g : Grow S2 w a1 w' a2) (hn : T' ≠ U) : RSK S w' U e ao c xs :=
  h.chg g.chg (fun b _ _ hk hm => hn (by
    have := (ho.kb.at_.eqb hm.1).2
    rw [hk] at this
    injection this with this
    injection this with this
    exact this.symm))
theorem RSK.low (h : RSK S w U e ao c xs) : RSK (fun b => S b ∧ b < w.heap.size) w U e ao c xs := RSK.mono h (fun b hb hs => ⟨hs, hb⟩)
/-- rows of rows -/
structure KR (S : Nat → Prop) (w : World) (T U : TypeId) (ao : Option Addr) (c : Nat) (rs : List Rw) : Prop where
  outer : Row S w T erow ao c rs
  inner : ∀ r ∈ rs, RSK S w U eb r.ao r.cap r.xs
theorem KR.nil (S : Nat → Prop) (w : World) (T U : TypeId) : KR S w T U none 0 [] := ⟨Row.nil _ _ _ _, fun r hr => by cases hr⟩
theorem KR.chg {rs : List Rw} (h : KR S w T U ao c rs) (k : Chg M w w') (hd : ∀ b, b < w.heap.size → S b → M b → False) : KR S w' T U ao c rs :=
  ⟨h.outer.chg k hd, fun r hr => (h.inner r hr).chg k (fun b h1 h2 _ h3 => hd b h1 h2 h3)⟩
theorem KR.pure {rs : List Rw} (h : KR S w T U ao c rs) (k : Chg Nob w w') : KR S w' T U ao c rs := h.chg k (fun _ _ _ x => x)
theorem KR.mono {rs : List Rw} {S' : Nat → Prop} (h : KR S w T U ao c rs) (k : ∀ b, S b → S' b) : KR S' w T U ao c rs := ⟨h.outer.mono k, fun r hr => (h.inner r hr).mono (fun b _ hb => k b hb)⟩
theorem KR.low {rs : List Rw} (h : KR S w T U ao c rs) : KR (fun b => S b ∧ b < w.heap.size) w T U ao c rs := ⟨h.outer.lt, fun r hr => (h.inner r hr).low⟩
theorem KR.rs {rs : List Rw} (h : KR S w T U ao c rs) : RS S w ao c rs := ⟨h.outer.rsl, fun r hr => (h.inner r hr).rsl⟩
/-- some more -/
theorem KR.app {rs qs : List Rw} (h : KR S w T U ao c rs) (hn : T ≠ U) (hq : ∀ r ∈ qs, RSK S w U eb r.ao r.cap r.xs) {a2 : Option Addr} {c2 : Nat} {S2 : Nat → Prop} (ho : Row S w' T erow a2 c2 (rs ++ qs)) (g : Grow S2 w ao w' a2) : KR S w' T U a2 c2 (rs ++ qs) :=
  ⟨ho, fun r hr => by
    rcases List.mem_append.1 hr with h1 | h1
    · exact (h.inner r h1).grow h.outer g hn
    · exact (hq r h1).grow h.outer g hn⟩
/-- rows of rows that are read -/
structure KS2 (S : Nat → Prop) (w : World) (T U : TypeId) (ao : Option Addr) (c : Nat) (rs : List Rw) : Prop where
  outer : RSK S w T erow ao c rs
  inner : ∀ r ∈ rs, RSK S w U eb r.ao r.cap r.xs
theorem KR.ks {rs : List Rw} (h : KR S w T U ao c rs) : KS2 S w T U ao c rs := ⟨h.outer.rsk, h.inner⟩
theorem KS2.chg {rs : List Rw} (h : KS2 S w T U ao c rs) (k : Chg M w w') (hd : ∀ b, b < w.heap.size → S b → M b → False) : KS2 S w' T U ao c rs :=
  ⟨h.outer.chg k (fun b h1 h2 _ h3 => hd b h1 h2 h3), fun r hr => (h.inner r hr).chg k (fun b h1 h2 _ h3 => hd b h1 h2 h3)⟩
theorem KS2.pure {rs : List Rw} (h : KS2 S w T U ao c rs) (k : Chg Nob w w') : KS2 S w' T U ao c rs := h.chg k (fun _ _ _ x => x)
theorem KS2.mono {rs : List Rw} {S' : Nat → Prop} (h : KS2 S w T U ao c rs) (k : ∀ b, b < w.heap.size → S b → S' b) : KS2 S' w T U ao c rs := ⟨h.outer.mono k, fun r hr => (h.inner r hr).mono k⟩
theorem KS2.low {rs : List Rw} (h : KS2 S w T U ao c rs) : KS2 (fun b => S b ∧ b < w.heap.size) w T U ao c rs := ⟨h.outer.low, fun r hr => (h.inner r hr).low⟩
theorem KS2.rs {rs : List Rw} (h : KS2 S w T U ao c rs) : RS S w ao c rs := ⟨h.outer.rsl, fun r hr => (h.inner r hr).rsl⟩
theorem KS2.grow {rs : List Rw} {T' : TypeId} {β : Type} {e' : Enc β} {a1 a2 : Option Addr} {c1 : Nat} {ys : List β} {S1 S2 : Nat → Prop} (h : KS2 S w T U ao c rs) (ho : Row S1 w T' e' a1 c1 ys) (g : Grow S2 w a1 w' a2) (h1 : T' ≠ T) (h2 : T' ≠ U) : KS2 S w' T U ao c rs :=
  ⟨h.outer.grow ho g h1, fun r hr => (h.inner r hr).grow ho g h2⟩
end
theorem OR.ks {w : World} {T U : TypeId} {go k n : Nat} {gs : List Nat} {xss : List (List UInt8)} (h : OR w T U go k gs n xss []) {S : Nat → Prop} (hS : ∀ b, go ≤ b → S b) : KS2 S w T U (some ⟨go, 0, none⟩) k (orows gs n xss) := by
  have ho := h.outer
  rw [List.append_nil] at ho
  refine ⟨(ho.mono (S' := S) (fun b e => hS b (by have h2 : b = go := e; omega))).rsk, fun r hr => ?_⟩
  obtain ⟨i, hi⟩ := List.getElem?_of_mem hr
  rw [orows, List.getElem?_zipWith] at hi
  split at hi
  · rename_i g x hg hx
    injection hi with hi
    subst hi
    have h3 := h.above i g hg
    exact ((h.inner i g x hg hx).mono (S' := S) (fun b e => hS b (by have h2 : b = g := e; omega))).rsk
  · cases hi
/-- a stripe: its columns, their drives -/
structure Stp where
  ca : Option Addr
  cc : Nat
  cs : List Rw
  da : Option Addr
  dc : Nat
  ds : List Int
def estp : Enc Stp := ⟨2, fun s => [.slice s.ca s.cs.length s.cc, .slice s.da s.ds.length s.dc], fun _ => rfl, by simp [Value.oneCell'], by decide⟩
def Stp.abs (s : Stp) : List (List UInt8) × List Int := (s.cs.map Rw.xs, s.ds)
/-- what the stripes of a row hold -/
structure SI (S : Nat → Prop) (w : World) (T U V : TypeId) (l : List Stp) : Prop where
  cols : ∀ s ∈ l, KS2 S w T U s.ca s.cc s.cs
  drs : ∀ s ∈ l, RSK S w V ei s.da s.dc s.ds
section
variable {S M : Nat → Prop} {w w' : World} {T U V : TypeId} {l : List Stp}
theorem SI.nil (S : Nat → Prop) (w : World) (T U V : TypeId) : SI S w T U V [] := ⟨by intro s hs; simp at hs, by intro s hs; simp at hs⟩
theorem SI.chg (h : SI S w T U V l) (k : Chg M w w') (hd : ∀ b, b < w.heap.size → S b → M b → False) : SI S w' T U V l :=
  ⟨fun s hs => (h.cols s hs).chg k hd, fun s hs => (h.drs s hs).chg k (fun b h1 h2 _ h3 => hd b h1 h2 h3)⟩
theorem SI.pure (h : SI S w T U V l) (k : Chg Nob w w') : SI S w' T U V l := h.chg k (fun _ _ _ x => x)
theorem SI.mono {S' : Nat → Prop} (h : SI S w T U V l) (k : ∀ b, b < w.heap.size → S b → S' b) : SI S' w T U V l := ⟨fun s hs => (h.cols s hs).mono k, fun s hs => (h.drs s hs).mono k⟩
theorem SI.low (h : SI S w T U V l) : SI (fun b => S b ∧ b < w.heap.size) w T U V l := h.mono (fun b hb hs => ⟨hs, hb⟩)
theorem SI.snoc (h : SI S w T U V l) {x : Stp} (h1 : KS2 S w T U x.ca x.cc x.cs) (h2 : RSK S w V ei x.da x.dc x.ds) : SI S w T U V (l ++ [x]) :=
  ⟨fun s hs => by
    rcases List.mem_append.1 hs with h3 | h3
    · exact h.cols s h3
    · rw [List.mem_singleton] at h3; subst h3; exact h1, fun s hs => by
    rcases List.mem_append.1 hs with h3 | h3
    · exact h.drs s h3
    · rw [List.mem_singleton] at h3; subst h3; exact h2⟩
theorem SI.grow {T' : TypeId} {β : Type} {e' : Enc β} {a1 a2 : Option Addr} {c1 : Nat} {ys : List β} {S1 S2 : Nat → Prop} (h : SI S w T U V l) (ho : Row S1 w T' e' a1 c1 ys) (g : Grow S2 w a1 w' a2) (h1 : T' ≠ T) (h2 : T' ≠ U) (h3 : T' ≠ V) : SI S w' T U V l :=
  ⟨fun s hs => (h.cols s hs).grow ho g h1 h2, fun s hs => (h.drs s hs).grow ho g h3⟩
end
end Go.HL
namespace Go.HL
open Go.RowKit
/-! append(row, make(..)...): noughts behind a row of the call's own -/
theorem run_append_zeros_hl {P : Program} (w : World) (t tx ty e : TypeId) (i : TypeInfo) (z : Value) (sz bytes : Nat) (kq kn : IntKind) (ht : P.underlying t = some (.slice e)) (htx : P.underlying tx = some (.int kn)) (hi : P.info? e = some i) (hz : i.zero = some z)
    (hsize : i.size = sz) (hby : i.bytes = bytes) (hzs : z.cells.size = sz) (hpos : 0 < sz) (hone : ∀ u ∈ z.cells.toList, u.oneCell' = true)
    (g n c : Nat) (cs : List Value) (hown : Own w e sz (some ⟨g, 0, none⟩) n c cs) (m : Nat) (hm : 0 < m) (h63 : n + m ≤ maxLen) (hbytes : (n + m) * bytes ≤ 140737488355328) :
    ∃ ao' c' w', (Builtin.append_ #[t, tx] ty #[.slice (some ⟨g, 0, none⟩) n c, .int kq m]).run P w = .ok (.slice ao' (n + m) c') w' ∧ Own w' e sz ao' (n + m) c' (cs ++ (Builtin.zeroCells z.cells m).toList) ∧
      Chg (fun b => Eqb (some ⟨g, 0, none⟩) b ∧ ao' = some ⟨g, 0, none⟩) w w' ∧ (ao' = some ⟨g, 0, none⟩ ∨ At (w.heap.size ≤ ·) ao') := by
  subst hsize
  subst hby
  obtain ⟨news, hnews⟩ : ∃ news, news = (Builtin.zeroCells z.cells m).toList := ⟨_, rfl⟩
  have hnl : news.length = m * i.size := by rw [hnews, Array.length_toList, size_zeroCells, hzs]
  have hn1 : ∀ u ∈ news, u.oneCell' = true := fun u hu => hone u ((zeroCells_list z.cells m).2 u (hnews ▸ hu))
  have hsmall : n + m ≤ 9223372036854775807 := by simp only [maxLen] at h63; omega
  have hlen : (cs ++ news).length = (n + m) * i.size := by rw [List.length_append, hown.1, hnl, Nat.add_mul]
  have hk : m ≠ 0 := by omega
  have hw : IntKind.i64.wrap (m : Int) = m := by rw [IntKind.wrap_i64]; omega
  have hneg : ¬ ((m : Int) < 0) := by omega
  have hns : ¬ (m * i.size = 0) := Nat.mul_ne_zero hk (by omega)
  have hmb : m * i.bytes ≤ 140737488355328 := Nat.le_trans (Nat.mul_le_mul_right _ (by omega)) hbytes
  have h48i : ¬ (281474976710656 < (m : Int) * (i.bytes : Int)) := by
    rw [← Int.natCast_mul]
    omega
  rw [← hnews]
  rcases hown.2.2 with ⟨h0, _⟩ | ⟨g', cur, fr, hg', hg, hfr, hcm, hcs, htake⟩
  · cases h0
  · injection hg' with hg'
    injection hg' with hg' _ _
    subst hg'
    by_cases hroom : n + m ≤ c
    · have hfit : n * i.size + news.length ≤ cur.size := by rw [hnl, hcs, ← Nat.add_mul]; exact Nat.mul_le_mul_right _ hroom
      have hst := run_storeCells_cells (P := P) g (0 + n * i.size) news 0 w
        (fun j hj => by rw [Nat.zero_add, Nat.add_zero, cell_of_row w g _ cur e fr hg]; rw [Array.getElem?_eq_getElem (by omega)]; rfl)
        (fun j hj => by
          have := hfr (0 + n * i.size + j) (by omega)
          simp only [World.frozen?, hg]
          simpa using this) hn1
      simp only [Nat.add_zero] at hst
      have hr : (Builtin.append_ #[t, tx] ty #[.slice (some ⟨g, 0, none⟩) n c, .int kq m]).run P w = .ok (.slice (some ⟨g, 0, none⟩) (n + m) c) (w.setCells g (0 + n * i.size) news) := by
        simp [Builtin.append_, run_underlying ht, run_underlying htx, sizeOf, typeInfo, zeroValue, hi, hz, asInt, asIntOf, hw, hk, hneg, hns, h48i, hroom, Addr.add_lit, ← hnews]
        simp at hst
        simp [hst]
      rw [Nat.zero_add] at hr
      have hs2 := setCells_same g e fr news (n * i.size) w cur hg hfit
      refine ⟨_, _, _, hr, ⟨hlen, hroom, .inr ⟨g, _, fr, rfl, hs2, ?_, hcm, ?_, ?_⟩⟩, (setCells_chg g news _ w).mono (fun b _ hb => ⟨⟨_, rfl, hb⟩, rfl⟩), Or.inl rfl⟩
      · intro j hj
        refine hfr j ?_
        simp only [List.size_toArray, List.length_append, List.length_take, List.length_drop, Array.length_toList] at hj
        omega
      · simp only [List.size_toArray, List.length_append, List.length_take, List.length_drop, Array.length_toList]
        omega
      · rw [htake, ← hlen]
        exact List.take_left
    · have holds : ∀ j u, cs[j]? = some u → w.drew.cell? ((⟨g, 0, none⟩ : Addr).add j) = some u := fun j u hu => by
        obtain ⟨b, off, e1, hc⟩ := hown.sl.2 j u hu
        injection e1 with e1
        injection e1 with e2 e3
        subst e2; subst e3
        rw [Addr.add_lit]; exact hc
      have hold := run_firstCells_some w.drew i.size n (⟨g, 0, none⟩ : Addr) n c cs hown.1 holds (P := P)
      have h63' : ¬ (9223372036854775807 < ((n : Int) + (m : Int))) := by omega
      have h48' : ¬ (281474976710656 < Builtin.nextslicecap (n + m) c * i.bytes) := by
        have := growslice_fits (old := c) (need := n + m) (bytes := i.bytes) (by omega) hbytes
        omega
      have hr : (Builtin.append_ #[t, tx] ty #[.slice (some ⟨g, 0, none⟩) n c, .int kq m]).run P w = .ok (.slice (some ⟨w.heap.size, 0, none⟩) (n + m) (grownCap w (n + m) c e)) (w.drew.alloc (.cells (cs.toArray ++ Builtin.zeroCells z.cells m ++ Builtin.zeroCells z.cells (grownCap w (n + m) c e - (n + m))) e)) := by
        simp [Builtin.append_, run_underlying ht, run_underlying htx, sizeOf, typeInfo, zeroValue, hi, hz, asInt, asIntOf, hw, hk, hroom, hneg, hns, h63', h48', h48i, Question.forced, hold, newRow, grownCap]
      have e1 : cs.toArray ++ Builtin.zeroCells z.cells m = (cs ++ news).toArray := by rw [hnews]; simp
      rw [e1] at hr
      have hge := grownCap_ge w (n + m) c e
      have hcm : grownCap w (n + m) c e ≤ maxLen := grownCap_le_maxLen w (n + m) c e h63
      refine ⟨_, _, _, hr, ⟨hlen, hge, .inr ⟨w.heap.size, _, (0, 0), rfl, heap_alloc_new w.drew _, fun j _ h => by omega, hcm, ?_, ?_⟩⟩, ⟨rfl, rfl, rfl, by simp, fun k hk _ => Below.heap_alloc w.drew _ k hk⟩, Or.inr (fun a ea => by injection ea with ea; subst ea; exact Nat.le_refl _)⟩
      · simp only [Array.size_append, List.size_toArray, size_zeroCells, hzs, hlen, ← Nat.add_mul]
        congr 1
        omega
      · simp only [Array.toList_append]
        rw [← hlen]
        exact List.take_left
section
variable {P : Program} {ops : Array Oper} {Q : Exit → Act → World → Prop} {N : Nat} {E : Env} {w : World} {rest : List Oper} {ty : TypeId} {pos : String} {af : Array Edge} {d : Nat} {S : Nat → Prop} {t T tx : TypeId}
theorem zeros8 (m : Nat) : (Builtin.zeroCells (v8 0).cells m).toList = eb.all (List.replicate m (0 : UInt8)) := by
  have h1 : (Builtin.zeroCells (v8 0).cells m).toList = List.replicate m (v8 0) := by
    refine List.eq_replicate_iff.2 ⟨?_, fun u hu => ?_⟩
    · rw [(zeroCells_list _ m).1]; simp [Value.cells]
    · have := (zeroCells_list (v8 0).cells m).2 u hu
      simpa [Value.cells] using this
  rw [h1]
  induction m with
  | zero => rfl
  | succ m ih =>
    rw [List.replicate_succ, List.replicate_succ]
    show v8 0 :: List.replicate m (v8 0) = [v8 0] ++ eb.all (List.replicate m 0)
    rw [← ih (by
      refine List.eq_replicate_iff.2 ⟨?_, fun u hu => ?_⟩
      · rw [(zeroCells_list _ m).1]; simp [Value.cells]
      · have := (zeroCells_list (v8 0).cells m).2 u hu
        simpa [Value.cells] using this)]
    rfl
theorem WL.appendZs {s x : Operand} {bytes m g c : Nat} {k kn : IntKind} {xs : List UInt8} (hinfo : (P.info? T).map (fun i => (i.zero, i.size, i.bytes)) = some (some (v8 0), 1, bytes))
    (ht : P.underlying t = some (.slice T)) (htx : P.underlying tx = some (.int kn)) (hs : ev E s = some (.slice (some ⟨g, 0, none⟩) xs.length c)) (hx : ev E x = some (.int k (m : Int))) (ho : Row S w T eb (some ⟨g, 0, none⟩) c xs)
    (hm : 0 < m ∧ xs.length + m ≤ 9223372036854775807 ∧ (xs.length + m) * bytes ≤ 140737488355328) (hS : ∀ b, w.heap.size ≤ b → S b) (hd : Nat.blt d N = true)
    (h : ∀ ao2 c2 w', Row S w' T eb ao2 c2 (xs ++ List.replicate m 0) → Grow S w (some ⟨g, 0, none⟩) w' ao2 → WL P ops Q N rest ((d, .slice ao2 (xs ++ List.replicate m (0 : UInt8)).length c2) :: E) w') :
    WL P ops Q N (⟨some d, .call ⟨.builtin .append, #[s, x], #[t, tx]⟩, ty, pos, af, none⟩ :: rest) E w := by
  obtain ⟨i, hi, h1, h2, h3⟩ := info_parts hinfo
  obtain ⟨ao', c', w', hr, how, hc, hor⟩ := run_append_zeros_hl (P := P) w t tx ty T i (v8 0) 1 bytes k kn ht htx hi h1 h2 h3 (by simp [Value.cells]) (by decide) (by simp [Value.cells, Value.oneCell']) g xs.length c (eb.all xs) ho.own m hm.1 (by simpa [maxLen] using hm.2.1) hm.2.2
  refine WL.run _ w' (fun a ha => by simp [execOp, resolve, invoke, builtin, ev_eval ha hs, ev_eval ha hx, hr]; rfl) hd ?_
  have hl : (xs ++ List.replicate m (0 : UInt8)).length = xs.length + m := by simp
  rw [← hl]
  rw [zeros8, ← Enc.all_append, ← hl] at how
  refine h ao' c' w' ⟨?_, how⟩ ⟨hc.mono fun b _ hb => ⟨hb.1, ho.at_.eqb hb.1⟩, hor⟩
  rcases hor with rfl | h5
  · exact ho.at_
  · exact h5.mono hS
theorem WL.makeFun6 {f : FuncId} {x1 x2 x3 x4 x5 x6 : Operand} {v1 v2 v3 v4 v5 v6 : Value} (h1 : ev E x1 = some v1) (h2 : ev E x2 = some v2) (h3 : ev E x3 = some v3) (h4 : ev E x4 = some v4) (h5 : ev E x5 = some v5) (h6 : ev E x6 = some v6) (hd : Nat.blt d N = true) (h : WL P ops Q N rest ((d, .func (.func f) #[] #[v1, v2, v3, v4, v5, v6]) :: E) w) :
    WL P ops Q N (⟨some d, .makeFunc (.func f) #[] #[x1, x2, x3, x4, x5, x6], ty, pos, af, none⟩ :: rest) E w :=
  WL.run _ w (fun a ha => by simp [execOp, ev_eval ha h1, ev_eval ha h2, ev_eval ha h3, ev_eval ha h4, ev_eval ha h5, ev_eval ha h6, Instr.makeFunc]) hd h
theorem WL.sliceM {hi mx : Operand} {x : Operand} {ao : Option Addr} {n c h m sz : Nat} {j q : IntKind} (ht : P.underlying t = some (.slice T)) (hs : ∀ w, (sizeOf T).run P w = .ok sz w) (hx : ev E x = some (.slice ao n c))
    (hhi : ev E hi = some (.int j (h : Int))) (hmx : ev E mx = some (.int q (m : Int))) (hl : h ≤ m ∧ m ≤ c) (hd : Nat.blt d N = true)
    (k' : WL P ops Q N rest ((d, .slice (cutAt ao m 0 sz) h m) :: E) w) : WL P ops Q N (⟨some d, .slice t x none (some hi) (some mx), ty, pos, af, none⟩ :: rest) E w := by
  have hr : (Instr.sliceAt t (.slice ao n c) none (some (.int j (h : Int))) (some (.int q (m : Int)))).run P w = .ok (.slice (cutAt ao m 0 sz) h m) w := by
    have e2 : (h : Int) ≤ (m : Int) := by omega
    simp [Instr.sliceAt, Instr.slice, Instr.sliceBounds, Instr.sliceBound, asIntOf, run_underlying ht, hs, e2, hl.1, hl.2, cutAt]
  refine WL.run _ w (fun a ha => ?_) hd k'
  simp [execOp, ev_eval ha hx, ev_eval ha hhi, ev_eval ha hmx, hr]
theorem RSl.top {α : Type} {e : Enc α} {w : World} {S : Nat → Prop} {ao : Option Addr} {c h m : Nat} {xs : List α} (hr : RSl S w e ao c xs) (hh : h ≤ xs.length) (hm : h ≤ m ∧ 0 < m ∧ m ≤ c) : RSl S w e (cutAt ao m 0 e.sz) m (xs.take h) := by
  have h1 := (hr.take h hh).drop 0 (Nat.zero_le _)
  rw [List.drop_zero] at h1
  have e1 : cutAt ao c 0 e.sz = cutAt ao m 0 e.sz := by unfold cutAt; rw [if_neg (by omega), if_neg (by omega)]
  rw [e1] at h1
  exact ⟨h1.at_, by rw [List.length_take]; omega, h1.sl⟩
end
end Go.HL
namespace Go.Proofs.YtggecdldnpildaaGreat
open Go.RowKit Go.HL
set_option maxRecDepth 100000

/-! an array: its block; its cells, a block's rows, their cost -/
abbrev AB (w : World) (a R n f : Nat) : Prop := Blk w a 81 [ptr R, vi n, vi f]
theorem anew_calls {A : Nat → Prop} {w : World} {R : Nat} {s : RA} (h : RK A w R s) (f : Nat) (h5 : 5 ≤ s.dn) (hf : f < s.sn) :
    Calls Tryz.prog 14 [ptr R, vi f].toArray w (Ret fun v w' => (∃ a, v = .tuple #[ptr a, vi 0] ∧ AB w' a R s.dn f ∧ w.heap.size ≤ a) ∧ Chg Nob w w') := by
  have hw := Chg.refl Nob w
  refine Calls.of_WC Tryz.func14 rfl Tryz.ntmps14 (by simp) ?_
  refine WC.seq (WC.region (WL.assign rfl rfl (WL.assign rfl rfl (WL.nil (WX.then_normal (WC.seq (WC.seq (?_))))))))
  refine WC.region (WL.move rfl rfl (?_))
  refine WL.call eg_25 rfl rfl (Drives_calls h) ?_
  rintro v w1 ⟨rfl, k1⟩
  have zs_k1 := k1.size
  replace h := h.pure k1
  replace hw := hw.pure k1
  refine WL.lssF rfl rfl rfl (by omega) ?_
  refine WL.move rfl rfl (WL.want rfl rfl rfl (WL.move rfl rfl (WL.want rfl rfl rfl (?_))))
  refine WL.lssF rfl rfl rfl (by omega) ?_
  refine WL.pickF rfl rfl rfl (WL.move rfl rfl (WL.want rfl rfl rfl (WL.move rfl rfl (WL.want rfl rfl rfl (WL.move rfl rfl (WL.want rfl rfl rfl (?_)))))))
  refine WL.call eg_38 rfl rfl (Sectors_calls h) ?_
  rintro v w1 ⟨rfl, k1⟩
  have zs_k1 := k1.size
  replace h := h.pure k1
  replace hw := hw.pure k1
  refine WL.want rfl rfl rfl (?_)
  refine WL.geqF rfl rfl rfl (by omega) ?_
  refine WL.pickF rfl rfl rfl (WL.nil (WX.then_normal (WC.cond_false rfl (WC.skip (WX.then_normal (WC.seq (WC.region (?_))))))))
  refine WL.move rfl rfl (WL.move rfl rfl (?_))
  refine WL.call eg_25 rfl rfl (Drives_calls h) ?_
  rintro v w1 ⟨rfl, k1⟩
  have zs_k1 := k1.size
  replace h := h.pure k1
  replace hw := hw.pure k1
  refine WL.move rfl rfl (WL.bld rfl (bld_81_0_1_2 _ _ _) rfl (?_))
  refine WL.box rfl rfl ?_
  intro g_1 w_1 hge_1 hlt_1 hb_1 k_1
  have zs_k_1 := k_1.size
  replace h := h.pure k_1
  replace hw := hw.pure k_1
  refine WL.assign rfl rfl (WL.assign rfl rfl (WL.nil (WX.then_normal (WC.ret (?_)))))
  refine WX.ret2 (.inl rfl) Tryz.results14 rfl rfl ?_
  exact ⟨_, rfl, ⟨g_1, rfl, hb_1, by have := hw.size; omega⟩, hw⟩
theorem Cells_calls {A : Nat → Prop} {w : World} {a R f : Nat} {s : RA} (hB : AB w a R s.dn f) (h : RK A w R s) (hf : f < s.sn) :
    Calls Tryz.prog 16 [ptr a].toArray w (Ret fun v w' => v = vi ((s.dn * (s.sn - f) : Nat) : Int) ∧ Chg Nob w w') := by
  have hw := Chg.refl Nob w
  have hdn := h.ok.dn
  have hsn := h.ok.sn
  have hm : s.dn * (s.sn - f) ≤ 16 * 2000 := Nat.mul_le_mul (by omega) (by omega)
  have hc : (s.dn : Int) * ((s.sn : Int) - (f : Int)) = ((s.dn * (s.sn - f) : Nat) : Int) := by rw [Int.natCast_mul, Int.natCast_sub (by omega)]
  refine Calls.of_WC Tryz.func16 rfl Tryz.ntmps16 (by simp) ?_
  refine WC.seq (WC.region (WL.assign rfl rfl (WL.nil (WX.then_normal (WC.seq (WC.seq (WC.region (?_))))))))
  refine WL.move rfl rfl (?_)
  refine WL.ptrNil Tryz.underlying31 rfl rfl rfl ?_
  refine WL.nil (WX.then_normal (WC.cond_false rfl (WC.skip (WX.then_normal (WC.seq (?_))))))
  refine WC.draw (Nob) [0, 1, 2, 3, 4, 5, 6, 7, 9, 10, 11, 12] [8, 13, 14, 15] mixed rfl rfl (fun wd_1 kd_1 zd_1 => ?_)
  have zs_kd_1 := kd_1.size
  replace hB := hB.pure kd_1
  replace h := h.pure kd_1
  replace hw := hw.pure kd_1
  apply DQ.step (E' := [(0, _)])
  case ho => rfl
  case hs => exact ⟨rfl, trivial⟩
  case hk => rfl
  case h1 =>
    intro wq_3 kq_3
    refine WL.move rfl rfl (?_)
    refine WL.nil ?_
    exact WX.one ⟨rfl, by exact Chg.refl _ _⟩
  apply DQ.step (E' := [(5, _)])
  case ho => rfl
  case hs => exact ⟨rfl, trivial⟩
  case hk => rfl
  case h1 =>
    intro wq_4 kq_4
    refine WL.nilCheck rfl rfl (?_)
    refine WL.nil ?_
    exact WX.one ⟨rfl, by exact Chg.refl _ _⟩
  apply DQ.step (E' := [(6, _)])
  case ho => rfl
  case hs => exact ⟨rfl, trivial⟩
  case hk => rfl
  case h1 =>
    intro wq_5 kq_5
    refine WL.fieldAddr (fld_81_1) rfl rfl (?_)
    refine WL.nil ?_
    exact WX.one ⟨rfl, by exact Chg.refl _ _⟩
  apply DQ.step (E' := [(7, _)])
  case ho => rfl
  case hs => exact ⟨rfl, trivial⟩
  case hk => rfl
  case h1 =>
    intro wq_6 kq_6
    have zs_kq_6 := kq_6.size
    replace hB := hB.pure kq_6
    replace h := h.pure kq_6
    replace hw := hw.pure kq_6
    refine WL.loadB Tryz.isAgg3 hB rfl rfl rfl (?_)
    refine WL.nil ?_
    exact WX.one ⟨rfl, by exact Chg.refl _ _⟩
  apply DQ.step (E' := [(0, _)])
  case ho => rfl
  case hs => exact ⟨rfl, trivial⟩
  case hk => rfl
  case h1 =>
    intro wq_7 kq_7
    refine WL.move rfl rfl (?_)
    refine WL.nil ?_
    exact WX.one ⟨rfl, by exact Chg.refl _ _⟩
  apply DQ.step (E' := [(9, _)])
  case ho => rfl
  case hs => exact ⟨rfl, trivial⟩
  case hk => rfl
  case h1 =>
    intro wq_8 kq_8
    refine WL.nilCheck rfl rfl (?_)
    refine WL.nil ?_
    exact WX.one ⟨rfl, by exact Chg.refl _ _⟩
  apply DQ.step (E' := [(10, _)])
  case ho => rfl
  case hs => exact ⟨rfl, trivial⟩
  case hk => rfl
  case h1 =>
    intro wq_9 kq_9
    refine WL.fieldAddr (fld_81_0) rfl rfl (?_)
    refine WL.nil ?_
    exact WX.one ⟨rfl, by exact Chg.refl _ _⟩
  apply DQ.step (E' := [(11, _)])
  case ho => rfl
  case hs => exact ⟨rfl, trivial⟩
  case hk => rfl
  case h1 =>
    intro wq_10 kq_10
    have zs_kq_10 := kq_10.size
    replace hB := hB.pure kq_10
    replace h := h.pure kq_10
    replace hw := hw.pure kq_10
    refine WL.loadB Tryz.isAgg27 hB rfl rfl rfl (?_)
    refine WL.nil ?_
    exact WX.one ⟨rfl, by exact Chg.refl _ _⟩
  apply DQ.step (E' := [(0, _)])
  case ho => rfl
  case hs => exact ⟨rfl, trivial⟩
  case hk => rfl
  case h1 =>
    intro wq_11 kq_11
    refine WL.move rfl rfl (?_)
    refine WL.nil ?_
    exact WX.one ⟨rfl, by exact Chg.refl _ _⟩
  apply DQ.step (E' := [(14, _)])
  case ho => rfl
  case hs => exact ⟨rfl, trivial⟩
  case hk => rfl
  case h1 =>
    intro wq_12 kq_12
    refine WL.nilCheck rfl rfl (?_)
    refine WL.nil ?_
    exact WX.one ⟨rfl, by exact Chg.refl _ _⟩
  apply DQ.step (E' := [(15, _)])
  case ho => rfl
  case hs => exact ⟨rfl, trivial⟩
  case hk => rfl
  case h1 =>
    intro wq_13 kq_13
    refine WL.fieldAddr (fld_81_2) rfl rfl (?_)
    refine WL.nil ?_
    exact WX.one ⟨rfl, by exact Chg.refl _ _⟩
  apply DQ.step (E' := [(16, _)])
  case ho => rfl
  case hs => exact ⟨rfl, trivial⟩
  case hk => rfl
  case h1 =>
    intro wq_14 kq_14
    have zs_kq_14 := kq_14.size
    replace hB := hB.pure kq_14
    replace h := h.pure kq_14
    replace hw := hw.pure kq_14
    refine WL.loadB Tryz.isAgg3 hB rfl rfl rfl (?_)
    refine WL.nil ?_
    exact WX.one ⟨rfl, by exact Chg.refl _ _⟩
  refine DQ.done (fun hd_2 => ?_)
  refine DL.step [(12, _)] rfl ⟨rfl, trivial⟩ rfl (fun wq_15 kq_15 => ?_)
  have zs_kq_15 := kq_15.size
  replace hB := hB.pure kq_15
  replace h := h.pure kq_15
  replace hw := hw.pure kq_15
  replace hd_2 := hd_2.pure kq_15
  refine WL.call eg_38 rfl rfl (Sectors_calls h) ?_
  rintro v w1 ⟨rfl, k1⟩
  have zs_k1 := k1.size
  replace hB := hB.pure k1
  replace h := h.pure k1
  replace hw := hw.pure k1
  replace hd_2 := hd_2.pure k1
  refine WL.nil ?_
  refine WX.one ⟨hd_2, ?_⟩
  refine DL.step [(13, _), (17, _)] rfl ⟨rfl, rfl, trivial⟩ rfl (fun wq_16 kq_16 => ?_)
  have zs_kq_16 := kq_16.size
  replace hB := hB.pure kq_16
  replace h := h.pure kq_16
  replace hw := hw.pure kq_16
  replace hd_2 := hd_2.pure kq_16
  refine WL.sub64 rfl rfl (by constructor <;> omega) rfl ?_
  refine WL.nil ?_
  refine WX.one ⟨hd_2, ?_⟩
  refine DL.step [(8, _), (18, _)] rfl ⟨rfl, rfl, trivial⟩ rfl (fun wq_17 kq_17 => ?_)
  have zs_kq_17 := kq_17.size
  replace hB := hB.pure kq_17
  replace h := h.pure kq_17
  replace hw := hw.pure kq_17
  replace hd_2 := hd_2.pure kq_17
  refine WL.mul64 rfl rfl (by rw [hc]; constructor <;> omega) rfl ?_
  refine WL.nil ?_
  refine WX.one ⟨hd_2, ?_⟩
  refine DL.step [(19, _)] rfl ⟨rfl, trivial⟩ rfl (fun wq_18 kq_18 => ?_)
  have zs_kq_18 := kq_18.size
  replace hB := hB.pure kq_18
  replace h := h.pure kq_18
  replace hw := hw.pure kq_18
  replace hd_2 := hd_2.pure kq_18
  refine WL.assign rfl rfl (?_)
  refine WL.nil ?_
  refine WX.one ⟨hd_2, ?_⟩
  refine DL.done (fun we_19 ke_19 => ?_)
  have zs_ke_19 := ke_19.size
  replace hB := hB.pure ke_19
  replace h := h.pure ke_19
  replace hw := hw.pure ke_19
  replace hd_2 := hd_2.pure ke_19
  refine WX.then_normal (WC.ret (?_))
  refine WX.ret1 (.inl rfl) Tryz.results16 rfl ?_
  exact ⟨_, rfl, by rw [hc], hw⟩
theorem rows_calls {w : World} {a R n f : Nat} (hB : AB w a R n f) (hn : 5 ≤ n ∧ n ≤ 16) (addr size : Nat) (ha : addr ≤ 100000) (hs : size ≤ 1024) :
    Calls Tryz.prog 39 [ptr a, vi addr, vi size].toArray w (Ret fun v w' => (∃ ao c, v = .slice ao (rowsA n addr (secsA size)).length c ∧ Row (w.heap.size ≤ ·) w' 85 er2 ao c (rowsA n addr (secsA size))) ∧ Chg Nob w w') := by
  have hw := Chg.refl Nob w
  have la := hB.lt
  have h8 := secsA_le hs
  have e8 : ((size : Int) + 128 - 1) / 128 = (secsA size : Int) := by rw [secsA]; omega
  refine Calls.of_WC Tryz.func39 rfl Tryz.ntmps39 (by simp) ?_
  refine WC.seq (WC.region (WL.assign rfl rfl (WL.nil (WX.then_normal (WC.seq (WC.region (WL.assign rfl rfl (?_))))))))
  refine WL.nil (WX.then_normal (WC.seq (WC.seq (WC.region (WL.move rfl rfl (WL.add64 rfl rfl (by omega) rfl (WL.sub64 rfl rfl (by omega) rfl (?_))))))))
  refine WL.quo64i rfl rfl (by constructor <;> omega) rfl ?_
  rw [e8]
  refine WL.assign rfl rfl (WL.nil (WX.then_normal (WC.block (?_))))
  obtain ⟨R0, hR0⟩ : ∃ l, l = rowsA n addr (secsA size) := ⟨_, rfl⟩
  refine WC.loop (σ := (Option Addr × Nat) × List (Nat × Nat) × Nat × Nat) (fun s => [(0, ptr a), (1, vi (s.2.2.1 : Nat)), (7, .slice s.1.1 s.2.1.length s.1.2), (8, vi (s.2.2.2 : Nat))])
    (fun s w' => s.2.1 ++ rowsA n s.2.2.1 s.2.2.2 = R0 ∧ (s.2.2.2 ≤ 8 ∧ s.2.2.1 ≤ 100000 + 100 * (8 - s.2.2.2) ∧ s.2.1.length + s.2.2.2 ≤ 8) ∧ AB w' a R n f ∧ Row (w.heap.size ≤ ·) w' 85 er2 s.1.1 s.1.2 s.2.1 ∧ Chg Nob w w') (fun s => s.2.2.2) ((none, 0), [], addr, secsA size) ⟨rfl, rfl, rfl, rfl, trivial⟩
    ⟨by rw [hR0]; rfl, ⟨h8, by show addr ≤ 100000 + 100 * (8 - secsA size); omega, by show 0 + secsA size ≤ 8; omega⟩, hB, Row.nil _ _ _ _, hw⟩ ?_
  clear hB hw
  rintro ⟨⟨ao, c⟩, out, ad, left⟩ w1 ⟨hR, ⟨hl, had, hol⟩, hB, hO, hw⟩
  simp only at hR hl had hol hO
  dsimp only
  have zw1 := hw.size
  refine WC.seq (WC.seq (WC.region (WL.move rfl rfl (?_))))
  refine WL.gtr? rfl rfl rfl (fun h15 => ?_) (fun h15 => ?_)
  ·
    refine WL.nil (WX.then_normal (WC.cond_true rfl (WC.skip (WX.then_normal (WC.block (WC.seq (WC.region (?_))))))))
    refine WL.move rfl rfl (WL.move rfl rfl (WL.nilCheck rfl rfl (WL.fieldAddr (fld_81_1) rfl rfl (WL.loadB Tryz.isAgg3 hB rfl rfl rfl (?_)))))
    have hc15 : (0 : Int) < left := by assumption
    obtain ⟨k, hk⟩ : ∃ k, k = min left (n - 3) := ⟨_, rfl⟩
    have hk1 : 1 ≤ k ∧ k ≤ left ∧ k + 3 ≤ n := by omega
    refine WL.sub64 rfl rfl (by constructor <;> omega) rfl ?_
    refine WL.mini rfl rfl rfl ?_
    rw [show (if (n : Int) - 3 < (left : Int) then (n : Int) - 3 else (left : Int)) = (k : Int) from by split <;> omega]
    refine WL.assign rfl rfl (WL.nil (WX.then_normal (WC.seq (WC.region (WL.move rfl rfl (WL.move rfl rfl (WL.move rfl rfl (?_))))))))
    refine WL.bld rfl (bld_85_0_1 _ _) rfl (?_)
    refine WL.build (e := er2) [(ad, k)] Tryz.underlying82 Tryz.sizeOf85 Tryz.zeroValue85 rfl rfl rfl (by simp [Value.cells] <;> rfl) (by decide) rfl ?_
    intro a_q27 w_q27 q27 l_q27 z_q27 k_q27
    have zs_k_q27 := k_q27.size
    replace hB := hB.pure k_q27
    replace hO := hO.pure k_q27
    replace hw := hw.pure k_q27
    refine WL.append (e := er2) info_85 rfl Tryz.underlying82 rfl rfl hO (q27.rsl.src Tryz.underlying82) (by (try simp only [List.length_append, List.length_cons, List.length_nil] at *); omega) (by intro b hb; first | (apply hS; omega) | ((try dsimp only); omega)) rfl ?_
    intro a_q28 c_q28 w_q28 q28 g_q28 n_q28
    have z_q28 := g_q28.chg.size
    have zs_g_q28_chg := g_q28.chg.size
    replace hB := hB.chg g_q28.chg (by intro h1; exfalso; have h4 := h1.2; (try dsimp only at *); omega)
    replace hw := hw.chg g_q28.chg (by intros; exfalso; (try dsimp only at *); omega)
    refine WL.assign rfl rfl (WL.nil (WX.then_normal (WC.region (WL.move rfl rfl (WL.move rfl rfl (?_))))))
    refine WL.add64 rfl rfl (by constructor <;> omega) rfl ?_
    refine WL.add64 rfl rfl (by constructor <;> omega) rfl ?_
    refine WL.move rfl rfl (WL.move rfl rfl (?_))
    refine WL.sub64 rfl rfl (by constructor <;> omega) rfl ?_
    refine WL.assign rfl rfl (WL.assign rfl rfl (WL.nil (WX.block_normal (?_))))
    refine WX.loop_next ((a_q28, c_q28), out ++ [(ad, k)], ad + k + 3, left - k) ⟨rfl, by show some (vi ((ad : Int) + k + 3)) = some (vi ((ad + k + 3 : Nat) : Int)); congr 2, rfl, by show some (vi ((left : Int) - k)) = some (vi ((left - k : Nat) : Int)); congr 2; omega, trivial⟩
      ⟨?_, ⟨by show left - k ≤ 8; omega, by show ad + k + 3 ≤ 100000 + 100 * (8 - (left - k)); omega, by show (out ++ [(ad, k)]).length + (left - k) ≤ 8; simp; omega⟩, hB, q28, hw⟩ (by show left - k < left; omega)
    show (out ++ [(ad, k)]) ++ rowsA n (ad + k + 3) (left - k) = R0
    rw [← hR, rowsA_cons (l := left) (by omega) (by omega), ← hk, List.append_assoc]
    rfl
  ·
    refine WL.nil (WX.then_normal (WC.cond_false rfl (WC.exit (WX.then_exit (WX.then_exit (WX.block_here (WX.then_normal (?_))))))))
    refine WC.seq (WC.region (WL.move rfl rfl (WL.assign rfl rfl (WL.nil (WX.then_normal (WC.ret (?_)))))))
    refine WX.ret1 (.inl rfl) Tryz.results39 rfl ?_
    have h0 : left = 0 := by omega
    subst h0
    rw [rowsA_nil, List.append_nil] at hR
    rw [← hR0, ← hR]
    exact ⟨_, rfl, ⟨ao, c, rfl, hO⟩, hw⟩
end Go.Proofs.YtggecdldnpildaaGreat
namespace Go.Proofs.YtggecdldnpildaaGreat
open Go.RowKit Go.HL
set_option maxRecDepth 100000

/-! the sums' own words -/
structure V8 where
  a : UInt32
  b : UInt32
  c : UInt32
  d : UInt32
  e : UInt32
  f : UInt32
  g : UInt32
  h : UInt32
def rotr (x : UInt32) (n : Nat) : UInt32 := (x <<< UInt32.ofNat (32 - n)) ||| (x >>> UInt32.ofNat n)
def wordAt (b : List UInt8) (t : Nat) : UInt32 := (((b.getD (4 * t) 0).toUInt32 <<< UInt32.ofNat 24 ||| (b.getD (4 * t + 1) 0).toUInt32 <<< UInt32.ofNat 16) ||| (b.getD (4 * t + 2) 0).toUInt32 <<< UInt32.ofNat 8) ||| (b.getD (4 * t + 3) 0).toUInt32
def nextW (b : List UInt8) (ws : List UInt32) (t : Nat) : UInt32 :=
  if t < 16 then wordAt b t
  else ws.getD (t - 16) 0 + ((rotr (ws.getD (t - 15) 0) 7 ^^^ rotr (ws.getD (t - 15) 0) 18) ^^^ (ws.getD (t - 15) 0) >>> UInt32.ofNat 3) + ws.getD (t - 7) 0 + ((rotr (ws.getD (t - 2) 0) 17 ^^^ rotr (ws.getD (t - 2) 0) 19) ^^^ (ws.getD (t - 2) 0) >>> UInt32.ofNat 10)
def sch (b : List UInt8) : Nat → List UInt32
  | 0 => []
  | t + 1 => let ws := sch b t; ws ++ [nextW b ws t]
def K256 : List UInt32 := [
    0x428a2f98, 0x71374491, 0xb5c0fbcf, 0xe9b5dba5, 0x3956c25b, 0x59f111f1, 0x923f82a4, 0xab1c5ed5,
    0xd807aa98, 0x12835b01, 0x243185be, 0x550c7dc3, 0x72be5d74, 0x80deb1fe, 0x9bdc06a7, 0xc19bf174,
    0xe49b69c1, 0xefbe4786, 0x0fc19dc6, 0x240ca1cc, 0x2de92c6f, 0x4a7484aa, 0x5cb0a9dc, 0x76f988da,
    0x983e5152, 0xa831c66d, 0xb00327c8, 0xbf597fc7, 0xc6e00bf3, 0xd5a79147, 0x06ca6351, 0x14292967,
    0x27b70a85, 0x2e1b2138, 0x4d2c6dfc, 0x53380d13, 0x650a7354, 0x766a0abb, 0x81c2c92e, 0x92722c85,
    0xa2bfe8a1, 0xa81a664b, 0xc24b8b70, 0xc76c51a3, 0xd192e819, 0xd6990624, 0xf40e3585, 0x106aa070,
    0x19a4c116, 0x1e376c08, 0x2748774c, 0x34b0bcb5, 0x391c0cb3, 0x4ed8aa4a, 0x5b9cca4f, 0x682e6ff3,
    0x748f82ee, 0x78a5636f, 0x84c87814, 0x8cc70208, 0x90befffa, 0xa4506ceb, 0xbef9a3f7, 0xc67178f2]
def round1 (v : V8) (k w : UInt32) : V8 :=
  let t1 := v.h + ((rotr v.e 6 ^^^ rotr v.e 11) ^^^ rotr v.e 25) + ((v.e &&& v.f) ^^^ (~~~v.e &&& v.g)) + k + w
  let t2 := ((rotr v.a 2 ^^^ rotr v.a 13) ^^^ rotr v.a 22) + (((v.a &&& v.b) ^^^ (v.a &&& v.c)) ^^^ (v.b &&& v.c))
  ⟨t1 + t2, v.a, v.b, v.c, v.d + t1, v.e, v.f, v.g⟩
def roundsN (w : List UInt32) (v : V8) : Nat → V8
  | 0 => v
  | t + 1 => round1 (roundsN w v t) (K256.getD t 0) (w.getD t 0)
def mix (s : V8) (b : List UInt8) : V8 :=
  let v := roundsN (sch b 64) s 64
  ⟨s.a + v.a, s.b + v.b, s.c + v.c, s.d + v.d, s.e + v.e, s.f + v.f, s.g + v.g, s.h + v.h⟩
def st0 : V8 := ⟨0x6a09e667, 0xbb67ae85, 0x3c6ef372, 0xa54ff53a, 0x510e527f, 0x9b05688c, 0x1f83d9ab, 0x5be0cd19⟩
def be8 (n : UInt64) (i : Nat) : List UInt8 := (List.range i).map fun q => (n >>> UInt64.ofNat (56 - 8 * q)).toUInt8
def padded (b : List UInt8) : List UInt8 := b ++ [128] ++ List.replicate ((120 - (b.length + 1) % 64) % 64) 0 ++ be8 (UInt64.ofNat b.length <<< UInt64.ofNat 3) 8

/-! turning -/
theorem rot_cnt {n : Nat} (h : 1 ≤ n ∧ n ≤ 31) : (B64 (-(n : Int)) &&& 31).toNat = 32 - n ∧ (32 - (B64 (-(n : Int)) &&& 31)).toNat = n := by
  have : ∀ m : Fin 32, 1 ≤ m.1 → (B64 (-(m.1 : Int)) &&& 31).toNat = 32 - m.1 ∧ (32 - (B64 (-(m.1 : Int)) &&& 31)).toNat = m.1 := by decide +kernel
  exact this ⟨n, by omega⟩ h.1
theorem rotl_calls (x : UInt32) (n : Nat) (w : World) (h : 1 ≤ n ∧ n ≤ 31) : Calls Tryz.prog 76 [v32 x, vi (-(n : Int))].toArray w (Ret fun v w' => v = v32 (rotr x n) ∧ Chg Nob w w') := by
  have hw := Chg.refl Nob w
  have hc := rot_cnt h
  refine Calls.of_WC Tryz.func76 rfl Tryz.ntmps76 (by simp) ?_
  refine WC.seq (WC.region (WL.assign rfl rfl (WL.nil (WX.then_normal (WC.seq (WC.region (WL.move rfl rfl (?_))))))))
  refine WL.c_i64_u64 Tryz.underlying3 Tryz.underlying75 rfl rfl (WL.num rfl rfl (n_and64 _ _ _ 31) rfl (WL.assign rfl rfl (WL.nil (WX.then_normal (WC.seq (WC.region (WL.move rfl rfl (?_))))))))
  refine WL.move rfl rfl (?_)
  refine WL.shl32v (32 - n) rfl rfl ⟨by rw [hc.1], by omega⟩ rfl ?_
  refine WL.move rfl rfl (WL.move rfl rfl (WL.num rfl rfl (n_sub64 _ _ 32 _) rfl (?_)))
  refine WL.shr32v n rfl rfl ⟨by rw [hc.2], by omega⟩ rfl ?_
  refine WL.num rfl rfl (n_or32 _ _ _ _) rfl (WL.assign rfl rfl (WL.nil (WX.then_normal (WC.ret (?_)))))
  refine WX.ret1 (.inl rfl) Tryz.results76 rfl ?_
  exact ⟨_, rfl, rfl, hw⟩
theorem ror_calls (x : UInt32) (n : Nat) (w : World) (h : 1 ≤ n ∧ n ≤ 31) : Calls Tryz.prog 65 [v32 x, vi (n : Int)].toArray w (Ret fun v w' => v = v32 (rotr x n) ∧ Chg Nob w w') := by
  have hw := Chg.refl Nob w
  refine Calls.of_WC Tryz.func65 rfl Tryz.ntmps65 (by simp) ?_
  refine WC.seq (WC.region (WL.assign rfl rfl (WL.nil (WX.then_normal (WC.seq (WC.region (WL.move rfl rfl (?_))))))))
  refine WL.move rfl rfl (WL.neg64 rfl (by omega) rfl (?_))
  refine WL.call eg_76 rfl rfl (rotl_calls x n _ h) ?_
  rintro v w1 ⟨rfl, k⟩
  have zs_k := k.size
  replace hw := hw.pure k
  refine WL.assign rfl rfl (WL.nil (WX.then_normal (WC.ret (?_))))
  refine WX.ret1 (.inl rfl) Tryz.results65 rfl ?_
  exact ⟨_, rfl, rfl, hw⟩
/-! bytes of one's own -/
theorem clone_calls {S : Nat → Prop} {w : World} {ao : Option Addr} {c : Nat} {b : List UInt8} (hr : RSl S w eb ao c b) (hl : b.length ≤ 140737488351232) :
    Calls Tryz.prog 63 [.slice ao b.length c].toArray w (Ret fun v w' => (∃ (ao' : Option Addr) (c' : Nat), v = .slice ao' b.length c' ∧ Row (w.heap.size ≤ ·) w' 5 eb ao' c' b) ∧ Chg Nob w w') := by
  replace hr := hr.old
  have hw := Chg.refl Nob w
  refine Calls.of_WC Tryz.func63 rfl Tryz.ntmps63 (by simp) ?_
  refine WC.seq (WC.region (WL.assign rfl rfl (WL.nil (WX.then_normal (WC.seq (WC.seq (WC.region (?_))))))))
  refine WL.move rfl rfl (?_)
  refine WL.isNil? Tryz.underlying26 rfl rfl rfl (fun h4 => ?_) (fun h4 => ?_)
  ·
    refine WL.nil (WX.then_normal (WC.cond_true rfl (WC.seq (WC.region (WL.assign rfl rfl (WL.nil (WX.then_normal (?_))))))))
    refine WC.ret (WX.then_ret (?_))
    refine WX.ret1 (.inl rfl) Tryz.results63 rfl ?_
    subst h4
    have hn := hr.none_nil
    subst hn
    exact ⟨_, rfl, ⟨none, 0, rfl, Row.nil _ _ _ _⟩, hw⟩
  ·
    refine WL.nil (WX.then_normal (WC.cond_false rfl (WC.skip (WX.then_normal (WC.seq (WC.region (?_)))))))
    refine WL.build (e := eb) [] Tryz.underlying26 Tryz.sizeOf5 Tryz.zeroValue5 rfl rfl rfl (by simp [Value.cells]; done) (by decide) rfl ?_
    intro a_hq w_hq hq l_hq z_hq k_hq
    have zs_k_hq := k_hq.size
    replace hr := hr.pure k_hq
    replace hw := hw.pure k_hq
    refine WL.move rfl rfl (?_)
    refine WL.append (e := eb) info_5 rfl Tryz.underlying26 rfl rfl hq (hr.src Tryz.underlying26) (by (try simp only [List.length_append, List.length_cons, List.length_nil] at *); omega) (by intro b hb; first | (apply hS; omega) | ((try dsimp only); omega)) rfl ?_
    intro a_hq2 c_hq2 w_hq2 hq2 g_hq2 n_hq2
    have z_hq2 := g_hq2.chg.size
    have zs_g_hq2_chg := g_hq2.chg.size
    replace hr := hr.chg g_hq2.chg (by intros; exfalso; (try dsimp only at *); omega)
    replace hw := hw.chg g_hq2.chg (by intros; exfalso; (try dsimp only at *); omega)
    refine WL.assign rfl rfl (WL.nil (WX.then_normal (WC.ret (?_))))
    refine WX.ret1 (.inl rfl) Tryz.results63 rfl ?_
    exact ⟨_, rfl, ⟨_, _, rfl, hq2⟩, hw⟩
/-! the message with what is put behind -/
theorem pad_calls {S : Nat → Prop} {w : World} {ao : Option Addr} {c : Nat} {b : List UInt8} (hr : RSl S w eb ao c b) (hl : b.length ≤ 140737488351232) :
    Calls Tryz.prog 36 [.slice ao b.length c].toArray w (Ret fun v w' => (∃ (ao' : Option Addr) (c' : Nat), v = .slice ao' (padded b).length c' ∧ Row (w.heap.size ≤ ·) w' 5 eb ao' c' (padded b)) ∧ Chg Nob w w') := by
  replace hr := hr.old
  have hw := Chg.refl Nob w
  refine Calls.of_WC Tryz.func36 rfl Tryz.ntmps36 (by simp) ?_
  refine WC.seq (WC.region (WL.assign rfl rfl (WL.nil (WX.then_normal (WC.seq (WC.region (WL.move rfl rfl (?_))))))))
  refine WL.call eg_63 rfl rfl (clone_calls hr hl) ?_
  rintro v w1 ⟨⟨a1, c1, rfl, hq⟩, k⟩
  have zs_k := k.size
  replace hr := hr.pure k
  replace hw := hw.pure k
  refine WL.build (e := eb) [128] Tryz.underlying26 Tryz.sizeOf5 Tryz.zeroValue5 rfl rfl rfl (by simp [Value.cells] <;> rfl) (by decide) rfl ?_
  intro a_hn w_hn hn l_hn z_hn k_hn
  have zs_k_hn := k_hn.size
  replace hr := hr.pure k_hn
  replace hw := hw.pure k_hn
  replace hq := hq.pure k_hn
  refine WL.append (e := eb) info_5 rfl Tryz.underlying26 rfl rfl hq (hn.rsl.src Tryz.underlying26) (by (try simp only [List.length_append, List.length_cons, List.length_nil] at *); omega) (by intro b hb; first | (apply hS; omega) | ((try dsimp only); omega)) rfl ?_
  intro a_hq1 c_hq1 w_hq1 hq1 g_hq1 n_hq1
  have z_hq1 := g_hq1.chg.size
  have zs_g_hq1_chg := g_hq1.chg.size
  replace hr := hr.chg g_hq1.chg (by intros; exfalso; (try dsimp only at *); omega)
  replace hw := hw.chg g_hq1.chg (by intros; exfalso; (try dsimp only at *); omega)
  refine WL.assign rfl rfl (WL.nil (WX.then_normal (WC.seq (WC.block (?_)))))
  refine WC.loop (σ := Nat × Option Addr × Nat) (fun s => [(3, .slice s.2.1 (b ++ [128] ++ List.replicate s.1 0).length s.2.2), (0, .slice ao b.length c)])
    (fun s w' => s.1 ≤ (120 - (b.length + 1) % 64) % 64 ∧ Row (w.heap.size ≤ ·) w' 5 eb s.2.1 s.2.2 (b ++ [128] ++ List.replicate s.1 0) ∧ RSl (· < w.heap.size) w' eb ao c b ∧ Chg Nob w w') (fun s => 64 - s.1) (0, a_hq1, c_hq1) ⟨by rw [show List.replicate 0 (0 : UInt8) = [] from rfl, List.append_nil]; rfl, rfl, trivial⟩ ⟨by simp, by simpa using hq1, hr, hw⟩ ?_
  clear hr hw hn hq1 hq
  rintro ⟨j, a1, c1⟩ w2 ⟨hj, hq, hr, hw⟩
  dsimp only at hj hq hr hw ⊢
  have zw := hw.size
  have hlen : (b ++ [128] ++ List.replicate j 0).length = b.length + 1 + j := by simp; omega
  refine WC.seq (WC.seq (WC.region (WL.move rfl rfl (WL.len Tryz.underlying26 rfl rfl (WL.rem64i rfl rfl (by constructor <;> omega) rfl (?_))))))
  refine WL.neq? rfl rfl rfl (fun h13 => ?_) (fun h13 => ?_)
  ·
    refine WL.nil (WX.then_normal (WC.cond_true rfl (WC.skip (WX.then_normal (WC.block (WC.region (WL.move rfl rfl (?_))))))))
    refine WL.build (e := eb) [0] Tryz.underlying26 Tryz.sizeOf5 Tryz.zeroValue5 rfl rfl rfl (by simp [Value.cells] <;> rfl) (by decide) rfl ?_
    intro a_hn w_hn hn l_hn z_hn k_hn
    have zs_k_hn := k_hn.size
    replace hq := hq.pure k_hn
    replace hr := hr.pure k_hn
    replace hw := hw.pure k_hn
    refine WL.append (e := eb) info_5 rfl Tryz.underlying26 rfl rfl hq (hn.rsl.src Tryz.underlying26) (by (try simp only [List.length_append, List.length_cons, List.length_nil] at *); omega) (by intro b hb; first | (apply hS; omega) | ((try dsimp only); omega)) rfl ?_
    intro a_hq2 c_hq2 w_hq2 hq2 g_hq2 n_hq2
    have z_hq2 := g_hq2.chg.size
    have zs_g_hq2_chg := g_hq2.chg.size
    replace hr := hr.chg g_hq2.chg (by intros; exfalso; (try dsimp only at *); omega)
    replace hw := hw.chg g_hq2.chg (by intros; exfalso; (try dsimp only at *); omega)
    refine WL.assign rfl rfl (WL.nil (WX.block_normal (?_)))
    have e1 : b ++ [128] ++ List.replicate (j + 1) 0 = b ++ [128] ++ List.replicate j 0 ++ [0] := by rw [List.replicate_succ', List.append_assoc, List.append_assoc, List.append_assoc]
    refine WX.loop_next (j + 1, a_hq2, c_hq2) ⟨?_, rfl, trivial⟩ ⟨by dsimp only; omega, ?_, hr, hw⟩ (by show _ - _ < _ - _; omega)
    ·
      dsimp only; rw [e1]; rfl
    ·
      dsimp only; rw [e1]; exact hq2
  ·
    refine WL.nil (WX.then_normal (WC.cond_false rfl (WC.exit (WX.then_exit (WX.then_exit (WX.block_here (WX.then_normal (?_))))))))
    refine WC.seq (WC.region (WL.move rfl rfl (WL.len Tryz.underlying26 rfl rfl (WL.c_i64_u64 Tryz.underlying3 Tryz.underlying23 rfl rfl (WL.num rfl rfl (n_shl64 _ _ _ _ 3 (by decide)) rfl (WL.assign rfl rfl (WL.nil (?_))))))))
    refine WX.then_normal (WC.seq (WC.seq (WC.region (WL.assign rfl rfl (WL.nil (WX.then_normal (WC.block (?_))))))))
    have hz : j = (120 - (b.length + 1) % 64) % 64 := by omega
    have hn8 : (B64 (b.length : Int)) = UInt64.ofNat b.length := by
      apply UInt64.toNat_inj.1
      rw [B64_nat (by omega)]
      simp
      omega
    rw [hn8]
    refine WC.loop (σ := Nat × Option Addr × Nat) (fun s => [(3, .slice s.2.1 (b ++ [128] ++ List.replicate j 0 ++ be8 (UInt64.ofNat b.length <<< UInt64.ofNat 3) s.1).length s.2.2), (4, v64 (UInt64.ofNat b.length <<< UInt64.ofNat 3)), (5, vi (56 - 8 * (s.1 : Int)))])
      (fun s w' => s.1 ≤ 8 ∧ Row (w.heap.size ≤ ·) w' 5 eb s.2.1 s.2.2 (b ++ [128] ++ List.replicate j 0 ++ be8 (UInt64.ofNat b.length <<< UInt64.ofNat 3) s.1) ∧ Chg Nob w w') (fun s => 8 - s.1) (0, a1, c1) ⟨by rw [show be8 (UInt64.ofNat b.length <<< UInt64.ofNat 3) 0 = [] from rfl, List.append_nil]; rfl, rfl, rfl, trivial⟩ ⟨by simp, by simpa [be8] using hq, hw⟩ ?_
    clear hr hw hq
    rintro ⟨i, a2, c2⟩ w3 ⟨hi, hq, hw⟩
    dsimp only at hi hq hw ⊢
    have zw3 := hw.size
    have hlen3 : (b ++ [128] ++ List.replicate j 0 ++ be8 (UInt64.ofNat b.length <<< UInt64.ofNat 3) i).length = b.length + 1 + j + i := by simp [be8]; omega
    refine WC.seq (WC.seq (WC.region (WL.move rfl rfl (?_))))
    refine WL.geq? rfl rfl rfl (fun h22 => ?_) (fun h22 => ?_)
    ·
      refine WL.nil (WX.then_normal (WC.cond_true rfl (WC.skip (WX.then_normal (WC.seq (WC.block (WC.region (?_))))))))
      refine WL.move rfl rfl (WL.move rfl rfl (WL.move rfl rfl (?_)))
      refine WL.shrv (56 - 8 * i) rfl rfl ⟨by omega, by omega⟩ rfl ?_
      refine WL.c_u64_u8 Tryz.underlying23 Tryz.underlying5 rfl rfl (?_)
      refine WL.build (e := eb) [((UInt64.ofNat b.length <<< UInt64.ofNat 3) >>> UInt64.ofNat (56 - 8 * i)).toUInt8] Tryz.underlying26 Tryz.sizeOf5 Tryz.zeroValue5 rfl rfl rfl (by simp [Value.cells] <;> rfl) (by decide) rfl ?_
      intro a_hn w_hn hn l_hn z_hn k_hn
      have zs_k_hn := k_hn.size
      replace hq := hq.pure k_hn
      replace hw := hw.pure k_hn
      refine WL.append (e := eb) info_5 rfl Tryz.underlying26 rfl rfl hq (hn.rsl.src Tryz.underlying26) (by (try simp only [List.length_append, List.length_cons, List.length_nil] at *); omega) (by intro b hb; first | (apply hS; omega) | ((try dsimp only); omega)) rfl ?_
      intro a_hq2 c_hq2 w_hq2 hq2 g_hq2 n_hq2
      have z_hq2 := g_hq2.chg.size
      have zs_g_hq2_chg := g_hq2.chg.size
      replace hw := hw.chg g_hq2.chg (by intros; exfalso; (try dsimp only at *); omega)
      refine WL.assign rfl rfl (WL.nil (WX.block_normal (WX.then_normal (WC.region (WL.move rfl rfl (WL.sub64 rfl rfl (by omega) rfl (WL.assign rfl rfl (?_))))))))
      refine WL.nil (?_)
      have e1 : be8 (UInt64.ofNat b.length <<< UInt64.ofNat 3) (i + 1) = be8 (UInt64.ofNat b.length <<< UInt64.ofNat 3) i ++ [((UInt64.ofNat b.length <<< UInt64.ofNat 3) >>> UInt64.ofNat (56 - 8 * i)).toUInt8] := by simp [be8, List.range_succ]
      refine WX.loop_next (i + 1, a_hq2, c_hq2) ⟨?_, rfl, ?_, trivial⟩ ⟨by dsimp only; omega, ?_, hw⟩ (by show _ - _ < _ - _; omega)
      ·
        dsimp only; rw [e1, ← List.append_assoc]; rfl
      ·
        dsimp only
        have e2 : 56 - 8 * ((i + 1 : Nat) : Int) = 56 - 8 * (i : Int) - 8 := by omega
        rw [e2]; rfl
      ·
        dsimp only; rw [e1, ← List.append_assoc]; exact hq2
    ·
      refine WL.nil (WX.then_normal (WC.cond_false rfl (WC.exit (WX.then_exit (WX.then_exit (WX.block_here (WX.then_normal (?_))))))))
      refine WC.seq (WC.region (WL.move rfl rfl (WL.assign rfl rfl (WL.nil (WX.then_normal (WC.ret (?_)))))))
      refine WX.ret1 (.inl rfl) Tryz.results36 rfl ?_
      have hi8 : i = 8 := by omega
      have e1 : padded b = b ++ [128] ++ List.replicate j 0 ++ be8 (UInt64.ofNat b.length <<< UInt64.ofNat 3) i := by rw [hi8, hz]; rfl
      rw [e1]
      exact ⟨_, rfl, ⟨a2, c2, rfl, hq⟩, hw⟩
end Go.Proofs.YtggecdldnpildaaGreat
namespace Go.Proofs.YtggecdldnpildaaGreat
open Go.RowKit Go.HL
set_option maxRecDepth 100000

def V8.cells (v : V8) : List Value := [v32 v.a, v32 v.b, v32 v.c, v32 v.d, v32 v.e, v32 v.f, v32 v.g, v32 v.h]
theorem begin_calls (w : World) : Calls Tryz.prog 34 [].toArray w (Ret fun v w' => v = .agg (st0.cells).toArray ∧ Chg Nob w w') := by
  have hw := Chg.refl Nob w
  refine Calls.of_WC Tryz.func34 rfl Tryz.ntmps34 (by simp) ?_
  refine WC.seq (WC.region (?_))
  refine WL.alloc Tryz.zeroValue68 rfl ?_
  intro g_1 w_1 hge_1 hlt_1 hb_1 k_1
  have zs_k_1 := k_1.size
  replace hw := hw.pure k_1
  refine WL.nil (WX.then_normal (WC.seq (WC.region (WL.bld rfl (bld_68_0_1_2_3_4_5_6_7 _ _ _ _ _ _ _ _) rfl (?_)))))
  refine WL.stores Tryz.sizeOf68 hb_1 rfl rfl (by simp; done) (by simp [Value.oneCell']; done) (by simp [Value.cells]; done) rfl ?_
  intro w_2 hs_2 hn_2 k_2
  have zs_k_2 := k_2.size
  replace hw := hw.chg k_2 (by intro x h1 h2; have h3 : _ = _ := h2; exfalso; omega)
  replace hb_1 := hn_2
  refine WL.nil (WX.then_normal (WC.ret (?_)))
  refine WX.ret1c (.inl rfl) Tryz.results34 Tryz.isAgg68 Tryz.sizeOf68 hb_1 rfl (by rfl) ?_
  exact ⟨_, rfl, rfl, hw⟩
theorem rounds_calls (w : World) : Calls Tryz.prog 35 [].toArray w (Ret fun v w' => v = .agg (K256.map v32).toArray ∧ Chg Nob w w') := by
  have hw := Chg.refl Nob w
  refine Calls.of_WC Tryz.func35 rfl Tryz.ntmps35 (by simp) ?_
  refine WC.seq (WC.region (?_))
  refine WL.alloc Tryz.zeroValue70 rfl ?_
  intro g_1 w_1 hge_1 hlt_1 hb_1 k_1
  have zs_k_1 := k_1.size
  replace hw := hw.pure k_1
  refine WL.nil (WX.then_normal (WC.seq (WC.region (?_))))
  refine WL.buildArr (K256.map v32) Tryz.underlying70 Tryz.sizeOf66 Tryz.zeroValue70 rfl rfl rfl (by intro v hv; obtain ⟨x, _, rfl⟩ := List.mem_map.1 hv; rfl) rfl ?_
  refine WL.stores Tryz.sizeOf70 hb_1 rfl rfl (by rfl) (by intro u hu; obtain ⟨x, _, rfl⟩ := List.mem_map.1 hu; rfl) (by exact Nat.le_of_ble_eq_true rfl) rfl ?_
  intro w_2 hs_2 hn_2 k_2
  have zs_k_2 := k_2.size
  replace hw := hw.chg k_2 (by intro x h1 h2; have h3 : _ = _ := h2; exfalso; omega)
  replace hb_1 := hn_2
  refine WL.nil (WX.then_normal (WC.ret (?_)))
  refine WX.ret1c (.inl rfl) Tryz.results35 Tryz.isAgg70 Tryz.sizeOf70 hb_1 rfl (by rfl) ?_
  exact ⟨_, rfl, rfl, hw⟩
end Go.Proofs.YtggecdldnpildaaGreat
namespace Go.Proofs.YtggecdldnpildaaGreat
open Go.RowKit Go.HL
set_option maxRecDepth 100000

theorem sch_len (b : List UInt8) (t : Nat) : (sch b t).length = t := by
  induction t with
  | zero => rfl
  | succ t ih => simp [sch, ih]
theorem sch_at {b : List UInt8} {t i : Nat} (h : i < t) : (sch b t ++ List.replicate (64 - t) 0)[i]? = some ((sch b t).getD i 0) := by
  have hl := sch_len b t
  rw [List.getElem?_append_left (by omega), List.getD_eq_getElem?_getD, List.getElem?_eq_getElem (by omega)]
  rfl
theorem sch_set {b : List UInt8} {t : Nat} (h : t < 64) : ((sch b t ++ List.replicate (64 - t) 0).map v32).set t (v32 (nextW b (sch b t) t)) = (sch b (t + 1) ++ List.replicate (64 - (t + 1)) 0).map v32 := by
  have hl := sch_len b t
  rw [← List.map_set]
  congr 1
  rw [List.set_append_right _ _ (by omega), hl, Nat.sub_self, show 64 - t = (64 - (t + 1)) + 1 from by omega, List.replicate_succ, List.set_cons_zero]
  simp [sch]
theorem byte_at {b : List UInt8} {i : Nat} (h : i < b.length) : b[i]? = some (b.getD i 0) := by
  rw [List.getD_eq_getElem?_getD, List.getElem?_eq_getElem h]
  rfl
def JS (b : List UInt8) (t g : Nat) (w' : World) : Prop := ∃ cs, Blk w' g 70 cs ∧ ∀ j, j < t → cs[j]? = some (v32 ((sch b t).getD j 0))
theorem JS.pure {b : List UInt8} {t g : Nat} (w1 w2 : World) (h : JS b t g w1) (k : Chg Nob w1 w2) : JS b t g w2 := by
  obtain ⟨cs, h1, h2⟩ := h
  exact ⟨cs, h1.pure k, h2⟩
theorem JS.init {b : List UInt8} {t g : Nat} {w1 : World} (h : Blk w1 g 70 ((sch b t ++ List.replicate (64 - t) 0).map v32)) : JS b t g w1 := ⟨_, h, fun j hj => map_at _ (sch_at hj)⟩
theorem JS.set {b : List UInt8} {t g : Nat} {w1 : World} {v : Value} (h : Blk w1 g 70 (((sch b t ++ List.replicate (64 - t) 0).map v32).set t v)) : JS b t g w1 := ⟨_, h, fun j hj => by
  rw [List.getElem?_set_ne (by omega)]
  exact map_at _ (sch_at hj)⟩
set_option maxHeartbeats 1000000 in
theorem schedule_calls {S : Nat → Prop} {w : World} {ao : Option Addr} {c : Nat} {b : List UInt8} (hr : RSl S w eb ao c b) (hl : b.length = 64) :
    Calls Tryz.prog 64 [.slice ao b.length c].toArray w (Ret fun v w' => v = .agg ((sch b 64).map v32).toArray ∧ Chg Nob w w') := by
  replace hr := hr.old
  have hw := Chg.refl Nob w
  obtain ⟨bp, op, rfl⟩ := hr.place (byte_at (b := b) (i := 0) (by omega))
  refine Calls.of_WC Tryz.func64 rfl Tryz.ntmps64 (by simp) ?_
  refine WC.seq (WC.region (?_))
  refine WL.alloc Tryz.zeroValue70 rfl ?_
  intro g_1 w_1 hge_1 hlt_1 hb_1 k_1
  have zs_k_1 := k_1.size
  replace hr := hr.pure k_1
  replace hw := hw.pure k_1
  refine WL.nil (WX.then_normal (WC.seq (WC.region (?_))))
  refine WL.alloc Tryz.zeroValue70 rfl ?_
  intro g_2 w_2 hge_2 hlt_2 hb_2 k_2
  have zs_k_2 := k_2.size
  replace hr := hr.pure k_2
  replace hw := hw.pure k_2
  replace hb_1 := hb_1.pure k_2
  refine WL.nil (WX.then_normal (WC.seq (WC.seq (WC.region (WL.move rfl rfl (WL.nil (WX.then_normal (?_))))))))
  refine WC.block (?_)
  refine WC.loop (σ := Nat) (fun t => [(0, .slice (some ⟨bp, op, none⟩) b.length c), (2, .pointer (some ⟨g_1, 0, none⟩)), (3, .pointer (some ⟨g_2, 0, none⟩)), (7, vi t)])
    (fun t w' => t ≤ 64 ∧ RSl (· < w.heap.size) w' eb (some ⟨bp, op, none⟩) c b ∧ Blk w' g_1 70 ((List.replicate 64 0).map v32) ∧ Blk w' g_2 70 ((sch b t ++ List.replicate (64 - t) 0).map v32) ∧ Chg Nob w w') (fun t => 64 - t) 0 ⟨rfl, rfl, rfl, rfl, trivial⟩ ⟨by omega, hr, hb_1, hb_2, hw⟩ ?_
  clear hr hb_1 hb_2 hw
  rintro t w3 ⟨ht, hr, hb1, hb2, hw⟩
  have hsl := sch_len b t
  refine WC.seq (WC.region (?_))
  refine WL.lss? rfl rfl rfl (fun h8 => ?_) (fun h8 => ?_)
  ·
    refine WL.nil (WX.then_normal (WC.seq (WC.cond_true rfl (WC.skip (WX.then_normal (WC.seq (WC.block (?_))))))))
    refine WC.seq (WC.region (WL.move rfl rfl (WL.assign rfl rfl (WL.nil (WX.then_normal (WC.seq (WC.seq (?_))))))))
    refine WC.region (WL.move rfl rfl (?_))
    refine WL.lss? rfl rfl rfl (fun h11 => ?_) (fun h11 => ?_)
    ·
      refine WL.nil (WX.then_normal (WC.cond_true rfl (WC.seq (?_))))
      have e0 := byte_at (b := b) (i := 4 * t) (by omega)
      have e1 := byte_at (b := b) (i := 4 * t + 1) (by omega)
      have e2 := byte_at (b := b) (i := 4 * t + 2) (by omega)
      have e3 := byte_at (b := b) (i := 4 * t + 3) (by omega)
      refine WC.draw (fun x => x = g_2) [0, 1, 2, 3, 4, 5, 6, 7, 8, 9, 10, 11, 12, 13, 14, 15, 16, 17, 18, 19, 20, 21, 22, 23, 24, 25, 26, 27, 28, 29, 30, 31, 32, 33, 34] [35] mixed rfl rfl (fun wd_3 kd_3 zd_3 => ?_)
      have zs_kd_3 := kd_3.size
      replace hr := hr.pure kd_3
      replace hb1 := hb1.pure kd_3
      replace hb2 := hb2.pure kd_3
      replace hw := hw.pure kd_3
      apply DQ.step (E' := [(4, _)])
      case ho => rfl
      case hs => exact ⟨rfl, trivial⟩
      case hk => rfl
      case h1 =>
        intro wq_5 kq_5
        refine WL.move rfl rfl (?_)
        refine WL.nil ?_
        exact WX.one ⟨rfl, by exact Chg.refl _ _⟩
      apply DQ.step (E' := [(0, _)])
      case ho => rfl
      case hs => exact ⟨rfl, trivial⟩
      case hk => rfl
      case h1 =>
        intro wq_6 kq_6
        refine WL.move rfl rfl (?_)
        refine WL.nil ?_
        exact WX.one ⟨rfl, by exact Chg.refl _ _⟩
      apply DQ.step (E' := [(4, _)])
      case ho => rfl
      case hs => exact ⟨rfl, trivial⟩
      case hk => rfl
      case h1 =>
        intro wq_7 kq_7
        refine WL.move rfl rfl (?_)
        refine WL.nil ?_
        exact WX.one ⟨rfl, by exact Chg.refl _ _⟩
      apply DQ.step (E' := [(14, _)])
      case ho => rfl
      case hs => exact ⟨rfl, trivial⟩
      case hk => rfl
      case h1 =>
        intro wq_8 kq_8
        refine WL.mul64 rfl rfl (by omega) rfl (?_)
        refine WL.nil ?_
        exact WX.one ⟨rfl, by exact Chg.refl _ _⟩
      apply DQ.step (E' := [(13, _), (15, _)])
      case ho => rfl
      case hs => exact ⟨rfl, rfl, trivial⟩
      case hk => rfl
      case h1 =>
        intro wq_9 kq_9
        have zs_kq_9 := kq_9.size
        replace hr := hr.chg kq_9 (by intro b h1 h2 h3; have h4 : _ = _ := h3; (try dsimp only at h2); exfalso; omega)
        replace hb1 := hb1.chg kq_9 (by intro h1; have h2 : _ = _ := h1; exfalso; omega)
        replace hw := hw.chg kq_9 (by intro x h1 h2; have h3 : _ = _ := h2; exfalso; omega)
        refine WL.indexC hr Tryz.underlying26 Tryz.sizeOf5 rfl rfl ⟨e0, rfl⟩ rfl ?_
        refine WL.nil ?_
        exact WX.one ⟨rfl, by exact Chg.refl _ _⟩
      apply DQ.step (E' := [(16, _)])
      case ho => rfl
      case hs => exact ⟨rfl, trivial⟩
      case hk => rfl
      case h1 =>
        intro wq_10 kq_10
        have zs_kq_10 := kq_10.size
        replace hr := hr.chg kq_10 (by intro b h1 h2 h3; have h4 : _ = _ := h3; (try dsimp only at h2); exfalso; omega)
        replace hb1 := hb1.chg kq_10 (by intro h1; have h2 : _ = _ := h1; exfalso; omega)
        replace hw := hw.chg kq_10 (by intro x h1 h2; have h3 : _ = _ := h2; exfalso; omega)
        refine WL.load Tryz.isAgg5 rfl ((hr.cellsAt e0) 0 _ rfl) rfl (?_)
        refine WL.nil ?_
        exact WX.one ⟨rfl, by exact Chg.refl _ _⟩
      apply DQ.step (E' := [(17, _)])
      case ho => rfl
      case hs => exact ⟨rfl, trivial⟩
      case hk => rfl
      case h1 =>
        intro wq_11 kq_11
        have zs_kq_11 := kq_11.size
        replace hr := hr.chg kq_11 (by intro b h1 h2 h3; have h4 : _ = _ := h3; (try dsimp only at h2); exfalso; omega)
        replace hb1 := hb1.chg kq_11 (by intro h1; have h2 : _ = _ := h1; exfalso; omega)
        replace hw := hw.chg kq_11 (by intro x h1 h2; have h3 : _ = _ := h2; exfalso; omega)
        refine WL.c_u8_u32 Tryz.underlying5 Tryz.underlying66 rfl rfl (?_)
        refine WL.nil ?_
        exact WX.one ⟨rfl, by exact Chg.refl _ _⟩
      apply DQ.step (E' := [(18, _)])
      case ho => rfl
      case hs => exact ⟨rfl, trivial⟩
      case hk => rfl
      case h1 =>
        intro wq_12 kq_12
        refine WL.num rfl rfl (n_shl32 _ _ _ _ 24 (by decide)) rfl (?_)
        refine WL.nil ?_
        exact WX.one ⟨rfl, by exact Chg.refl _ _⟩
      apply DQ.step (E' := [(0, _)])
      case ho => rfl
      case hs => exact ⟨rfl, trivial⟩
      case hk => rfl
      case h1 =>
        intro wq_13 kq_13
        refine WL.move rfl rfl (?_)
        refine WL.nil ?_
        exact WX.one ⟨rfl, by exact Chg.refl _ _⟩
      apply DQ.step (E' := [(4, _)])
      case ho => rfl
      case hs => exact ⟨rfl, trivial⟩
      case hk => rfl
      case h1 =>
        intro wq_14 kq_14
        refine WL.move rfl rfl (?_)
        refine WL.nil ?_
        exact WX.one ⟨rfl, by exact Chg.refl _ _⟩
      apply DQ.step (E' := [(21, _)])
      case ho => rfl
      case hs => exact ⟨rfl, trivial⟩
      case hk => rfl
      case h1 =>
        intro wq_15 kq_15
        refine WL.mul64 rfl rfl (by omega) rfl (?_)
        refine WL.nil ?_
        exact WX.one ⟨rfl, by exact Chg.refl _ _⟩
      apply DQ.step (E' := [(22, _)])
      case ho => rfl
      case hs => exact ⟨rfl, trivial⟩
      case hk => rfl
      case h1 =>
        intro wq_16 kq_16
        refine WL.add64 rfl rfl (by omega) rfl (?_)
        refine WL.nil ?_
        exact WX.one ⟨rfl, by exact Chg.refl _ _⟩
      apply DQ.step (E' := [(20, _), (23, _)])
      case ho => rfl
      case hs => exact ⟨rfl, rfl, trivial⟩
      case hk => rfl
      case h1 =>
        intro wq_17 kq_17
        have zs_kq_17 := kq_17.size
        replace hr := hr.chg kq_17 (by intro b h1 h2 h3; have h4 : _ = _ := h3; (try dsimp only at h2); exfalso; omega)
        replace hb1 := hb1.chg kq_17 (by intro h1; have h2 : _ = _ := h1; exfalso; omega)
        replace hw := hw.chg kq_17 (by intro x h1 h2; have h3 : _ = _ := h2; exfalso; omega)
        refine WL.indexC hr Tryz.underlying26 Tryz.sizeOf5 rfl rfl ⟨e1, rfl⟩ rfl ?_
        refine WL.nil ?_
        exact WX.one ⟨rfl, by exact Chg.refl _ _⟩
      apply DQ.step (E' := [(24, _)])
      case ho => rfl
      case hs => exact ⟨rfl, trivial⟩
      case hk => rfl
      case h1 =>
        intro wq_18 kq_18
        have zs_kq_18 := kq_18.size
        replace hr := hr.chg kq_18 (by intro b h1 h2 h3; have h4 : _ = _ := h3; (try dsimp only at h2); exfalso; omega)
        replace hb1 := hb1.chg kq_18 (by intro h1; have h2 : _ = _ := h1; exfalso; omega)
        replace hw := hw.chg kq_18 (by intro x h1 h2; have h3 : _ = _ := h2; exfalso; omega)
        refine WL.load Tryz.isAgg5 rfl ((hr.cellsAt e1) 0 _ rfl) rfl (?_)
        refine WL.nil ?_
        exact WX.one ⟨rfl, by exact Chg.refl _ _⟩
      apply DQ.step (E' := [(25, _)])
      case ho => rfl
      case hs => exact ⟨rfl, trivial⟩
      case hk => rfl
      case h1 =>
        intro wq_19 kq_19
        have zs_kq_19 := kq_19.size
        replace hr := hr.chg kq_19 (by intro b h1 h2 h3; have h4 : _ = _ := h3; (try dsimp only at h2); exfalso; omega)
        replace hb1 := hb1.chg kq_19 (by intro h1; have h2 : _ = _ := h1; exfalso; omega)
        replace hw := hw.chg kq_19 (by intro x h1 h2; have h3 : _ = _ := h2; exfalso; omega)
        refine WL.c_u8_u32 Tryz.underlying5 Tryz.underlying66 rfl rfl (?_)
        refine WL.nil ?_
        exact WX.one ⟨rfl, by exact Chg.refl _ _⟩
      apply DQ.step (E' := [(26, _)])
      case ho => rfl
      case hs => exact ⟨rfl, trivial⟩
      case hk => rfl
      case h1 =>
        intro wq_20 kq_20
        refine WL.num rfl rfl (n_shl32 _ _ _ _ 16 (by decide)) rfl (?_)
        refine WL.nil ?_
        exact WX.one ⟨rfl, by exact Chg.refl _ _⟩
      apply DQ.step (E' := [(19, _), (27, _)])
      case ho => rfl
      case hs => exact ⟨rfl, rfl, trivial⟩
      case hk => rfl
      case h1 =>
        intro wq_21 kq_21
        refine WL.num rfl rfl (n_or32 _ _ _ _) rfl (?_)
        refine WL.nil ?_
        exact WX.one ⟨rfl, by exact Chg.refl _ _⟩
      apply DQ.step (E' := [(0, _)])
      case ho => rfl
      case hs => exact ⟨rfl, trivial⟩
      case hk => rfl
      case h1 =>
        intro wq_22 kq_22
        refine WL.move rfl rfl (?_)
        refine WL.nil ?_
        exact WX.one ⟨rfl, by exact Chg.refl _ _⟩
      apply DQ.step (E' := [(4, _)])
      case ho => rfl
      case hs => exact ⟨rfl, trivial⟩
      case hk => rfl
      case h1 =>
        intro wq_23 kq_23
        refine WL.move rfl rfl (?_)
        refine WL.nil ?_
        exact WX.one ⟨rfl, by exact Chg.refl _ _⟩
      apply DQ.step (E' := [(30, _)])
      case ho => rfl
      case hs => exact ⟨rfl, trivial⟩
      case hk => rfl
      case h1 =>
        intro wq_24 kq_24
        refine WL.mul64 rfl rfl (by omega) rfl (?_)
        refine WL.nil ?_
        exact WX.one ⟨rfl, by exact Chg.refl _ _⟩
      apply DQ.step (E' := [(31, _)])
      case ho => rfl
      case hs => exact ⟨rfl, trivial⟩
      case hk => rfl
      case h1 =>
        intro wq_25 kq_25
        refine WL.add64 rfl rfl (by omega) rfl (?_)
        refine WL.nil ?_
        exact WX.one ⟨rfl, by exact Chg.refl _ _⟩
      apply DQ.step (E' := [(29, _), (32, _)])
      case ho => rfl
      case hs => exact ⟨rfl, rfl, trivial⟩
      case hk => rfl
      case h1 =>
        intro wq_26 kq_26
        have zs_kq_26 := kq_26.size
        replace hr := hr.chg kq_26 (by intro b h1 h2 h3; have h4 : _ = _ := h3; (try dsimp only at h2); exfalso; omega)
        replace hb1 := hb1.chg kq_26 (by intro h1; have h2 : _ = _ := h1; exfalso; omega)
        replace hw := hw.chg kq_26 (by intro x h1 h2; have h3 : _ = _ := h2; exfalso; omega)
        refine WL.indexC hr Tryz.underlying26 Tryz.sizeOf5 rfl rfl ⟨e2, rfl⟩ rfl ?_
        refine WL.nil ?_
        exact WX.one ⟨rfl, by exact Chg.refl _ _⟩
      apply DQ.step (E' := [(33, _)])
      case ho => rfl
      case hs => exact ⟨rfl, trivial⟩
      case hk => rfl
      case h1 =>
        intro wq_27 kq_27
        have zs_kq_27 := kq_27.size
        replace hr := hr.chg kq_27 (by intro b h1 h2 h3; have h4 : _ = _ := h3; (try dsimp only at h2); exfalso; omega)
        replace hb1 := hb1.chg kq_27 (by intro h1; have h2 : _ = _ := h1; exfalso; omega)
        replace hw := hw.chg kq_27 (by intro x h1 h2; have h3 : _ = _ := h2; exfalso; omega)
        refine WL.load Tryz.isAgg5 rfl ((hr.cellsAt e2) 0 _ rfl) rfl (?_)
        refine WL.nil ?_
        exact WX.one ⟨rfl, by exact Chg.refl _ _⟩
      apply DQ.step (E' := [(34, _)])
      case ho => rfl
      case hs => exact ⟨rfl, trivial⟩
      case hk => rfl
      case h1 =>
        intro wq_28 kq_28
        have zs_kq_28 := kq_28.size
        replace hr := hr.chg kq_28 (by intro b h1 h2 h3; have h4 : _ = _ := h3; (try dsimp only at h2); exfalso; omega)
        replace hb1 := hb1.chg kq_28 (by intro h1; have h2 : _ = _ := h1; exfalso; omega)
        replace hw := hw.chg kq_28 (by intro x h1 h2; have h3 : _ = _ := h2; exfalso; omega)
        refine WL.c_u8_u32 Tryz.underlying5 Tryz.underlying66 rfl rfl (?_)
        refine WL.nil ?_
        exact WX.one ⟨rfl, by exact Chg.refl _ _⟩
      apply DQ.step (E' := [(35, _)])
      case ho => rfl
      case hs => exact ⟨rfl, trivial⟩
      case hk => rfl
      case h1 =>
        intro wq_29 kq_29
        refine WL.num rfl rfl (n_shl32 _ _ _ _ 8 (by decide)) rfl (?_)
        refine WL.nil ?_
        exact WX.one ⟨rfl, by exact Chg.refl _ _⟩
      apply DQ.step (E' := [(28, _), (36, _)])
      case ho => rfl
      case hs => exact ⟨rfl, rfl, trivial⟩
      case hk => rfl
      case h1 =>
        intro wq_30 kq_30
        refine WL.num rfl rfl (n_or32 _ _ _ _) rfl (?_)
        refine WL.nil ?_
        exact WX.one ⟨rfl, by exact Chg.refl _ _⟩
      apply DQ.step (E' := [(0, _)])
      case ho => rfl
      case hs => exact ⟨rfl, trivial⟩
      case hk => rfl
      case h1 =>
        intro wq_31 kq_31
        refine WL.move rfl rfl (?_)
        refine WL.nil ?_
        exact WX.one ⟨rfl, by exact Chg.refl _ _⟩
      apply DQ.step (E' := [(4, _)])
      case ho => rfl
      case hs => exact ⟨rfl, trivial⟩
      case hk => rfl
      case h1 =>
        intro wq_32 kq_32
        refine WL.move rfl rfl (?_)
        refine WL.nil ?_
        exact WX.one ⟨rfl, by exact Chg.refl _ _⟩
      apply DQ.step (E' := [(39, _)])
      case ho => rfl
      case hs => exact ⟨rfl, trivial⟩
      case hk => rfl
      case h1 =>
        intro wq_33 kq_33
        refine WL.mul64 rfl rfl (by omega) rfl (?_)
        refine WL.nil ?_
        exact WX.one ⟨rfl, by exact Chg.refl _ _⟩
      apply DQ.step (E' := [(40, _)])
      case ho => rfl
      case hs => exact ⟨rfl, trivial⟩
      case hk => rfl
      case h1 =>
        intro wq_34 kq_34
        refine WL.add64 rfl rfl (by omega) rfl (?_)
        refine WL.nil ?_
        exact WX.one ⟨rfl, by exact Chg.refl _ _⟩
      apply DQ.step (E' := [(38, _), (41, _)])
      case ho => rfl
      case hs => exact ⟨rfl, rfl, trivial⟩
      case hk => rfl
      case h1 =>
        intro wq_35 kq_35
        have zs_kq_35 := kq_35.size
        replace hr := hr.chg kq_35 (by intro b h1 h2 h3; have h4 : _ = _ := h3; (try dsimp only at h2); exfalso; omega)
        replace hb1 := hb1.chg kq_35 (by intro h1; have h2 : _ = _ := h1; exfalso; omega)
        replace hw := hw.chg kq_35 (by intro x h1 h2; have h3 : _ = _ := h2; exfalso; omega)
        refine WL.indexC hr Tryz.underlying26 Tryz.sizeOf5 rfl rfl ⟨e3, rfl⟩ rfl ?_
        refine WL.nil ?_
        exact WX.one ⟨rfl, by exact Chg.refl _ _⟩
      apply DQ.step (E' := [(42, _)])
      case ho => rfl
      case hs => exact ⟨rfl, trivial⟩
      case hk => rfl
      case h1 =>
        intro wq_36 kq_36
        have zs_kq_36 := kq_36.size
        replace hr := hr.chg kq_36 (by intro b h1 h2 h3; have h4 : _ = _ := h3; (try dsimp only at h2); exfalso; omega)
        replace hb1 := hb1.chg kq_36 (by intro h1; have h2 : _ = _ := h1; exfalso; omega)
        replace hw := hw.chg kq_36 (by intro x h1 h2; have h3 : _ = _ := h2; exfalso; omega)
        refine WL.load Tryz.isAgg5 rfl ((hr.cellsAt e3) 0 _ rfl) rfl (?_)
        refine WL.nil ?_
        exact WX.one ⟨rfl, by exact Chg.refl _ _⟩
      apply DQ.step (E' := [(43, _)])
      case ho => rfl
      case hs => exact ⟨rfl, trivial⟩
      case hk => rfl
      case h1 =>
        intro wq_37 kq_37
        have zs_kq_37 := kq_37.size
        replace hr := hr.chg kq_37 (by intro b h1 h2 h3; have h4 : _ = _ := h3; (try dsimp only at h2); exfalso; omega)
        replace hb1 := hb1.chg kq_37 (by intro h1; have h2 : _ = _ := h1; exfalso; omega)
        replace hw := hw.chg kq_37 (by intro x h1 h2; have h3 : _ = _ := h2; exfalso; omega)
        refine WL.c_u8_u32 Tryz.underlying5 Tryz.underlying66 rfl rfl (?_)
        refine WL.nil ?_
        exact WX.one ⟨rfl, by exact Chg.refl _ _⟩
      apply DQ.step (E' := [(37, _), (44, _)])
      case ho => rfl
      case hs => exact ⟨rfl, rfl, trivial⟩
      case hk => rfl
      case h1 =>
        intro wq_38 kq_38
        refine WL.num rfl rfl (n_or32 _ _ _ _) rfl (?_)
        refine WL.nil ?_
        exact WX.one ⟨rfl, by exact Chg.refl _ _⟩
      apply DQ.step (E' := [(3, _), (12, _)])
      case ho => rfl
      case hs => exact ⟨rfl, rfl, trivial⟩
      case hk => rfl
      case h1 =>
        intro wq_39 kq_39
        have zs_kq_39 := kq_39.size
        replace hr := hr.chg kq_39 (by intro b h1 h2 h3; have h4 : _ = _ := h3; (try dsimp only at h2); exfalso; omega)
        replace hb1 := hb1.chg kq_39 (by intro h1; have h2 : _ = _ := h1; exfalso; omega)
        replace hw := hw.chg kq_39 (by intro x h1 h2; have h3 : _ = _ := h2; exfalso; omega)
        refine WL.indexArr (t) Tryz.underlying70 Tryz.sizeOf66 rfl rfl ⟨by omega, by omega⟩ rfl ?_
        refine WL.nil ?_
        exact WX.one ⟨rfl, by exact Chg.refl _ _⟩
      refine DQ.done (fun hd_4 => ?_)
      refine DL.step [(46, _), (45, _)] rfl ⟨rfl, rfl, trivial⟩ rfl (fun wq_40 kq_40 => ?_)
      have zs_kq_40 := kq_40.size
      replace hr := hr.pure kq_40
      replace hb1 := hb1.pure kq_40
      replace hb2 := hb2.pure kq_40
      replace hw := hw.pure kq_40
      replace hd_4 := hd_4.pure kq_40
      refine WL.store Tryz.sizeOf66 hb2 rfl rfl rfl (by simp; omega) ?_
      intro w_41 hs_41 hn_41 k_41
      have zs_k_41 := k_41.size
      replace hr := hr.chg k_41 (by intro b h1 h2 h3; have h4 : _ = _ := h3; (try dsimp only at h2); exfalso; omega)
      replace hb1 := hb1.chg k_41 (by intro h1; have h2 : _ = _ := h1; exfalso; omega)
      replace hw := hw.chg k_41 (by intro x h1 h2; have h3 : _ = _ := h2; exfalso; omega)
      replace hd_4 := hd_4.chg k_41 (by intro x h1 h2; exact h2)
      replace hb2 := hn_41
      refine WL.nil ?_
      refine WX.one0 (v := undef) ⟨hd_4, ?_⟩
      refine DL.done (fun we_42 ke_42 => ?_)
      have zs_ke_42 := ke_42.size
      replace hr := hr.pure ke_42
      replace hb1 := hb1.pure ke_42
      replace hb2 := hb2.pure ke_42
      replace hw := hw.pure ke_42
      replace hd_4 := hd_4.pure ke_42
      refine WX.then_normal (WC.exit (WX.then_exit (WX.block_here (WX.then_normal (WC.region (WL.add64 rfl rfl (by omega) rfl (WL.move rfl rfl (?_))))))))
      refine WL.nil (?_)
      refine WX.loop_next (t + 1) ⟨rfl, rfl, rfl, rfl, trivial⟩ ⟨by omega, hr, hb1, ?_, hw⟩ (by show _ - _ < _ - _; omega)
      rw [← sch_set (b := b) (t := t) (by omega)]
      rw [nextW, if_pos (by omega)]; exact hb2
    ·
      refine WL.nil (WX.then_normal (WC.cond_false rfl (WC.skip (WX.then_normal (WC.seq (?_))))))
      have f15 := sch_at (b := b) (t := t) (i := t - 15) (by omega)
      have f2 := sch_at (b := b) (t := t) (i := t - 2) (by omega)
      refine WC.draw (Nob) [0, 1, 2, 3, 4, 5, 6, 7, 8, 9] [] mixed rfl rfl (fun wd_3 kd_3 zd_3 => ?_)
      have zs_kd_3 := kd_3.size
      replace hr := hr.pure kd_3
      replace hb1 := hb1.pure kd_3
      replace hb2 := hb2.pure kd_3
      replace hw := hw.pure kd_3
      apply DQ.step (E' := [(4, _)])
      case ho => rfl
      case hs => exact ⟨rfl, trivial⟩
      case hk => rfl
      case h1 =>
        intro wq_4 kq_4
        refine WL.move rfl rfl (?_)
        refine WL.nil ?_
        exact WX.one ⟨rfl, by exact Chg.refl _ _⟩
      apply DQ.step (E' := [(47, _)])
      case ho => rfl
      case hs => exact ⟨rfl, trivial⟩
      case hk => rfl
      case h1 =>
        intro wq_5 kq_5
        refine WL.sub64 rfl rfl (by omega) rfl (?_)
        refine WL.nil ?_
        exact WX.one ⟨rfl, by exact Chg.refl _ _⟩
      apply DQ.step (E' := [(3, _), (48, _)])
      case ho => rfl
      case hs => exact ⟨rfl, rfl, trivial⟩
      case hk => rfl
      case h1 =>
        intro wq_6 kq_6
        have zs_kq_6 := kq_6.size
        replace hr := hr.pure kq_6
        replace hb1 := hb1.pure kq_6
        replace hb2 := hb2.pure kq_6
        replace hw := hw.pure kq_6
        refine WL.indexArr (t - 15) Tryz.underlying70 Tryz.sizeOf66 rfl rfl ⟨by omega, by omega⟩ rfl ?_
        refine WL.nil ?_
        exact WX.one ⟨rfl, by exact Chg.refl _ _⟩
      apply DQ.step (E' := [(49, _)])
      case ho => rfl
      case hs => exact ⟨rfl, trivial⟩
      case hk => rfl
      case h1 =>
        intro wq_7 kq_7
        have zs_kq_7 := kq_7.size
        replace hr := hr.pure kq_7
        replace hb1 := hb1.pure kq_7
        replace hb2 := hb2.pure kq_7
        replace hw := hw.pure kq_7
        refine WL.loadB Tryz.isAgg66 hb2 rfl (map_at _ f15) rfl (?_)
        refine WL.nil ?_
        exact WX.one ⟨rfl, by exact Chg.refl _ _⟩
      apply DQ.step (E' := [(4, _)])
      case ho => rfl
      case hs => exact ⟨rfl, trivial⟩
      case hk => rfl
      case h1 =>
        intro wq_8 kq_8
        refine WL.move rfl rfl (?_)
        refine WL.nil ?_
        exact WX.one ⟨rfl, by exact Chg.refl _ _⟩
      apply DQ.step (E' := [(51, _)])
      case ho => rfl
      case hs => exact ⟨rfl, trivial⟩
      case hk => rfl
      case h1 =>
        intro wq_9 kq_9
        refine WL.sub64 rfl rfl (by omega) rfl (?_)
        refine WL.nil ?_
        exact WX.one ⟨rfl, by exact Chg.refl _ _⟩
      apply DQ.step (E' := [(3, _), (52, _)])
      case ho => rfl
      case hs => exact ⟨rfl, rfl, trivial⟩
      case hk => rfl
      case h1 =>
        intro wq_10 kq_10
        have zs_kq_10 := kq_10.size
        replace hr := hr.pure kq_10
        replace hb1 := hb1.pure kq_10
        replace hb2 := hb2.pure kq_10
        replace hw := hw.pure kq_10
        refine WL.indexArr (t - 2) Tryz.underlying70 Tryz.sizeOf66 rfl rfl ⟨by omega, by omega⟩ rfl ?_
        refine WL.nil ?_
        exact WX.one ⟨rfl, by exact Chg.refl _ _⟩
      apply DQ.step (E' := [(53, _)])
      case ho => rfl
      case hs => exact ⟨rfl, trivial⟩
      case hk => rfl
      case h1 =>
        intro wq_11 kq_11
        have zs_kq_11 := kq_11.size
        replace hr := hr.pure kq_11
        replace hb1 := hb1.pure kq_11
        replace hb2 := hb2.pure kq_11
        replace hw := hw.pure kq_11
        refine WL.loadB Tryz.isAgg66 hb2 rfl (map_at _ f2) rfl (?_)
        refine WL.nil ?_
        exact WX.one ⟨rfl, by exact Chg.refl _ _⟩
      apply DQ.step (E' := [(50, _)])
      case ho => rfl
      case hs => exact ⟨rfl, trivial⟩
      case hk => rfl
      case h1 =>
        intro wq_12 kq_12
        refine WL.assign rfl rfl (?_)
        refine WL.nil ?_
        exact WX.one ⟨rfl, by exact Chg.refl _ _⟩
      apply DQ.step (E' := [(54, _)])
      case ho => rfl
      case hs => exact ⟨rfl, trivial⟩
      case hk => rfl
      case h1 =>
        intro wq_13 kq_13
        refine WL.assign rfl rfl (?_)
        refine WL.nil ?_
        exact WX.one ⟨rfl, by exact Chg.refl _ _⟩
      refine DQ.done (fun _ => ?_)
      refine DL.done (fun we_14 ke_14 => ?_)
      have zs_ke_14 := ke_14.size
      replace hr := hr.pure ke_14
      replace hb1 := hb1.pure ke_14
      replace hb2 := hb2.pure ke_14
      replace hw := hw.pure ke_14
      refine WX.then_normal (?_)
      refine WC.drawJ (fun x => x = g_2) (JS b t g_2) JS.pure [0, 1, 2, 3, 4, 5, 6, 7, 8, 9, 10, 11, 12, 13, 14, 15, 16, 17, 18, 19, 20, 21, 22, 23, 24, 25, 26, 27, 28] [29] mixed rfl rfl (JS.init hb2) (fun wd_15 kd_15 zd_15 => ?_)
      have zs_kd_15 := kd_15.size
      replace hr := hr.pure kd_15
      replace hb1 := hb1.pure kd_15
      replace hb2 := hb2.pure kd_15
      replace hw := hw.pure kd_15
      apply DQ.step (E' := [(4, _)])
      case ho => rfl
      case hs => exact ⟨rfl, trivial⟩
      case hk => rfl
      case h1 =>
        rintro wq_17 ⟨kq_17, jq⟩
        refine WL.move rfl rfl (?_)
        refine WL.nil ?_
        exact WX.one ⟨rfl, by exact Chg.refl _ _⟩
      apply DQ.step (E' := [(4, _)])
      case ho => rfl
      case hs => exact ⟨rfl, trivial⟩
      case hk => rfl
      case h1 =>
        rintro wq_18 ⟨kq_18, jq⟩
        refine WL.move rfl rfl (?_)
        refine WL.nil ?_
        exact WX.one ⟨rfl, by exact Chg.refl _ _⟩
      apply DQ.step (E' := [(56, _)])
      case ho => rfl
      case hs => exact ⟨rfl, trivial⟩
      case hk => rfl
      case h1 =>
        rintro wq_19 ⟨kq_19, jq⟩
        refine WL.sub64 rfl rfl (by omega) rfl (?_)
        refine WL.nil ?_
        exact WX.one ⟨rfl, by exact Chg.refl _ _⟩
      apply DQ.step (E' := [(3, _), (57, _)])
      case ho => rfl
      case hs => exact ⟨rfl, rfl, trivial⟩
      case hk => rfl
      case h1 =>
        rintro wq_20 ⟨kq_20, jq⟩
        have zs_kq_20 := kq_20.size
        replace hr := hr.chg kq_20 (by intro b h1 h2 h3; have h4 : _ = _ := h3; (try dsimp only at h2); exfalso; omega)
        replace hb1 := hb1.chg kq_20 (by intro h1; have h2 : _ = _ := h1; exfalso; omega)
        replace hw := hw.chg kq_20 (by intro x h1 h2; have h3 : _ = _ := h2; exfalso; omega)
        refine WL.indexArr (t - 16) Tryz.underlying70 Tryz.sizeOf66 rfl rfl ⟨by omega, by omega⟩ rfl ?_
        refine WL.nil ?_
        exact WX.one ⟨rfl, by exact Chg.refl _ _⟩
      apply DQ.step (E' := [(58, _)])
      case ho => rfl
      case hs => exact ⟨rfl, trivial⟩
      case hk => rfl
      case h1 =>
        rintro wq_21 ⟨kq_21, jq⟩
        have zs_kq_21 := kq_21.size
        replace hr := hr.chg kq_21 (by intro b h1 h2 h3; have h4 : _ = _ := h3; (try dsimp only at h2); exfalso; omega)
        replace hb1 := hb1.chg kq_21 (by intro h1; have h2 : _ = _ := h1; exfalso; omega)
        replace hw := hw.chg kq_21 (by intro x h1 h2; have h3 : _ = _ := h2; exfalso; omega)
        obtain ⟨cs, hq, hcs⟩ := jq
        refine WL.loadB Tryz.isAgg66 hq rfl (hcs (t - 16) (by omega)) rfl ?_
        refine WL.nil ?_
        exact WX.one ⟨rfl, by exact Chg.refl _ _⟩
      apply DQ.step (E' := [(5, _)])
      case ho => rfl
      case hs => exact ⟨rfl, trivial⟩
      case hk => rfl
      case h1 =>
        rintro wq_22 ⟨kq_22, jq⟩
        refine WL.move rfl rfl (?_)
        refine WL.nil ?_
        exact WX.one ⟨rfl, by exact Chg.refl _ _⟩
      apply DQ.step (E' := [(60, _)])
      case ho => rfl
      case hs => exact ⟨rfl, trivial⟩
      case hk => rfl
      case h1 =>
        rintro wq_23 ⟨kq_23, jq⟩
        have zs_kq_23 := kq_23.size
        replace hr := hr.chg kq_23 (by intro b h1 h2 h3; have h4 : _ = _ := h3; (try dsimp only at h2); exfalso; omega)
        replace hb1 := hb1.chg kq_23 (by intro h1; have h2 : _ = _ := h1; exfalso; omega)
        replace hw := hw.chg kq_23 (by intro x h1 h2; have h3 : _ = _ := h2; exfalso; omega)
        refine WL.call eg_65 rfl rfl (ror_calls ((sch b t).getD (t - 15) 0) 7 _ (by decide)) ?_
        rintro v w4 ⟨rfl, k4⟩
        have zs_k4 := k4.size
        replace hr := hr.pure k4
        replace hb1 := hb1.pure k4
        replace hw := hw.pure k4
        refine WL.nil ?_
        exact WX.one ⟨rfl, by assumption⟩
      apply DQ.step (E' := [(5, _)])
      case ho => rfl
      case hs => exact ⟨rfl, trivial⟩
      case hk => rfl
      case h1 =>
        rintro wq_24 ⟨kq_24, jq⟩
        refine WL.move rfl rfl (?_)
        refine WL.nil ?_
        exact WX.one ⟨rfl, by exact Chg.refl _ _⟩
      apply DQ.step (E' := [(62, _)])
      case ho => rfl
      case hs => exact ⟨rfl, trivial⟩
      case hk => rfl
      case h1 =>
        rintro wq_25 ⟨kq_25, jq⟩
        have zs_kq_25 := kq_25.size
        replace hr := hr.chg kq_25 (by intro b h1 h2 h3; have h4 : _ = _ := h3; (try dsimp only at h2); exfalso; omega)
        replace hb1 := hb1.chg kq_25 (by intro h1; have h2 : _ = _ := h1; exfalso; omega)
        replace hw := hw.chg kq_25 (by intro x h1 h2; have h3 : _ = _ := h2; exfalso; omega)
        refine WL.call eg_65 rfl rfl (ror_calls ((sch b t).getD (t - 15) 0) 18 _ (by decide)) ?_
        rintro v w4 ⟨rfl, k4⟩
        have zs_k4 := k4.size
        replace hr := hr.pure k4
        replace hb1 := hb1.pure k4
        replace hw := hw.pure k4
        refine WL.nil ?_
        exact WX.one ⟨rfl, by assumption⟩
      apply DQ.step (E' := [(61, _), (63, _)])
      case ho => rfl
      case hs => exact ⟨rfl, rfl, trivial⟩
      case hk => rfl
      case h1 =>
        rintro wq_26 ⟨kq_26, jq⟩
        refine WL.num rfl rfl (n_xor32 _ _ _ _) rfl (?_)
        refine WL.nil ?_
        exact WX.one ⟨rfl, by exact Chg.refl _ _⟩
      apply DQ.step (E' := [(5, _)])
      case ho => rfl
      case hs => exact ⟨rfl, trivial⟩
      case hk => rfl
      case h1 =>
        rintro wq_27 ⟨kq_27, jq⟩
        refine WL.move rfl rfl (?_)
        refine WL.nil ?_
        exact WX.one ⟨rfl, by exact Chg.refl _ _⟩
      apply DQ.step (E' := [(65, _)])
      case ho => rfl
      case hs => exact ⟨rfl, trivial⟩
      case hk => rfl
      case h1 =>
        rintro wq_28 ⟨kq_28, jq⟩
        refine WL.num rfl rfl (n_shr32 _ _ _ _ 3 (by decide)) rfl (?_)
        refine WL.nil ?_
        exact WX.one ⟨rfl, by exact Chg.refl _ _⟩
      apply DQ.step (E' := [(64, _), (66, _)])
      case ho => rfl
      case hs => exact ⟨rfl, rfl, trivial⟩
      case hk => rfl
      case h1 =>
        rintro wq_29 ⟨kq_29, jq⟩
        refine WL.num rfl rfl (n_xor32 _ _ _ _) rfl (?_)
        refine WL.nil ?_
        exact WX.one ⟨rfl, by exact Chg.refl _ _⟩
      apply DQ.step (E' := [(59, _), (67, _)])
      case ho => rfl
      case hs => exact ⟨rfl, rfl, trivial⟩
      case hk => rfl
      case h1 =>
        rintro wq_30 ⟨kq_30, jq⟩
        refine WL.num rfl rfl (n_add32 _ _ _ _) rfl (?_)
        refine WL.nil ?_
        exact WX.one ⟨rfl, by exact Chg.refl _ _⟩
      apply DQ.step (E' := [(4, _)])
      case ho => rfl
      case hs => exact ⟨rfl, trivial⟩
      case hk => rfl
      case h1 =>
        rintro wq_31 ⟨kq_31, jq⟩
        refine WL.move rfl rfl (?_)
        refine WL.nil ?_
        exact WX.one ⟨rfl, by exact Chg.refl _ _⟩
      apply DQ.step (E' := [(69, _)])
      case ho => rfl
      case hs => exact ⟨rfl, trivial⟩
      case hk => rfl
      case h1 =>
        rintro wq_32 ⟨kq_32, jq⟩
        refine WL.sub64 rfl rfl (by omega) rfl (?_)
        refine WL.nil ?_
        exact WX.one ⟨rfl, by exact Chg.refl _ _⟩
      apply DQ.step (E' := [(3, _), (70, _)])
      case ho => rfl
      case hs => exact ⟨rfl, rfl, trivial⟩
      case hk => rfl
      case h1 =>
        rintro wq_33 ⟨kq_33, jq⟩
        have zs_kq_33 := kq_33.size
        replace hr := hr.chg kq_33 (by intro b h1 h2 h3; have h4 : _ = _ := h3; (try dsimp only at h2); exfalso; omega)
        replace hb1 := hb1.chg kq_33 (by intro h1; have h2 : _ = _ := h1; exfalso; omega)
        replace hw := hw.chg kq_33 (by intro x h1 h2; have h3 : _ = _ := h2; exfalso; omega)
        refine WL.indexArr (t - 7) Tryz.underlying70 Tryz.sizeOf66 rfl rfl ⟨by omega, by omega⟩ rfl ?_
        refine WL.nil ?_
        exact WX.one ⟨rfl, by exact Chg.refl _ _⟩
      apply DQ.step (E' := [(71, _)])
      case ho => rfl
      case hs => exact ⟨rfl, trivial⟩
      case hk => rfl
      case h1 =>
        rintro wq_34 ⟨kq_34, jq⟩
        have zs_kq_34 := kq_34.size
        replace hr := hr.chg kq_34 (by intro b h1 h2 h3; have h4 : _ = _ := h3; (try dsimp only at h2); exfalso; omega)
        replace hb1 := hb1.chg kq_34 (by intro h1; have h2 : _ = _ := h1; exfalso; omega)
        replace hw := hw.chg kq_34 (by intro x h1 h2; have h3 : _ = _ := h2; exfalso; omega)
        obtain ⟨cs, hq, hcs⟩ := jq
        refine WL.loadB Tryz.isAgg66 hq rfl (hcs (t - 7) (by omega)) rfl ?_
        refine WL.nil ?_
        exact WX.one ⟨rfl, by exact Chg.refl _ _⟩
      apply DQ.step (E' := [(68, _), (72, _)])
      case ho => rfl
      case hs => exact ⟨rfl, rfl, trivial⟩
      case hk => rfl
      case h1 =>
        rintro wq_35 ⟨kq_35, jq⟩
        refine WL.num rfl rfl (n_add32 _ _ _ _) rfl (?_)
        refine WL.nil ?_
        exact WX.one ⟨rfl, by exact Chg.refl _ _⟩
      apply DQ.step (E' := [(6, _)])
      case ho => rfl
      case hs => exact ⟨rfl, trivial⟩
      case hk => rfl
      case h1 =>
        rintro wq_36 ⟨kq_36, jq⟩
        refine WL.move rfl rfl (?_)
        refine WL.nil ?_
        exact WX.one ⟨rfl, by exact Chg.refl _ _⟩
      apply DQ.step (E' := [(74, _)])
      case ho => rfl
      case hs => exact ⟨rfl, trivial⟩
      case hk => rfl
      case h1 =>
        rintro wq_37 ⟨kq_37, jq⟩
        have zs_kq_37 := kq_37.size
        replace hr := hr.chg kq_37 (by intro b h1 h2 h3; have h4 : _ = _ := h3; (try dsimp only at h2); exfalso; omega)
        replace hb1 := hb1.chg kq_37 (by intro h1; have h2 : _ = _ := h1; exfalso; omega)
        replace hw := hw.chg kq_37 (by intro x h1 h2; have h3 : _ = _ := h2; exfalso; omega)
        refine WL.call eg_65 rfl rfl (ror_calls ((sch b t).getD (t - 2) 0) 17 _ (by decide)) ?_
        rintro v w4 ⟨rfl, k4⟩
        have zs_k4 := k4.size
        replace hr := hr.pure k4
        replace hb1 := hb1.pure k4
        replace hw := hw.pure k4
        refine WL.nil ?_
        exact WX.one ⟨rfl, by assumption⟩
      apply DQ.step (E' := [(6, _)])
      case ho => rfl
      case hs => exact ⟨rfl, trivial⟩
      case hk => rfl
      case h1 =>
        rintro wq_38 ⟨kq_38, jq⟩
        refine WL.move rfl rfl (?_)
        refine WL.nil ?_
        exact WX.one ⟨rfl, by exact Chg.refl _ _⟩
      apply DQ.step (E' := [(76, _)])
      case ho => rfl
      case hs => exact ⟨rfl, trivial⟩
      case hk => rfl
      case h1 =>
        rintro wq_39 ⟨kq_39, jq⟩
        have zs_kq_39 := kq_39.size
        replace hr := hr.chg kq_39 (by intro b h1 h2 h3; have h4 : _ = _ := h3; (try dsimp only at h2); exfalso; omega)
        replace hb1 := hb1.chg kq_39 (by intro h1; have h2 : _ = _ := h1; exfalso; omega)
        replace hw := hw.chg kq_39 (by intro x h1 h2; have h3 : _ = _ := h2; exfalso; omega)
        refine WL.call eg_65 rfl rfl (ror_calls ((sch b t).getD (t - 2) 0) 19 _ (by decide)) ?_
        rintro v w4 ⟨rfl, k4⟩
        have zs_k4 := k4.size
        replace hr := hr.pure k4
        replace hb1 := hb1.pure k4
        replace hw := hw.pure k4
        refine WL.nil ?_
        exact WX.one ⟨rfl, by assumption⟩
      apply DQ.step (E' := [(75, _), (77, _)])
      case ho => rfl
      case hs => exact ⟨rfl, rfl, trivial⟩
      case hk => rfl
      case h1 =>
        rintro wq_40 ⟨kq_40, jq⟩
        refine WL.num rfl rfl (n_xor32 _ _ _ _) rfl (?_)
        refine WL.nil ?_
        exact WX.one ⟨rfl, by exact Chg.refl _ _⟩
      apply DQ.step (E' := [(6, _)])
      case ho => rfl
      case hs => exact ⟨rfl, trivial⟩
      case hk => rfl
      case h1 =>
        rintro wq_41 ⟨kq_41, jq⟩
        refine WL.move rfl rfl (?_)
        refine WL.nil ?_
        exact WX.one ⟨rfl, by exact Chg.refl _ _⟩
      apply DQ.step (E' := [(79, _)])
      case ho => rfl
      case hs => exact ⟨rfl, trivial⟩
      case hk => rfl
      case h1 =>
        rintro wq_42 ⟨kq_42, jq⟩
        refine WL.num rfl rfl (n_shr32 _ _ _ _ 10 (by decide)) rfl (?_)
        refine WL.nil ?_
        exact WX.one ⟨rfl, by exact Chg.refl _ _⟩
      apply DQ.step (E' := [(78, _), (80, _)])
      case ho => rfl
      case hs => exact ⟨rfl, rfl, trivial⟩
      case hk => rfl
      case h1 =>
        rintro wq_43 ⟨kq_43, jq⟩
        refine WL.num rfl rfl (n_xor32 _ _ _ _) rfl (?_)
        refine WL.nil ?_
        exact WX.one ⟨rfl, by exact Chg.refl _ _⟩
      apply DQ.step (E' := [(73, _), (81, _)])
      case ho => rfl
      case hs => exact ⟨rfl, rfl, trivial⟩
      case hk => rfl
      case h1 =>
        rintro wq_44 ⟨kq_44, jq⟩
        refine WL.num rfl rfl (n_add32 _ _ _ _) rfl (?_)
        refine WL.nil ?_
        exact WX.one ⟨rfl, by exact Chg.refl _ _⟩
      apply DQ.step (E' := [(3, _), (55, _)])
      case ho => rfl
      case hs => exact ⟨rfl, rfl, trivial⟩
      case hk => rfl
      case h1 =>
        rintro wq_45 ⟨kq_45, jq⟩
        have zs_kq_45 := kq_45.size
        replace hr := hr.chg kq_45 (by intro b h1 h2 h3; have h4 : _ = _ := h3; (try dsimp only at h2); exfalso; omega)
        replace hb1 := hb1.chg kq_45 (by intro h1; have h2 : _ = _ := h1; exfalso; omega)
        replace hw := hw.chg kq_45 (by intro x h1 h2; have h3 : _ = _ := h2; exfalso; omega)
        refine WL.indexArr (t) Tryz.underlying70 Tryz.sizeOf66 rfl rfl ⟨by omega, by omega⟩ rfl ?_
        refine WL.nil ?_
        exact WX.one ⟨rfl, by exact Chg.refl _ _⟩
      refine DQ.doneJ (fun hd_16 => ?_)
      refine DL.step [(83, _), (82, _)] rfl ⟨rfl, rfl, trivial⟩ rfl (fun wq_46 kq_46 => ?_)
      have zs_kq_46 := kq_46.size
      replace hr := hr.pure kq_46
      replace hb1 := hb1.pure kq_46
      replace hb2 := hb2.pure kq_46
      replace hw := hw.pure kq_46
      replace hd_16 := hd_16.pure kq_46
      refine WL.store Tryz.sizeOf66 hb2 rfl rfl rfl (by simp; omega) ?_
      intro w_47 hs_47 hn_47 k_47
      have zs_k_47 := k_47.size
      replace hr := hr.chg k_47 (by intro b h1 h2 h3; have h4 : _ = _ := h3; (try dsimp only at h2); exfalso; omega)
      replace hb1 := hb1.chg k_47 (by intro h1; have h2 : _ = _ := h1; exfalso; omega)
      replace hw := hw.chg k_47 (by intro x h1 h2; have h3 : _ = _ := h2; exfalso; omega)
      replace hd_16 := hd_16.chg k_47 (by intro x h1 h2; exact h2)
      replace hb2 := hn_47
      refine WL.nil ?_
      refine WX.one0 (v := undef) ⟨⟨hd_16, (by exact JS.set hb2)⟩, ?_⟩
      refine DL.done (fun we_48 ke_48 => ?_)
      have zs_ke_48 := ke_48.size
      replace hr := hr.pure ke_48
      replace hb1 := hb1.pure ke_48
      replace hb2 := hb2.pure ke_48
      replace hw := hw.pure ke_48
      replace hd_16 := hd_16.pure ke_48
      refine WX.block_normal (WX.then_normal (WC.region (WL.add64 rfl rfl (by omega) rfl (WL.move rfl rfl (WL.nil (?_))))))
      refine WX.loop_next (t + 1) ⟨rfl, rfl, rfl, rfl, trivial⟩ ⟨by omega, hr, hb1, ?_, hw⟩ (by show _ - _ < _ - _; omega)
      rw [← sch_set (b := b) (t := t) (by omega)]
      rw [nextW, if_neg (by omega)]; exact hb2
  ·
    refine WL.nil (WX.then_normal (WC.seq (WC.cond_false rfl (WC.exit (WX.then_exit (WX.then_exit (WX.block_here (?_))))))))
    refine WX.then_normal (WC.seq (WC.region (WL.loadsB Tryz.isAgg70 Tryz.sizeOf70 hb2 rfl (by simp; omega) rfl (?_))))
    refine WL.stores Tryz.sizeOf70 hb1 rfl rfl (by simp; omega) (by intro u hu; obtain ⟨x, _, rfl⟩ := List.mem_map.1 hu; rfl) (by simp; omega) rfl ?_
    intro w_3 hs_3 hn_3 k_3
    have zs_k_3 := k_3.size
    replace hr := hr.chg k_3 (by intro b h1 h2 h3; have h4 : _ = _ := h3; (try dsimp only at h2); exfalso; omega)
    replace hb2 := hb2.chg k_3 (by intro h1; have h2 : _ = _ := h1; exfalso; omega)
    replace hw := hw.chg k_3 (by intro x h1 h2; have h3 : _ = _ := h2; exfalso; omega)
    replace hb1 := hn_3
    refine WL.nil (WX.then_normal (WC.ret (?_)))
    refine WX.ret1c (.inl rfl) Tryz.results64 Tryz.isAgg70 Tryz.sizeOf70 hb1 rfl (by simp; omega) ?_
    have ht64 : t = 64 := by omega
    subst ht64
    refine ⟨_, rfl, ?_, hw⟩
    simp
    omega
end Go.Proofs.YtggecdldnpildaaGreat
