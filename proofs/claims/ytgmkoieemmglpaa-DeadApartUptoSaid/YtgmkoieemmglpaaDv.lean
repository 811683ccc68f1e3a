import Derived.Test.YtgmkoieemmglpaaDu
namespace Go.Proofs.Ytgmkoieemmglpaa
open Go.RowKit Go.HL

/-! what is handed in stays as it is -/
def eln : Enc LnV := ⟨3, fun l => lcells l, fun _ => rfl, by simp [Value.oneCell'], by decide⟩
abbrev hdr (x : SnV) : Option Addr × Nat × List PtV := (x.ao, x.cap, x.dead)
/-- a line whose rows may be written; what the lists of pointers hold, and the transactions, are let go -/
structure LX (S : Nat → Prop) (w : World) (l : LnV) : Prop where
  snaps : ∃ sn, Row S w 65 esn l.sao l.scap sn ∧ sn.map hdr = l.snaps.map hdr
  dead : Wt S w 27 4 l.dao l.dead.length
  inner : ∀ x ∈ l.snaps, Wt S w 27 4 x.ao x.dead.length
theorem LOi.lx {S : Nat → Prop} {w : World} {l : LnV} (h : LO S w 65 l) : LX S w l := ⟨⟨l.snaps, h.snaps, rfl⟩, h.dead.wt, fun x hx => by
  obtain ⟨j, hj, rfl⟩ := List.getElem_of_mem hx
  exact (h.inner j _ hj (List.getElem?_eq_getElem hj)).wt⟩
theorem LW.lx {S : Nat → Prop} {w : World} {l : LnV} (h : LW S w l) : LX S w l := ⟨⟨l.snaps, h.snaps, rfl⟩, h.dead.wt, fun x hx => (h.inner x hx).wt⟩
section
variable {S S' M : Nat → Prop} {w w' : World} {l : LnV}
theorem LX.chg (h : LX S w l) (k : Chg M w w') (hd : ∀ b, b < w.heap.size → S b → M b → False) : LX S w' l := by
  obtain ⟨⟨sn, h1, h2⟩, h3, h4⟩ := h
  exact ⟨⟨sn, h1.chg k hd, h2⟩, h3.chg k hd, fun x hx => (h4 x hx).chg k hd⟩
theorem LX.pure (h : LX S w l) (k : Chg Nob w w') : LX S w' l := h.chg k (fun _ _ _ x => x)
theorem LX.mono (h : LX S w l) (k : ∀ b, S b → S' b) : LX S' w l := by
  obtain ⟨⟨sn, h1, h2⟩, h3, h4⟩ := h
  exact ⟨⟨sn, h1.mono k, h2⟩, h3.mono k, fun x hx => (h4 x hx).mono k⟩
theorem LX.lt (h : LX S w l) : LX (fun b => S b ∧ b < w.heap.size) w l := by
  obtain ⟨⟨sn, h1, h2⟩, h3, h4⟩ := h
  exact ⟨⟨sn, h1.lt, h2⟩, h3.lt, fun x hx => (h4 x hx).lt⟩
end
def SI (n1 n2 n3 : Nat) : Nat → Nat → Prop
  | 0, b => n1 ≤ b ∧ b < n2
  | 1, b => n2 ≤ b ∧ b < n3
  | _ + 2, b => n3 ≤ b
theorem SI.low {n1 n2 n3 : Nat} (h12 : n1 ≤ n2 ∧ n2 ≤ n3) {i b : Nat} (h : SI n1 n2 n3 i b) : n1 ≤ b := by
  match i, h with
  | 0, h => exact h.1
  | 1, h => have := h.1; omega
  | i + 2, h => have : n3 ≤ b := h; omega
theorem SI.disj {n1 n2 n3 : Nat} (h12 : n1 ≤ n2 ∧ n2 ≤ n3) {i j b : Nat} (hi : i < 3) (hj : j < 3) (h : SI n1 n2 n3 i b) (k : SI n1 n2 n3 j b) : i = j := by
  match i, j, h, k with
  | 0, 0, _, _ => rfl
  | 0, 1, h, k => have := h.2; have := k.1; omega
  | 0, j + 2, h, k => have := h.2; have : n3 ≤ b := k; omega
  | 1, 0, h, k => have := k.2; have := h.1; omega
  | 1, 1, _, _ => rfl
  | 1, j + 2, h, k => have := h.2; have : n3 ≤ b := k; omega
  | i + 2, 0, h, k => have := k.2; have : n3 ≤ b := h; omega
  | i + 2, 1, h, k => have := k.2; have : n3 ≤ b := h; omega
  | i + 2, j + 2, _, _ => omega
/-- what holds while the answers are written over -/
structure AP (w0 : World) (n1 n2 n3 g1 g7 : Nat) (l lf : LnV) (ls : List LnV) (lao : Option Addr) (lc : Nat) (fao : Option Addr) (fn : Nat) (w : World) : Prop where
  fin : LF (· < n1) w lf
  b7 : Blk w g7 33 (lcells lf)
  b1 : Blk w g1 25 (lcells l)
  arg : LS (· < w0.heap.size) w l
  lines : Row (n1 ≤ ·) w 33 eln lao lc ls
  ln : ∀ i lx, ls[i]? = some lx → LX (SI n1 n2 n3 i) w lx
  free : Wt (n1 ≤ ·) w 27 4 fao fn
  low : (g1 < n1 ∧ g7 < n1 ∧ w0.heap.size ≤ n1) ∧ n1 ≤ n2 ∧ n2 ≤ n3
  len : ls.length = 3
  hw : Chg Nob w0 w
section
variable {w0 w w' : World} {n1 n2 n3 g1 g7 : Nat} {l lf : LnV} {ls : List LnV} {lao fao : Option Addr} {lc fn g : Nat}
theorem AP.pt (h : AP w0 n1 n2 n3 g1 g7 l lf ls lao lc fao fn w) (k : Chg (· = g) w w') (sh : ShK w w') (hg : n1 ≤ g) (hk : kb w g = some (some 27)) : AP w0 n1 n2 n3 g1 g7 l lf ls lao lc fao fn w' := by
  obtain ⟨⟨hl1, hl7, hl0⟩, h12⟩ := h.low
  refine ⟨h.fin.chg k (fun b _ h1 h2 => by omega), h.b7.chg k (by omega), h.b1.chg k (by omega), h.arg.chg k (fun b _ h1 h2 => by omega), h.lines.chgK k ?_, fun i lx hi => ?_, h.free.keep sh, h.low, h.len, h.hw.chg k (fun x h1 h2 => by omega)⟩
  · rintro b _ rfl e
    rw [hk] at e
    exact absurd e (by decide)
  · obtain ⟨⟨sn, h1, h2⟩, h3, h4⟩ := h.ln i lx hi
    refine ⟨⟨sn, h1.chgK k ?_, h2⟩, h3.keep sh, fun x hx => (h4 x hx).keep sh⟩
    rintro b _ rfl e
    rw [hk] at e
    exact absurd e (by decide)
theorem AP.tx (h : AP w0 n1 n2 n3 g1 g7 l lf ls lao lc fao fn w) (k : Chg (· = g) w w') (sh : ShK w w') {i : Nat} {lx : LnV} (hi : ls[i]? = some lx) (hS : SI n1 n2 n3 i g) (hk : kb w g = some (some 65))
    (hn : ∃ sn, Row (SI n1 n2 n3 i) w' 65 esn lx.sao lx.scap sn ∧ sn.map hdr = lx.snaps.map hdr) : AP w0 n1 n2 n3 g1 g7 l lf ls lao lc fao fn w' := by
  obtain ⟨⟨hl1, hl7, hl0⟩, h12⟩ := h.low
  have hg : n1 ≤ g := hS.low h12
  have hil := (List.getElem?_eq_some_iff.1 hi).1
  have hl3 := h.len
  refine ⟨h.fin.chg k (fun b _ h1 h2 => by omega), h.b7.chg k (by omega), h.b1.chg k (by omega), h.arg.chg k (fun b _ h1 h2 => by omega), h.lines.chgK k ?_, fun j ly hj => ?_, h.free.keep sh, h.low, h.len, h.hw.chg k (fun x h1 h2 => by omega)⟩
  · rintro b _ rfl e
    rw [hk] at e
    exact absurd e (by decide)
  · obtain ⟨⟨sn, h1, h2⟩, h3, h4⟩ := h.ln j ly hj
    have hjl := (List.getElem?_eq_some_iff.1 hj).1
    by_cases e : j = i
    · subst e
      rw [hi] at hj
      injection hj with hj
      subst hj
      exact ⟨hn, h3.keep sh, fun x hx => (h4 x hx).keep sh⟩
    · refine ⟨⟨sn, h1.chg k (fun b _ h5 h6 => e (SI.disj h12 (by omega) (by omega) h5 (by rw [h6]; exact hS))), h2⟩, h3.keep sh, fun x hx => (h4 x hx).keep sh⟩
end
theorem sn_tx {ws : List SnV} {j : Nat} {x : SnV} (hx : ws[j]? = some x) (t : Int) : (esn.all ws).take (0 + j * 2 + 0) ++ [vi t] ++ (esn.all ws).drop (0 + j * 2 + 0 + 1) = esn.all (ws.set j { x with txg := t }) := by
  have hj := (List.getElem?_eq_some_iff.1 hx).1
  have hl : (esn.all (ws.take j)).length = j * 2 := by
    rw [Enc.all_len, List.length_take, Nat.min_eq_left (Nat.le_of_lt hj)]
    rfl
  have e1 : esn.all ws = esn.all (ws.take j) ++ ([vi x.txg, .slice x.ao x.dead.length x.cap] ++ esn.all (ws.drop (j + 1))) := by
    conv => lhs; rw [show ws = ws.take j ++ (x :: ws.drop (j + 1)) from by rw [← (List.getElem?_eq_some_iff.1 hx).2]; simp]
    rw [Enc.all_append]
    rfl
  have e2 : esn.all (ws.set j { x with txg := t }) = esn.all (ws.take j) ++ ([vi t, .slice x.ao x.dead.length x.cap] ++ esn.all (ws.drop (j + 1))) := by
    rw [List.set_eq_take_append_cons_drop, if_pos hj, Enc.all_append]
    rfl
  rw [e1, e2, Nat.zero_add, Nat.add_zero, ← hl, List.take_left, List.drop_append, List.drop_eq_nil_of_le (show (esn.all (ws.take j)).length ≤ (esn.all (ws.take j)).length + 1 from by omega)]
  rw [show (esn.all (ws.take j)).length + 1 - (esn.all (ws.take j)).length = 1 from by omega]
  simp
theorem hdr_at {sn sn2 : List SnV} (h : sn.map hdr = sn2.map hdr) {k : Nat} {x : SnV} (hx : sn2[k]? = some x) : ∃ y, sn[k]? = some y ∧ hdr y = hdr x := by
  have h1 : (sn.map hdr)[k]? = (sn2.map hdr)[k]? := by rw [h]
  simp only [List.getElem?_map, hx, Option.map_some] at h1
  cases hy : sn[k]? with
  | none => rw [hy] at h1; cases h1
  | some y => rw [hy] at h1; injection h1 with h1; exact ⟨y, rfl, h1⟩
theorem hdr_set {sn : List SnV} {k : Nat} {y : SnV} (hy : sn[k]? = some y) (t : Int) : (sn.set k { y with txg := t }).map hdr = sn.map hdr := by
  rw [List.map_set]
  apply List.ext_getElem?
  intro j
  rw [List.getElem?_set]
  by_cases e : k = j
  · subst e
    have hlt := (List.getElem?_eq_some_iff.1 hy).1
    rw [if_pos rfl, List.length_map, if_pos hlt, List.getElem?_map, hy]
    rfl
  · rw [if_neg e]
end Go.Proofs.Ytgmkoieemmglpaa
