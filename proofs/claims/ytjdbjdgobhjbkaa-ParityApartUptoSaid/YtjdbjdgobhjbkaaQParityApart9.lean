import Derived.Test.YtjdbjdgobhjbkaaQParityApart8
namespace Go.Proofs.Ytjdbjdgobhjbkaa
open Go.RowKit Go.HL
/-- what Rebuild has at its end is what it must answer -/
theorem rb_fin2 {cols : List (List UInt8)} {bad : List Int} {k n : Nat} {rs1 rs3 rs4 : List Rw} (hreal : ∀ (j : Nat) (r : Rw), rs1[j]? = some r → j < k + 3 → ¬ (k ≤ j ∧ (j : Int) ∈ bad) → r.xs.length = n) (hkeep : ∀ (j : Nat) (r : Rw), rs1[j]? = some r → j < k + 3 → (j : Int) ∉ bad → cols[j]? = some r.xs) (hH : HealI rs1 rs3 k (lostL k bad) (fromL k bad) n) (hlen : rs4.length = k + 3) (hlow : ∀ j, j < k → rs4[j]? = rs3[j]?) (hpar : ∀ q, q < 3 → ((k + q : Nat) : Int) ∉ bad → rs4[k + q]? = rs3[k + q]?)
    (hbad : ∀ q, q < 3 → ((k + q : Nat) : Int) ∈ bad → ∃ r, rs4[k + q]? = some r ∧ r.xs = prow (wtq q) ((xss rs4).take k) n k) : RB cols bad k n (xss rs4) := by
  have hlow2 : ∀ (j : Nat) (r : Rw), j < k → rs4[j]? = some r → r.xs.length = n := fun j r hj hr => by
    rw [hlow j hj] at hr
    obtain ⟨r1, hr1, _, _, h5, _⟩ := hH.back hr
    have h6 := hreal j r1 hr1 (by omega) (fun h => by omega)
    rw [h5, h6]
  have htl : ((xss rs4).take k).length = k := by rw [List.length_take, xss_len]; omega
  have hta : ∀ d ∈ (xss rs4).take k, d.length = n := fun d hd => by
    obtain ⟨j, hj⟩ := List.getElem?_of_mem hd
    have hjk : j < k := by have := (List.getElem?_eq_some_iff.1 hj).1; omega
    rw [List.getElem?_take_of_lt hjk] at hj
    obtain ⟨r, hr⟩ : ∃ r, rs4[j]? = some r := ⟨_, List.getElem?_eq_getElem (by omega)⟩
    rw [xss_at hr] at hj
    injection hj with hj
    rw [← hj]
    exact hlow2 j r hjk hr
  have hgood : ∀ (q : Nat) (r : Rw), q < 3 → ((k + q : Nat) : Int) ∉ bad → rs4[k + q]? = some r → r.xs.length = n := fun q r hq hb hr => by
    rw [hpar q hq hb] at hr
    obtain ⟨r1, hr1, _, _, h5, _⟩ := hH.back hr
    have h6 := hreal (k + q) r1 hr1 (by omega) (fun h => hb h.2)
    rw [h5, h6]
  refine ⟨by rw [xss_len]; exact hlen, fun x hx => ?_, fun j hj hb => ?_, fun q hq hc => ?_⟩
  · obtain ⟨j, hj⟩ := List.getElem?_of_mem hx
    have hjl : j < k + 3 := by have := (List.getElem?_eq_some_iff.1 hj).1; rw [xss_len] at this; omega
    obtain ⟨r, hr⟩ : ∃ r, rs4[j]? = some r := ⟨_, List.getElem?_eq_getElem (by omega)⟩
    rw [xss_at hr] at hj
    injection hj with hj
    rw [← hj]
    rcases Nat.lt_or_ge j k with h1 | h1
    · exact hlow2 j r h1 hr
    · have e : j = k + (j - k) := by omega
      by_cases hb : (j : Int) ∈ bad
      · obtain ⟨r', h2, h3⟩ := hbad (j - k) (by omega) (by rw [← e]; exact hb)
        rw [← e, hr] at h2
        injection h2 with h2
        rw [h2, h3]
        exact prow_len hta (by omega)
      · exact hgood (j - k) r (by omega) (by rw [← e]; exact hb) (by rw [← e]; exact hr)
  · obtain ⟨r, hr⟩ : ∃ r, rs4[j]? = some r := ⟨_, List.getElem?_eq_getElem (by omega)⟩
    have h3 : rs3[j]? = some r := by
      rcases Nat.lt_or_ge j k with h1 | h1
      · rw [← hlow j h1]; exact hr
      · have e : j = k + (j - k) := by omega
        have h2 := hpar (j - k) (by omega) (by rw [← e]; exact hb)
        rw [← e] at h2
        rw [← h2]; exact hr
    obtain ⟨r1, hr1, _, _, _, h5⟩ := hH.back h3
    rw [xss_at hr, h5 (fun h => hb (lost_mem.1 h).2), hkeep j r1 hr1 hj hb]
  · by_cases hb : ((k + q : Nat) : Int) ∈ bad
    · obtain ⟨r, h2, h3⟩ := hbad q hq hb
      rw [xss_at h2, h3]
    · have hf : q ∈ fromL k bad := hc.resolve_left hb
      obtain ⟨r, hr⟩ : ∃ r, rs4[k + q]? = some r := ⟨_, List.getElem?_eq_getElem (by omega)⟩
      rw [xss_at hr]
      congr 1
      have hrl := hgood q r hq hb hr
      have hr3 : rs3[k + q]? = some r := by rw [← hpar q hq hb]; exact hr
      refine getD_ext (by rw [hrl, prow_len hta (by omega)]) (fun t ht => ?_)
      have h1 := hH.eqs t (by omega) q hf
      rw [fn_at1 (mx_at hr3)] at h1
      rw [← h1, List.getD_eq_getElem?_getD, prow_at hta (by omega) (by omega), px_sumF]
      refine sumF_cong (fun j hj => ?_)
      congr 1
      exact fn_opt (by rw [List.getElem?_take_of_lt hj, mx, List.getElem?_map, xss, List.getElem?_map, hlow j hj]) t
theorem rb_fin {cols : List (List UInt8)} {bad : List Int} {k n : Nat} {rs1 rs3 rs4 : List Rw} (hI : RI cols bad k n (k + 3) rs1) (hH : HealI rs1 rs3 k (lostL k bad) (fromL k bad) n) (hlen : rs4.length = k + 3) (hlow : ∀ j, j < k → rs4[j]? = rs3[j]?) (hpar : ∀ q, q < 3 → ((k + q : Nat) : Int) ∉ bad → rs4[k + q]? = rs3[k + q]?)
    (hbad : ∀ q, q < 3 → ((k + q : Nat) : Int) ∈ bad → ∃ r, rs4[k + q]? = some r ∧ r.xs = prow (wtq q) ((xss rs4).take k) n k) : RB cols bad k n (xss rs4) :=
  rb_fin2 (fun j r h1 h2 h3 => (hI.real j r h1 h2 h3).choose_spec.2) (fun j r h1 h2 h3 => hI.keep j r h1 h2 h3) hH hlen hlow hpar hbad
/-- the parities that are put in their places -/
structure FI (rs3 pw : List Rw) (bad : List Int) (k q : Nat) (rs4 : List Rw) : Prop where
  len : rs4.length = k + 3
  low : ∀ j, j < k → rs4[j]? = rs3[j]?
  par : ∀ q', q' < 3 → rs4[k + q']? = if q' < q ∧ ((k + q' : Nat) : Int) ∈ bad then pw[q']? else rs3[k + q']?
theorem FI.start {rs3 : List Rw} (pw : List Rw) (bad : List Int) {k : Nat} (h : rs3.length = k + 3) : FI rs3 pw bad k 0 rs3 := ⟨h, fun _ _ => rfl, fun q' _ => by rw [if_neg (by omega)]⟩
theorem FI.skip {rs3 pw rs4 : List Rw} {bad : List Int} {k q : Nat} (h : FI rs3 pw bad k q rs4) (hb : ((k + q : Nat) : Int) ∉ bad) : FI rs3 pw bad k (q + 1) rs4 := ⟨h.len, h.low, fun q' hq => by
  rw [h.par q' hq]
  by_cases e : q' = q
  · subst e
    rw [if_neg (fun h => hb h.2), if_neg (fun h => hb h.2)]
  · by_cases e2 : q' < q ∧ ((k + q' : Nat) : Int) ∈ bad
    · rw [if_pos e2, if_pos ⟨by omega, e2.2⟩]
    · rw [if_neg e2, if_neg (fun h => e2 ⟨by omega, h.2⟩)]⟩
theorem FI.put {rs3 pw rs4 : List Rw} {bad : List Int} {k q : Nat} {z : Rw} (h : FI rs3 pw bad k q rs4) (hb : ((k + q : Nat) : Int) ∈ bad) (hq : q < 3) (hz : pw[q]? = some z) : FI rs3 pw bad k (q + 1) (rs4.set (k + q) z) := ⟨by rw [List.length_set]; exact h.len, fun j hj => by rw [List.getElem?_set_ne (by omega)]; exact h.low j hj, fun q' hq' => by
  by_cases e : q' = q
  · subst e
    rw [List.getElem?_set_self (by rw [h.len]; omega), if_pos ⟨by omega, hb⟩, hz]
  · rw [List.getElem?_set_ne (by omega), h.par q' hq']
    by_cases e2 : q' < q ∧ ((k + q' : Nat) : Int) ∈ bad
    · rw [if_pos e2, if_pos ⟨by omega, e2.2⟩]
    · rw [if_neg e2, if_neg (fun h => e2 ⟨by omega, h.2⟩)]⟩
end Go.Proofs.Ytjdbjdgobhjbkaa
namespace Go.HL
open Go.RowKit
section
variable {L N n1 : Nat} {w w' : World} {T U : TypeId} {ao : Option Addr} {c : Nat} {gs : List Nat} {rs : List Rw} {M : Nat → Prop}
theorem AR.chg2 (h : AR L N n1 w T U ao c gs rs) (k : Chg M w w') (h0 : ∀ x, Eqb ao x → ¬ M x) (hd : ∀ g, g ∈ gs → ¬ M g) : AR L N n1 w' T U ao c gs rs :=
  ⟨(h.outer.eqb.chg k (fun b _ hs hm => h0 b hs.2 hm)).mono (fun _ e => e.1), fun i g r hg hr => by
    obtain ⟨h1, h2, h3, h4⟩ := h.inner i g r hg hr
    exact ⟨h1, h2.chg k (fun b _ hs hm => hd g (List.mem_of_getElem? hg) (by have h5 : b = g := hs; rwa [h5] at hm)), h3, h4⟩, h.len, h.apart, h.low⟩
theorem AR.lt (h : AR L N n1 w T U ao c gs rs) {g : Nat} (hg : g ∈ gs) : L ≤ g ∧ g < n1 := by
  obtain ⟨i, hi⟩ := List.getElem?_of_mem hg
  have hil := (List.getElem?_eq_some_iff.1 hi).1
  obtain ⟨r, hr⟩ : ∃ r, rs[i]? = some r := ⟨_, List.getElem?_eq_getElem (by rw [← h.len]; exact hil)⟩
  exact ⟨h.low i g hi, (h.inner i g r hi hr).2.2.1⟩
theorem AR.ato (h : AR L N n1 w T U ao c gs rs) {x : Nat} (e : Eqb ao x) : N ≤ x ∧ x < n1 := h.outer.at_.eqb e
theorem AR.at (h : AR L N n1 w T U ao c gs rs) {i : Nat} {r : Rw} (hr : rs[i]? = some r) : ∃ g, gs[i]? = some g ∧ r.ao = some ⟨g, 0, none⟩ ∧ Row (fun b => b = g) w U eb (some ⟨g, 0, none⟩) r.cap r.xs ∧ ¬ Eqb ao g := by
  have hil := (List.getElem?_eq_some_iff.1 hr).1
  obtain ⟨g, hg⟩ : ∃ g, gs[i]? = some g := ⟨_, List.getElem?_eq_getElem (by rw [h.len]; exact hil)⟩
  obtain ⟨h1, h2, _, h4⟩ := h.inner i g r hg hr
  exact ⟨g, hg, h1, h2, h4⟩
/-- where a row's new address is an old one, it is the old address -/
theorem Grow.old {S : Nat → Prop} {ao ao2 : Option Addr} (g : Grow S w ao w' ao2) {x : Nat} (hx : x < w.heap.size) (e : Eqb ao2 x) : Eqb ao x := by
  rcases g.fr with e1 | e1
  · rw [← e1]; exact e
  · have := e1.eqb e
    omega
end
/-! rows and bytes that are gathered side by side -/
structure GB (N : Nat) (w : World) (T TI : TypeId) (ar : Option Addr) (cr : Nat) (ms : List Rw) (af : Option Addr) (cf : Nat) (fs : List UInt8) : Prop where
  outer : Row (fun x => N ≤ x ∧ Eqb ar x) w T erow ar cr ms
  inner : ∀ r ∈ ms, RSl (fun x => N ≤ x ∧ ¬ Eqb ar x ∧ ¬ Eqb af x) w eb r.ao r.cap r.xs
  nums : Row (fun x => N ≤ x ∧ Eqb af x ∧ ¬ Eqb ar x) w TI eb af cf fs
section
variable {N : Nat} {w w' : World} {T TI : TypeId} {ar af : Option Addr} {cr cf : Nat} {ms : List Rw} {fs : List UInt8} {M : Nat → Prop}
theorem GB.nil (N : Nat) (w : World) (T TI : TypeId) : GB N w T TI none 0 [] none 0 [] := ⟨Row.nil _ _ _ _, (fun r hr => by cases hr), Row.nil _ _ _ _⟩
theorem GB.chg (h : GB N w T TI ar cr ms af cf fs) (k : Chg M w w') (hd : ∀ x, N ≤ x → x < w.heap.size → ¬ M x) : GB N w' T TI ar cr ms af cf fs :=
  ⟨h.outer.chg k (fun b hb e m => hd b e.1 hb m), fun r hr => (h.inner r hr).chg k (fun b hb e m => hd b e.1 hb m), h.nums.chg k (fun b hb e m => hd b e.1 hb m)⟩
theorem GB.pure (h : GB N w T TI ar cr ms af cf fs) (k : Chg Nob w w') : GB N w' T TI ar cr ms af cf fs := h.chg k (fun _ _ _ x => x)
theorem GB.bound (h : GB N w T TI ar cr ms af cf fs) : ∀ x, Eqb ar x ∨ Eqb af x → x < w.heap.size := by
  rintro x (h1 | h1)
  · exact (h.outer.lt.at_.eqb h1).2
  · exact (h.nums.lt.at_.eqb h1).2
theorem GB.rows (h : GB N w T TI ar cr ms af cf fs) : RS (fun x => N ≤ x) w ar cr ms := ⟨h.outer.rsl.mono (fun _ e => e.1), fun r hr => (h.inner r hr).mono (fun _ e => e.1)⟩
theorem GB.snocR (h : GB N w T TI ar cr ms af cf fs) {r : Rw} (hr : RSl (fun x => N ≤ x ∧ ¬ Eqb ar x ∧ ¬ Eqb af x) w eb r.ao r.cap r.xs) {ar2 : Option Addr} {c2 : Nat} (ho : Row (fun x => N ≤ x) w' T erow ar2 c2 (ms ++ [r])) (g : Grow (fun x => N ≤ x) w ar w' ar2) : GB N w' T TI ar2 c2 (ms ++ [r]) af cf fs := by
  refine ⟨ho.eqb, fun q hq => ?_, ?_⟩
  · have h1 : RSl (fun x => N ≤ x ∧ ¬ Eqb ar x ∧ ¬ Eqb af x) w eb q.ao q.cap q.xs := by
      rcases List.mem_append.1 hq with h1 | h1
      · exact h.inner q h1
      · rw [List.mem_singleton.1 h1]; exact hr
    exact (h1.lt.chg g.chg (fun b _ e m => e.1.2.1 m.1)).mono (fun b e => ⟨e.1.1, fun e2 => e.1.2.1 (g.old e.2 e2), e.1.2.2⟩)
  · exact (h.nums.lt.chg g.chg (fun b _ e m => e.1.2.2 m.1)).mono (fun b e => ⟨e.1.1, e.1.2.1, fun e2 => e.1.2.2 (g.old e.2 e2)⟩)
theorem GB.snocN (h : GB N w T TI ar cr ms af cf fs) {fs2 : List UInt8} {af2 : Option Addr} {c2 : Nat} (ho : Row (fun x => N ≤ x) w' TI eb af2 c2 fs2) (g : Grow (fun x => N ≤ x) w af w' af2) : GB N w' T TI ar cr ms af2 c2 fs2 := by
  have hdis : ∀ x, Eqb af x → ¬ Eqb ar x := fun x e => (h.nums.at_.eqb e).2.2
  refine ⟨h.outer.chg g.chg (fun b _ e m => hdis b m.1 e.2), fun r hr => ?_, ?_⟩
  · exact (((h.inner r hr).lt).chg g.chg (fun b _ e m => e.1.2.2 m.1)).mono (fun b e => ⟨e.1.1, e.1.2.1, fun e2 => e.1.2.2 (g.old e.2 e2)⟩)
  · refine ho.eqb.mono (fun b e => ⟨e.1, e.2, fun e2 => ?_⟩)
    have hlt := (h.outer.lt.at_.eqb e2).2
    exact hdis b (g.old hlt e.2) e2
end
/-! the document's columns at first: the bad ones are noughts -/
structure DR (cols : List (List UInt8)) (bad : List Int) (n i : Nat) (rs : List Rw) : Prop where
  len : rs.length = i
  at' : ∀ (j : Nat) (r : Rw), rs[j]? = some r → r.xs.length = n ∧ ((j : Int) ∉ bad → cols[j]? = some r.xs) ∧ ((j : Int) ∈ bad → r.xs = List.replicate n 0)
theorem DR.start (cols : List (List UInt8)) (bad : List Int) (n : Nat) : DR cols bad n 0 [] := ⟨rfl, fun j r h => by cases h⟩
theorem DR.snoc {cols : List (List UInt8)} {bad : List Int} {n i : Nat} {rs : List Rw} (h : DR cols bad n i rs) {r : Rw} (hl : r.xs.length = n) (h1 : (i : Int) ∉ bad → cols[i]? = some r.xs) (h2 : (i : Int) ∈ bad → r.xs = List.replicate n 0) : DR cols bad n (i + 1) (rs ++ [r]) := by
  refine ⟨by rw [List.length_append, h.len]; rfl, fun j s hs => ?_⟩
  rcases get_snoc hs with h3 | ⟨h3, h4⟩
  · exact h.at' j s h3
  · rw [h3, h.len, h4]
    exact ⟨hl, h1, h2⟩
theorem sumF_step0 {f : Nat → UInt8} {i : Nat} (h : f i = 0) : sumF (i + 1) f = sumF i f := by rw [sumF, h, xor_zero']
end Go.HL
namespace Go.Proofs.Ytjdbjdgobhjbkaa
open Go.RowKit Go.HL
/-! the parities that are put into their places -/
structure FJ (rs3 : List Rw) (bad : List Int) (k n q : Nat) (rs4 : List Rw) : Prop where
  len : rs4.length = k + 3
  low : ∀ j, j < k → rs4[j]? = rs3[j]?
  old : ∀ q', q' < 3 → ¬ (q' < q ∧ ((k + q' : Nat) : Int) ∈ bad) → rs4[k + q']? = rs3[k + q']?
  new : ∀ q', q' < q → ((k + q' : Nat) : Int) ∈ bad → ∃ r, rs4[k + q']? = some r ∧ r.xs = prow (wtq q') ((xss rs3).take k) n k
theorem FJ.start {rs3 : List Rw} (bad : List Int) {k : Nat} (n : Nat) (h : rs3.length = k + 3) : FJ rs3 bad k n 0 rs3 := ⟨h, fun _ _ => rfl, fun q' _ _ => rfl, fun q' h => absurd h (Nat.not_lt_zero _)⟩
theorem FJ.skip {rs3 rs4 : List Rw} {bad : List Int} {k n q : Nat} (h : FJ rs3 bad k n q rs4) (hb : ((k + q : Nat) : Int) ∉ bad) : FJ rs3 bad k n (q + 1) rs4 :=
  ⟨h.len, h.low, fun q' hq h1 => h.old q' hq (fun h2 => h1 ⟨by omega, h2.2⟩), fun q' hq h1 => h.new q' (by
    rcases Nat.lt_or_ge q' q with h2 | h2
    · exact h2
    · exfalso
      have e : q' = q := by omega
      subst e
      exact hb h1) h1⟩
theorem FJ.put {rs3 rs4 : List Rw} {bad : List Int} {k n q : Nat} {z : Rw} (h : FJ rs3 bad k n q rs4) (hq : q < 3) (hb : ((k + q : Nat) : Int) ∈ bad) (hz : z.xs = prow (wtq q) ((xss rs3).take k) n k) : FJ rs3 bad k n (q + 1) (rs4.set (k + q) z) :=
  ⟨by rw [List.length_set]; exact h.len, fun j hj => by rw [List.getElem?_set_ne (by omega)]; exact h.low j hj, fun q' hq' h1 => by
    have e : q' ≠ q := fun e => h1 (by subst e; exact ⟨by omega, hb⟩)
    rw [List.getElem?_set_ne (by omega)]
    exact h.old q' hq' (fun h2 => h1 ⟨by omega, h2.2⟩), fun q' hq' h1 => by
    by_cases e : q' = q
    · subst e
      exact ⟨z, by rw [List.getElem?_set_self (by rw [h.len]; omega)], hz⟩
    · rw [List.getElem?_set_ne (by omega)]
      exact h.new q' (by omega) h1⟩
end Go.Proofs.Ytjdbjdgobhjbkaa
namespace Go.HL
theorem cut_getD {xs : List UInt8} {k : Nat} (hk : k < xs.length) (j : Nat) : (xs.take k ++ xs.drop (k + 1)).getD j 0 = xs.getD (sk k j) 0 := by
  have e : (xs.take k ++ xs.drop (k + 1))[j]? = xs[sk k j]? := by
    rcases Nat.lt_or_ge j k with h | h
    · rw [sk_lt h, List.getElem?_append_left (by simp; omega), List.getElem?_take_of_lt h]
    · rw [sk_ge h, List.getElem?_append_right (by simp; omega), List.getElem?_drop, List.length_take]
      congr 1
      omega
  rw [List.getD_eq_getElem?_getD, e, ← List.getD_eq_getElem?_getD]
/-- by determinants: one solution, or more than 0 is sent to 0 -/
theorem det_sol {n : Nat} {M : Nat → Nat → UInt8} {r : Nat → UInt8} (hd : det n M ≠ 0) (z : Nat → UInt8) : (∀ i, i < n → sumF n (fun j => mul (M i j) (z j)) = r i) ↔ ∀ i, i < n → z i = mul (inv (det n M)) (det n (setc M i r)) := by
  have one : ∀ z : Nat → UInt8, (∀ i, i < n → sumF n (fun j => mul (M i j) (z j)) = r i) → ∀ i, i < n → z i = mul (inv (det n M)) (det n (setc M i r)) := fun z hz i hi => by
    rw [cramer hi hz, mul_comm (z i), mul_assoc, mul_comm (inv _), mul_inv hd, one_mul']
  refine ⟨one z, fun hz => ?_⟩
  rcases gauss n (fun i j => if j < n then M i j else r i) with ⟨x, hx⟩ | ⟨y, ⟨j, hj, hy⟩, hK⟩
  · have hx' : ∀ i, i < n → sumF n (fun j => mul (M i j) (x j)) = r i := fun i hi => by
      have h1 := hx i hi
      simp only [Nat.lt_irrefl, if_false] at h1
      rw [← h1]
      refine sumF_cong (fun j hj => ?_)
      rw [if_pos hj]
    have h2 := one x hx'
    intro i hi
    rw [← hx' i hi]
    exact sumF_cong (fun j hj => by rw [hz j hj, h2 j hj])
  · refine absurd (det_ker (M := M) (y := y) (fun i hi => ?_) hj hy) hd
    rw [← hK i hi]
    refine sumF_cong (fun j hj => ?_)
    show _ = mul (if j < n then M i j else _) (y j)
    rw [if_pos hj]
theorem det_miss {n : Nat} {M : Nat → Nat → UInt8} (hd : det n M = 0) : ∃ y : Nat → UInt8, (∃ j, j < n ∧ y j ≠ 0) ∧ Ker n n M y :=
  Classical.byContradiction fun h => det_inj (M := M) (fun y hy j hj => Classical.byContradiction fun h2 => h ⟨y, ⟨j, hj, h2⟩, hy⟩) hd
end Go.HL
namespace Go.Proofs.Ytjdbjdgobhjbkaa
open Go.RowKit Go.HL

theorem refInv_calls (a : UInt8) (w : World) : Calls Try.prog 26 [v8 a].toArray w (Ret fun v w' => v = .tuple #[v8 (inv a), vi (if a = 0 then 1 else 0)] ∧ Chg Nob w w') := by
  have hw := Chg.refl Nob w
  refine Calls.of_WC Try.func26 rfl Try.ntmps26 (by simp) ?_
  refine WC.seq (WC.region (WL.assign rfl rfl (WL.assign rfl rfl (WL.nil (WX.then_normal (WC.seq (WC.seq (?_))))))))
  refine WC.region (WL.assign rfl rfl (WL.nil (WX.then_normal (WC.block (?_)))))
  refine WC.loop (σ := Nat) (fun x => [(0, v8 a), (4, vi x)])
    (fun x w' => 1 ≤ x ∧ x ≤ 256 ∧ (∀ y : Nat, 1 ≤ y → y < x → mul a (UInt8.ofNat y) ≠ 1) ∧ Chg Nob w w') (fun x => 256 - x) 1 ⟨rfl, rfl, trivial⟩ ⟨Nat.le_refl _, by decide, fun y h1 h2 => absurd h2 (by omega), hw⟩ ?_
  clear hw
  rintro x w2 ⟨hx1, hx, hall, hw⟩
  refine WC.seq (WC.seq (WC.region (WL.move rfl rfl (?_))))
  refine WL.lss? rfl rfl rfl (fun h6 => ?_) (fun h6 => ?_)
  ·
    refine WL.nil (WX.then_normal (WC.cond_true rfl (WC.skip (WX.then_normal (WC.seq (WC.block (WC.seq (?_))))))))
    refine WC.region (WL.move rfl rfl (WL.move rfl rfl (?_)))
    refine WL.c_i64_u8 Try.underlying3 Try.underlying5 rfl rfl ?_
    rw [b8X (show x < 256 by omega)]
    refine WL.call eg_27 rfl rfl (refMul_calls a (UInt8.ofNat x) _) ?_
    rintro v w1 ⟨rfl, k⟩
    have zs_k := k.size
    replace hw := hw.pure k
    refine WL.eql? rfl rfl rfl (fun h13 => ?_) (fun h13 => ?_)
    ·
      refine WL.nil (WX.then_normal (WC.cond_true rfl (WC.seq (WC.region (WL.move rfl rfl (?_))))))
      refine WL.c_i64_u8 Try.underlying3 Try.underlying5 rfl rfl ?_
      rw [b8X (show x < 256 by omega)]
      refine WL.assign rfl rfl (WL.assign rfl rfl (WL.nil (WX.then_normal (WC.ret (WX.block_ret (WX.then_ret (WX.then_ret (?_))))))))
      refine WX.block_ret (WX.then_ret (?_))
      refine WX.ret2 (.inl rfl) Try.results26 rfl rfl ?_
      first
        | (have h1 : mul a (UInt8.ofNat x) = 1 := UInt8.toNat_inj.1 (Int.ofNat.inj h13)
           obtain ⟨h2, h3⟩ := inv_only h1
           refine ⟨_, rfl, ?_, hw⟩
           rw [h3, if_neg h2])
        | (have ha : a = 0 := Classical.byContradiction fun h => by
             have h1 : inv a ≠ 0 := fun e => by
               have h2 := mul_inv h
               rw [e, mul_zero_r] at h2
               exact absurd h2 (by decide)
             have h3 := (inv a).toNat_lt
             have h4 : (inv a).toNat ≠ 0 := fun e => h1 (UInt8.toNat_inj.1 e)
             exact hall (inv a).toNat (by omega) (by omega) (by rw [UInt8.ofNat_toNat]; exact mul_inv h)
           subst ha
           exact ⟨_, rfl, rfl, hw⟩)
    ·
      refine WL.nil (WX.then_normal (WC.cond_false rfl (WC.skip (WX.block_normal (WX.then_normal (WC.region (WL.move rfl rfl (?_))))))))
      refine WL.add64 rfl rfl (by first | omega | (constructor <;> omega)) rfl (WL.assign rfl rfl (WL.nil (?_)))
      refine WX.loop_next (x + 1) ⟨rfl, rfl, trivial⟩ ⟨by omega, by omega, fun y h1 h2 => ?_, hw⟩ (by show _ - _ < _ - _; omega)
      rcases Nat.lt_or_ge y x with h3 | h3
      ·
        exact hall y h1 h3
      ·
        rw [show y = x from by omega]
        exact fun e => h13 (by rw [e]; rfl)
  ·
    refine WL.nil (WX.then_normal (WC.cond_false rfl (WC.exit (WX.then_exit (WX.then_exit (WX.block_here (WX.then_normal (?_))))))))
    refine WC.seq (WC.region (WL.assign rfl rfl (WL.assign rfl rfl (WL.nil (WX.then_normal (WC.ret (?_)))))))
    refine WX.ret2 (.inl rfl) Try.results26 rfl rfl ?_
    first
      | (have h1 : mul a (UInt8.ofNat x) = 1 := UInt8.toNat_inj.1 (Int.ofNat.inj h13)
         obtain ⟨h2, h3⟩ := inv_only h1
         refine ⟨_, rfl, ?_, hw⟩
         rw [h3, if_neg h2])
      | (have ha : a = 0 := Classical.byContradiction fun h => by
           have h1 : inv a ≠ 0 := fun e => by
             have h2 := mul_inv h
             rw [e, mul_zero_r] at h2
             exact absurd h2 (by decide)
           have h3 := (inv a).toNat_lt
           have h4 : (inv a).toNat ≠ 0 := fun e => h1 (UInt8.toNat_inj.1 e)
           exact hall (inv a).toNat (by omega) (by omega) (by rw [UInt8.ofNat_toNat]; exact mul_inv h)
         subst ha
         exact ⟨_, rfl, rfl, hw⟩)
theorem Right_calls {S : Nat → Prop} {w : World} {c cr : Nat} {ao ar : Option Addr} {rs : List Rw} {rgt : List UInt8} (h : RS S w ao c rs) (hl1 : rs.length ≤ 9223372036854775807) :
    Calls Try.prog 24 [.slice ao rs.length c, .slice ar rgt.length cr].toArray w (Ret fun v w' => (∃ b : Bool, v = .bool b ∧ (b = true ↔ ShapeOk (mx rs) rgt)) ∧ Chg Nob w w') := by
  have hw := Chg.refl Nob w
  have hml := mx_len rs
  refine Calls.of_WC Try.func24 rfl Try.ntmps24 (by simp) ?_
  refine WC.seq (WC.region (WL.assign rfl rfl (WL.nil (WX.then_normal (WC.seq (WC.region (WL.move rfl rfl (?_))))))))
  refine WL.len Try.underlying22 rfl rfl (WL.assign rfl rfl (WL.nil (WX.then_normal (WC.seq (WC.seq (WC.region (WL.move rfl rfl (?_))))))))
  refine WL.lss? rfl rfl rfl (fun h10 => ?_) (fun h10 => ?_)
  ·
    refine WL.move rfl rfl (WL.pass rfl rfl rfl rfl (WL.pass rfl rfl rfl rfl (WL.pickT rfl rfl rfl (WL.move rfl rfl (WL.pass rfl rfl rfl rfl (WL.pass rfl rfl rfl rfl (WL.pass rfl rfl rfl rfl (?_))))))))
    refine WL.pass rfl rfl rfl rfl (WL.pickT rfl rfl rfl (WL.nil (WX.then_normal (WC.cond_true rfl (WC.seq (WC.region (WL.assign rfl rfl (?_))))))))
    refine WL.nil (WX.then_normal (WC.ret (WX.then_ret (?_))))
    refine WX.ret1 (.inl rfl) Try.results24 rfl ?_
    first
      | (refine ⟨_, rfl, ⟨false, rfl, (fun h => by cases h), fun hs => ?_⟩, hw⟩
         have hs1 := hs.1
         have hs2 := hs.2.1
         rw [hml] at hs1 hs2
         exfalso
         omega)
      | (refine ⟨_, rfl, ⟨false, rfl, (fun h => by cases h), fun hs => ?_⟩, hw⟩
         have hs3 := hs.2.2 r.xs (List.mem_map.2 ⟨r, List.mem_of_getElem? hri, rfl⟩)
         rw [hml] at hs3
         exfalso
         omega)
      | (refine ⟨_, rfl, ⟨true, rfl, fun _ => ⟨by rw [hml]; omega, by rw [hml]; omega, fun z hz => ?_⟩, fun _ => rfl⟩, hw⟩
         obtain ⟨j, hj, rfl⟩ := List.getElem_of_mem hz
         have hj2 : j < rs.length := by rw [← hml]; exact hj
         rw [hml, ← hall j _ (by omega) (List.getElem?_eq_getElem hj2)]
         simp [mx])
  ·
    refine WL.move rfl rfl (WL.want rfl rfl rfl (WL.move rfl rfl (WL.want rfl rfl rfl (?_))))
    refine WL.gtr? rfl rfl rfl (fun h13 => ?_) (fun h13 => ?_)
    ·
      refine WL.pickF rfl rfl rfl (WL.move rfl rfl (WL.pass rfl rfl rfl rfl (WL.pass rfl rfl rfl rfl (WL.pass rfl rfl rfl rfl (WL.pass rfl rfl rfl rfl (WL.pickT rfl rfl rfl (WL.nil (?_))))))))
      refine WX.then_normal (WC.cond_true rfl (WC.seq (WC.region (WL.assign rfl rfl (WL.nil (WX.then_normal (WC.ret (?_))))))))
      refine WX.then_ret (?_)
      refine WX.ret1 (.inl rfl) Try.results24 rfl ?_
      first
        | (refine ⟨_, rfl, ⟨false, rfl, (fun h => by cases h), fun hs => ?_⟩, hw⟩
           have hs1 := hs.1
           have hs2 := hs.2.1
           rw [hml] at hs1 hs2
           exfalso
           omega)
        | (refine ⟨_, rfl, ⟨false, rfl, (fun h => by cases h), fun hs => ?_⟩, hw⟩
           have hs3 := hs.2.2 r.xs (List.mem_map.2 ⟨r, List.mem_of_getElem? hri, rfl⟩)
           rw [hml] at hs3
           exfalso
           omega)
        | (refine ⟨_, rfl, ⟨true, rfl, fun _ => ⟨by rw [hml]; omega, by rw [hml]; omega, fun z hz => ?_⟩, fun _ => rfl⟩, hw⟩
           obtain ⟨j, hj, rfl⟩ := List.getElem_of_mem hz
           have hj2 : j < rs.length := by rw [← hml]; exact hj
           rw [hml, ← hall j _ (by omega) (List.getElem?_eq_getElem hj2)]
           simp [mx])
    ·
      refine WL.pickF rfl rfl rfl (WL.move rfl rfl (WL.want rfl rfl rfl (WL.move rfl rfl (WL.want rfl rfl rfl (WL.len Try.underlying23 rfl rfl (WL.want rfl rfl rfl (WL.move rfl rfl (?_))))))))
      refine WL.want rfl rfl rfl (?_)
      refine WL.neq? rfl rfl rfl (fun h19 => ?_) (fun h19 => ?_)
      ·
        refine WL.pickF rfl rfl rfl (WL.nil (WX.then_normal (WC.cond_true rfl (WC.seq (WC.region (WL.assign rfl rfl (WL.nil (?_))))))))
        refine WX.then_normal (WC.ret (WX.then_ret (?_)))
        refine WX.ret1 (.inl rfl) Try.results24 rfl ?_
        first
          | (refine ⟨_, rfl, ⟨false, rfl, (fun h => by cases h), fun hs => ?_⟩, hw⟩
             have hs1 := hs.1
             have hs2 := hs.2.1
             rw [hml] at hs1 hs2
             exfalso
             omega)
          | (refine ⟨_, rfl, ⟨false, rfl, (fun h => by cases h), fun hs => ?_⟩, hw⟩
             have hs3 := hs.2.2 r.xs (List.mem_map.2 ⟨r, List.mem_of_getElem? hri, rfl⟩)
             rw [hml] at hs3
             exfalso
             omega)
          | (refine ⟨_, rfl, ⟨true, rfl, fun _ => ⟨by rw [hml]; omega, by rw [hml]; omega, fun z hz => ?_⟩, fun _ => rfl⟩, hw⟩
             obtain ⟨j, hj, rfl⟩ := List.getElem_of_mem hz
             have hj2 : j < rs.length := by rw [← hml]; exact hj
             rw [hml, ← hall j _ (by omega) (List.getElem?_eq_getElem hj2)]
             simp [mx])
      ·
        refine WL.pickF rfl rfl rfl (WL.nil (WX.then_normal (WC.cond_false rfl (WC.skip (WX.then_normal (WC.seq (WC.seq (?_))))))))
        refine WC.region (WL.assign rfl rfl (WL.nil (WX.then_normal (WC.block (?_)))))
        refine WC.loop (σ := Nat) (fun i => [(0, .slice ao rs.length c), (5, vi rs.length), (6, vi (i : Int))]) (fun i w' => i ≤ rs.length ∧ (∀ j r, j < i → rs[j]? = some r → r.xs.length = rs.length) ∧ RS S w' ao c rs ∧ Chg Nob w w') (fun i => rs.length - i) 0 ⟨rfl, rfl, rfl, trivial⟩ ⟨Nat.zero_le _, fun j r hj => absurd hj (Nat.not_lt_zero j), h, hw⟩ ?_
        clear h hw
        rintro i w1 ⟨hi, hall, h, hw⟩
        refine WC.seq (WC.seq (WC.region (WL.move rfl rfl (WL.move rfl rfl (?_)))))
        refine WL.lss? rfl rfl rfl (fun h23 => ?_) (fun h23 => ?_)
        ·
          refine WL.nil (WX.then_normal (WC.cond_true rfl (WC.skip (WX.then_normal (WC.seq (WC.block (WC.seq (?_))))))))
          refine WC.region (WL.move rfl rfl (WL.move rfl rfl (?_)))
          obtain ⟨r, hri⟩ : ∃ r, rs[i]? = some r := ⟨_, List.getElem?_eq_getElem (by omega)⟩
          refine WL.indexT (e := erow) Try.underlying22 Try.sizeOf23 h.outer rfl rfl ⟨hri, rfl⟩ rfl ?_
          intro bb oo hcc
          refine WL.load Try.isAgg23 rfl (hcc 0 _ rfl) rfl ?_
          refine WL.len Try.underlying23 rfl rfl (WL.move rfl rfl (?_))
          refine WL.neq? rfl rfl rfl (fun h32 => ?_) (fun h32 => ?_)
          ·
            refine WL.nil (WX.then_normal (WC.cond_true rfl (WC.seq (WC.region (WL.assign rfl rfl (WL.nil (WX.then_normal (?_))))))))
            refine WC.ret (WX.block_ret (WX.then_ret (WX.then_ret (WX.block_ret (WX.then_ret (?_))))))
            refine WX.ret1 (.inl rfl) Try.results24 rfl ?_
            first
              | (refine ⟨_, rfl, ⟨false, rfl, (fun h => by cases h), fun hs => ?_⟩, hw⟩
                 have hs1 := hs.1
                 have hs2 := hs.2.1
                 rw [hml] at hs1 hs2
                 exfalso
                 omega)
              | (refine ⟨_, rfl, ⟨false, rfl, (fun h => by cases h), fun hs => ?_⟩, hw⟩
                 have hs3 := hs.2.2 r.xs (List.mem_map.2 ⟨r, List.mem_of_getElem? hri, rfl⟩)
                 rw [hml] at hs3
                 exfalso
                 omega)
              | (refine ⟨_, rfl, ⟨true, rfl, fun _ => ⟨by rw [hml]; omega, by rw [hml]; omega, fun z hz => ?_⟩, fun _ => rfl⟩, hw⟩
                 obtain ⟨j, hj, rfl⟩ := List.getElem_of_mem hz
                 have hj2 : j < rs.length := by rw [← hml]; exact hj
                 rw [hml, ← hall j _ (by omega) (List.getElem?_eq_getElem hj2)]
                 simp [mx])
          ·
            refine WL.nil (WX.then_normal (WC.cond_false rfl (WC.skip (WX.block_normal (WX.then_normal (WC.region (WL.move rfl rfl (?_))))))))
            refine WL.add64 rfl rfl (by first | omega | (constructor <;> omega)) rfl (WL.assign rfl rfl (WL.nil (?_)))
            refine WX.loop_next (i + 1) ⟨rfl, rfl, rfl, trivial⟩ ⟨by omega, fun j r' hj hr' => ?_, h, hw⟩ (by omega)
            rcases Nat.lt_or_ge j i with h1 | h1
            ·
              exact hall j r' h1 hr'
            ·
              rw [show j = i by omega, hri] at hr'
              injection hr' with hr'
              rw [← hr']
              omega
        ·
          refine WL.nil (WX.then_normal (WC.cond_false rfl (WC.exit (WX.then_exit (WX.then_exit (WX.block_here (WX.then_normal (?_))))))))
          refine WC.seq (WC.region (WL.assign rfl rfl (WL.nil (WX.then_normal (WC.ret (?_))))))
          refine WX.ret1 (.inl rfl) Try.results24 rfl ?_
          first
            | (refine ⟨_, rfl, ⟨false, rfl, (fun h => by cases h), fun hs => ?_⟩, hw⟩
               have hs1 := hs.1
               have hs2 := hs.2.1
               rw [hml] at hs1 hs2
               exfalso
               omega)
            | (refine ⟨_, rfl, ⟨false, rfl, (fun h => by cases h), fun hs => ?_⟩, hw⟩
               have hs3 := hs.2.2 r.xs (List.mem_map.2 ⟨r, List.mem_of_getElem? hri, rfl⟩)
               rw [hml] at hs3
               exfalso
               omega)
            | (refine ⟨_, rfl, ⟨true, rfl, fun _ => ⟨by rw [hml]; omega, by rw [hml]; omega, fun z hz => ?_⟩, fun _ => rfl⟩, hw⟩
               obtain ⟨j, hj, rfl⟩ := List.getElem_of_mem hz
               have hj2 : j < rs.length := by rw [← hml]; exact hj
               rw [hml, ← hall j _ (by omega) (List.getElem?_eq_getElem hj2)]
               simp [mx])
set_option maxHeartbeats 8000000 in
theorem Det_calls : ∀ (n : Nat) {S : Nat → Prop} {w : World} {c : Nat} {ao : Option Addr} {rs : List Rw}, rs.length = n → n ≤ 8 → (∀ r ∈ rs, r.xs.length = n) → RS S w ao c rs →
    Calls Try.prog 25 [.slice ao rs.length c].toArray w (Ret fun v w' => v = v8 (det n (fn (mx rs))) ∧ Chg Nob w w') := by
  intro n
  induction n using Nat.strongRecOn with
  | _ n ih =>
  intro S w c ao rs hn hn8 hrl h
  have hw := Chg.refl Nob w
  replace h := h.old
  refine Calls.of_WC Try.func25 rfl Try.ntmps25 (by simp) ?_
  refine WC.seq (WC.region (WL.assign rfl rfl (WL.nil (WX.then_normal (WC.seq (WC.seq (WC.region (?_))))))))
  refine WL.move rfl rfl (WL.len Try.underlying22 rfl rfl (?_))
  refine WL.eql? rfl rfl rfl (fun h9 => ?_) (fun h9 => ?_)
  ·
    refine WL.nil (WX.then_normal (WC.cond_true rfl (WC.seq (WC.region (WL.assign rfl rfl (WL.nil (WX.then_normal (?_))))))))
    refine WC.ret (WX.then_ret (?_))
    refine WX.ret1 (.inl rfl) Try.results25 rfl ?_
    first
      | (have h0 : n = 0 := by omega
         subst h0
         exact ⟨_, rfl, rfl, hw⟩)
      | (have hkm : k = m + 1 := by omega
         subst hkm
         refine ⟨_, rfl, ?_, hw⟩
         rw [det, hD])
  ·
    refine WL.nil (WX.then_normal (WC.cond_false rfl (WC.skip (WX.then_normal (WC.seq (WC.region (WL.assign rfl rfl (?_))))))))
    refine WL.nil (WX.then_normal (WC.seq (WC.seq (WC.region (WL.assign rfl rfl (WL.nil (WX.then_normal (?_))))))))
    refine WC.block (?_)
    obtain ⟨m, rfl⟩ : ∃ m, n = m + 1 := ⟨n - 1, by omega⟩
    obtain ⟨D, hD⟩ : ∃ D : Nat → UInt8, D = fun k => mul (fn (mx rs) 0 k) (det m (minor (fn (mx rs)) k)) := ⟨_, rfl⟩
    refine WC.loop (σ := Nat) (fun k => [(0, .slice ao rs.length c), (3, v8 (sumF k D)), (4, vi (k : Int))]) (fun k w' => k ≤ m + 1 ∧ RS (· < w.heap.size) w' ao c rs ∧ Chg Nob w w') (fun k => m + 1 - k) 0 ⟨rfl, rfl, rfl, trivial⟩ ⟨Nat.zero_le _, h, hw⟩ ?_
    clear h hw
    rintro k w1 ⟨hk, h, hw⟩
    refine WC.seq (WC.seq (WC.region (WL.move rfl rfl (WL.move rfl rfl (WL.len Try.underlying22 rfl rfl (?_))))))
    refine WL.lss? rfl rfl rfl (fun h13 => ?_) (fun h13 => ?_)
    ·
      refine WL.nil (WX.then_normal (WC.cond_true rfl (WC.skip (WX.then_normal (WC.seq (WC.block (WC.seq (?_))))))))
      refine WC.seq (WC.region (WL.move rfl rfl (?_)))
      obtain ⟨r0, hr0⟩ : ∃ r, rs[0]? = some r := ⟨_, List.getElem?_eq_getElem (by omega)⟩
      have hr0l := hrl r0 (List.mem_of_getElem? hr0)
      obtain ⟨x, hx⟩ : ∃ x, r0.xs[k]? = some x := ⟨_, List.getElem?_eq_getElem (by omega)⟩
      have hfx : fn (mx rs) 0 k = x := by rw [fn_mx hr0, List.getD_eq_getElem?_getD, hx]; rfl
      refine WL.indexT (e := erow) (j := 0) Try.underlying22 Try.sizeOf23 h.outer rfl rfl ⟨hr0, rfl⟩ rfl ?_
      intro bb oo hcc
      refine WL.load Try.isAgg23 rfl (hcc 0 _ rfl) rfl ?_
      refine WL.move rfl rfl (?_)
      refine WL.indexT (e := eb) Try.underlying23 Try.sizeOf5 (h.at hr0) rfl rfl ⟨hx, rfl⟩ rfl ?_
      intro bb2 oo2 hcc2
      refine WL.load Try.isAgg5 rfl (hcc2 0 _ rfl) rfl ?_
      refine WL.eql? rfl rfl rfl (fun h22 => ?_) (fun h22 => ?_)
      ·
        refine WL.nil (WX.then_normal (WC.cond_true rfl (WC.exit (WX.then_exit (WX.block_here (WX.then_normal (WC.region (?_))))))))
        refine WL.move rfl rfl (WL.add64 rfl rfl (by first | omega | (constructor <;> omega)) rfl (WL.assign rfl rfl (WL.nil (?_))))
        first
          | exact WX.loop_next (i + 1, a15, c15, _, ms ++ [⟨a14, c14, r.xs.take k ++ r.xs.drop (k + 1)⟩]) ⟨rfl, rfl, rfl, rfl, rfl, trivial⟩ ⟨by show i + 1 ≤ m; omega, ⟨by show (ms ++ [_]).length = _; simp [hmsl], fun j r' z hr' hz => (by
              rcases get_snoc hz with h1 | ⟨h1, h2⟩
              ·
                exact hms j r' z hr' h1
              ·
                subst h2
                rw [h1, hmsl, hri] at hr'
                injection hr' with hr'
                rw [← hr'])⟩, hC15, ⟨hz15, by show w15.heap.size ≤ _; omega⟩, h, hw⟩ (by show m - (i + 1) < m - i; omega)
          | (have hx0 : x = 0 := u8_zero h22
             exact WX.loop_next (k + 1) ⟨rfl, by rw [sumF, show D k = 0 by rw [hD]; show mul (fn (mx rs) 0 k) _ = 0; rw [hfx, hx0, mul_zero_l], xor_zero']; rfl, rfl, trivial⟩ ⟨by omega, h, hw⟩ (by omega))
          | exact WX.loop_next (k + 1) ⟨rfl, by rw [sumF, show D k = mul x (det i (minor (fn (mx rs)) k)) by rw [hD, ← hfx]]; rfl, rfl, trivial⟩ ⟨by omega, h, hw⟩ (by omega)
      ·
        refine WL.nil (WX.then_normal (WC.cond_false rfl (WC.skip (WX.then_normal (WC.seq (WC.region (WL.assign rfl rfl (?_))))))))
        refine WL.nil (WX.then_normal (WC.seq (WC.seq (WC.region (WL.assign rfl rfl (WL.nil (WX.then_normal (?_))))))))
        refine WC.block (?_)
        have zw1 := hw.size
        refine WC.loop (σ := Nat × (Option Addr × Nat × Nat × List Rw)) (fun q => [(0, .slice ao rs.length c), (3, v8 (sumF k D)), (4, vi (k : Int)), (5, .slice q.2.1 q.2.2.2.2.length q.2.2.1), (6, vi ((q.1 : Int) + 1))])
          (fun q w' => q.1 ≤ m ∧ (q.2.2.2.2.length = q.1 ∧ ∀ j r z, rs[j + 1]? = some r → q.2.2.2.2[j]? = some z → z.xs = r.xs.take k ++ r.xs.drop (k + 1)) ∧ CR w.heap.size q.2.2.2.1 w' 23 q.2.1 q.2.2.1 q.2.2.2.2 ∧ (w.heap.size ≤ q.2.2.2.1 ∧ q.2.2.2.1 ≤ w'.heap.size) ∧ RS (· < w.heap.size) w' ao c rs ∧ Chg Nob w w') (fun q => m - q.1) (0, none, 0, w.heap.size, []) ⟨rfl, rfl, rfl, rfl, rfl, trivial⟩ ⟨Nat.zero_le _, ⟨rfl, fun j r z _ hz => by simp at hz⟩, CR.nil _ _ _ _, ⟨Nat.le_refl _, zw1⟩, h, hw⟩ ?_
        clear h hw
        rintro ⟨i, am, cm, n1, ms⟩ w2 ⟨hi, ⟨hmsl, hms⟩, hC, ⟨hwn, hn1⟩, h, hw⟩
        simp only at hi hmsl hms hC hwn hn1
        dsimp only
        refine WC.seq (WC.seq (WC.region (WL.move rfl rfl (WL.move rfl rfl (WL.len Try.underlying22 rfl rfl (?_))))))
        refine WL.lss? rfl rfl rfl (fun h26 => ?_) (fun h26 => ?_)
        ·
          refine WL.nil (WX.then_normal (WC.cond_true rfl (WC.skip (WX.then_normal (WC.seq (WC.block (?_)))))))
          obtain ⟨r, hri⟩ : ∃ r, rs[i + 1]? = some r := ⟨_, List.getElem?_eq_getElem (by omega)⟩
          have hril := hrl r (List.mem_of_getElem? hri)
          obtain ⟨ob, oo3, ho⟩ := h.outer.place hri
          have e8 : (r.xs.take k).drop 0 = r.xs.take k := List.drop_zero
          have e13 : (r.xs.take r.xs.length).drop (k + 1) = r.xs.drop (k + 1) := by rw [List.take_length]
          have hrow := h.at hri
          have h8 := hrow.cut 0 k ⟨Nat.zero_le _, by omega⟩
          have h13 := hrow.cut (k + 1) r.xs.length ⟨by omega, Nat.le_refl _⟩
          rw [e8] at h8
          rw [e13] at h13
          have hl8 : (r.xs.take k).length ≤ 1000 := by simp; omega
          have hl13 : (r.xs.drop (k + 1)).length ≤ 1000 := by simp; omega
          refine WC.draw ((fun x => w.heap.size ≤ x)) [0, 2, 3, 4, 5, 6, 7, 9, 10, 11, 12, 13, 14, 15] [1, 8, 16, 17, 18, 19] mixed rfl rfl (fun wd_1 kd_1 zd_1 => ?_)
          have zs_kd_1 := kd_1.size
          replace hC := hC.pure kd_1
          replace h := h.pure kd_1
          replace hw := hw.pure kd_1
          replace hrow := hrow.pure kd_1
          replace h8 := h8.pure kd_1
          replace h13 := h13.pure kd_1
          apply DQ.step (E' := [(5, _)])
          case ho => rfl
          case hs => exact ⟨rfl, trivial⟩
          case hk => rfl
          case h1 =>
            intro wq_3 kq_3
            refine WL.move rfl rfl (?_)
            refine WL.nil ?_
            exact WX.one ⟨rfl, by first | exact Chg.refl _ _ | assumption⟩
          apply DQ.step (E' := [(0, _)])
          case ho => rfl
          case hs => exact ⟨rfl, trivial⟩
          case hk => rfl
          case h1 =>
            intro wq_4 kq_4
            refine WL.move rfl rfl (?_)
            refine WL.nil ?_
            exact WX.one ⟨rfl, by first | exact Chg.refl _ _ | assumption⟩
          apply DQ.step (E' := [(6, _)])
          case ho => rfl
          case hs => exact ⟨rfl, trivial⟩
          case hk => rfl
          case h1 =>
            intro wq_5 kq_5
            refine WL.move rfl rfl (?_)
            refine WL.nil ?_
            exact WX.one ⟨rfl, by first | exact Chg.refl _ _ | assumption⟩
          apply DQ.step (E' := [(31, _), (32, _)])
          case ho => rfl
          case hs => exact ⟨rfl, rfl, trivial⟩
          case hk => rfl
          case h1 =>
            intro wq_6 kq_6
            have zs_kq_6 := kq_6.size
            replace h := h.chg kq_6 (by first | (intro x h1 h2; exact h2) | (intro x h1 h2; have h3 : _ = _ := h2; exfalso; omega) | (intro b h1 h2 h3; have h4 : _ = _ := h3; (try dsimp only at h2); exfalso; omega) | (intro h1; have h2 : _ = _ := h1; exfalso; omega) | (intros; exfalso; (try dsimp only at *); omega) | (intro b h1 h2 h3; exfalso; have h4 := h3.2; (try dsimp only at *); omega) | (intro h1; exfalso; have h4 := h1.2; (try dsimp only at *); omega))
            replace hw := hw.chg kq_6 (by first | (intro x h1 h2; exact h2) | (intro x h1 h2; have h3 : _ = _ := h2; exfalso; omega) | (intro b h1 h2 h3; have h4 : _ = _ := h3; (try dsimp only at h2); exfalso; omega) | (intro h1; have h2 : _ = _ := h1; exfalso; omega) | (intros; exfalso; (try dsimp only at *); omega) | (intro b h1 h2 h3; exfalso; have h4 := h3.2; (try dsimp only at *); omega) | (intro h1; exfalso; have h4 := h1.2; (try dsimp only at *); omega))
            replace hrow := hrow.chg kq_6 (by first | (intro x h1 h2; exact h2) | (intro x h1 h2; have h3 : _ = _ := h2; exfalso; omega) | (intro b h1 h2 h3; have h4 : _ = _ := h3; (try dsimp only at h2); exfalso; omega) | (intro h1; have h2 : _ = _ := h1; exfalso; omega) | (intros; exfalso; (try dsimp only at *); omega) | (intro b h1 h2 h3; exfalso; have h4 := h3.2; (try dsimp only at *); omega) | (intro h1; exfalso; have h4 := h1.2; (try dsimp only at *); omega))
            replace h8 := h8.chg kq_6 (by first | (intro x h1 h2; exact h2) | (intro x h1 h2; have h3 : _ = _ := h2; exfalso; omega) | (intro b h1 h2 h3; have h4 : _ = _ := h3; (try dsimp only at h2); exfalso; omega) | (intro h1; have h2 : _ = _ := h1; exfalso; omega) | (intros; exfalso; (try dsimp only at *); omega) | (intro b h1 h2 h3; exfalso; have h4 := h3.2; (try dsimp only at *); omega) | (intro h1; exfalso; have h4 := h1.2; (try dsimp only at *); omega))
            replace h13 := h13.chg kq_6 (by first | (intro x h1 h2; exact h2) | (intro x h1 h2; have h3 : _ = _ := h2; exfalso; omega) | (intro b h1 h2 h3; have h4 : _ = _ := h3; (try dsimp only at h2); exfalso; omega) | (intro h1; have h2 : _ = _ := h1; exfalso; omega) | (intros; exfalso; (try dsimp only at *); omega) | (intro b h1 h2 h3; exfalso; have h4 := h3.2; (try dsimp only at *); omega) | (intro h1; exfalso; have h4 := h1.2; (try dsimp only at *); omega))
            have hO := h.outer
            rw [ho] at hO
            refine WL.indexC (e := erow) hO Try.underlying22 Try.sizeOf23 (by show some (Value.slice ao _ _) = _; rw [ho]) rfl ⟨hri, by omega⟩ rfl ?_
            refine WL.nil ?_
            exact WX.one ⟨rfl, by first | exact Chg.refl _ _ | assumption⟩
          apply DQ.step (E' := [(33, _)])
          case ho => rfl
          case hs => exact ⟨rfl, trivial⟩
          case hk => rfl
          case h1 =>
            intro wq_7 kq_7
            have zs_kq_7 := kq_7.size
            replace h := h.chg kq_7 (by first | (intro x h1 h2; exact h2) | (intro x h1 h2; have h3 : _ = _ := h2; exfalso; omega) | (intro b h1 h2 h3; have h4 : _ = _ := h3; (try dsimp only at h2); exfalso; omega) | (intro h1; have h2 : _ = _ := h1; exfalso; omega) | (intros; exfalso; (try dsimp only at *); omega) | (intro b h1 h2 h3; exfalso; have h4 := h3.2; (try dsimp only at *); omega) | (intro h1; exfalso; have h4 := h1.2; (try dsimp only at *); omega))
            replace hw := hw.chg kq_7 (by first | (intro x h1 h2; exact h2) | (intro x h1 h2; have h3 : _ = _ := h2; exfalso; omega) | (intro b h1 h2 h3; have h4 : _ = _ := h3; (try dsimp only at h2); exfalso; omega) | (intro h1; have h2 : _ = _ := h1; exfalso; omega) | (intros; exfalso; (try dsimp only at *); omega) | (intro b h1 h2 h3; exfalso; have h4 := h3.2; (try dsimp only at *); omega) | (intro h1; exfalso; have h4 := h1.2; (try dsimp only at *); omega))
            replace hrow := hrow.chg kq_7 (by first | (intro x h1 h2; exact h2) | (intro x h1 h2; have h3 : _ = _ := h2; exfalso; omega) | (intro b h1 h2 h3; have h4 : _ = _ := h3; (try dsimp only at h2); exfalso; omega) | (intro h1; have h2 : _ = _ := h1; exfalso; omega) | (intros; exfalso; (try dsimp only at *); omega) | (intro b h1 h2 h3; exfalso; have h4 := h3.2; (try dsimp only at *); omega) | (intro h1; exfalso; have h4 := h1.2; (try dsimp only at *); omega))
            replace h8 := h8.chg kq_7 (by first | (intro x h1 h2; exact h2) | (intro x h1 h2; have h3 : _ = _ := h2; exfalso; omega) | (intro b h1 h2 h3; have h4 : _ = _ := h3; (try dsimp only at h2); exfalso; omega) | (intro h1; have h2 : _ = _ := h1; exfalso; omega) | (intros; exfalso; (try dsimp only at *); omega) | (intro b h1 h2 h3; exfalso; have h4 := h3.2; (try dsimp only at *); omega) | (intro h1; exfalso; have h4 := h1.2; (try dsimp only at *); omega))
            replace h13 := h13.chg kq_7 (by first | (intro x h1 h2; exact h2) | (intro x h1 h2; have h3 : _ = _ := h2; exfalso; omega) | (intro b h1 h2 h3; have h4 : _ = _ := h3; (try dsimp only at h2); exfalso; omega) | (intro h1; have h2 : _ = _ := h1; exfalso; omega) | (intros; exfalso; (try dsimp only at *); omega) | (intro b h1 h2 h3; exfalso; have h4 := h3.2; (try dsimp only at *); omega) | (intro h1; exfalso; have h4 := h1.2; (try dsimp only at *); omega))
            have hO := h.outer
            rw [ho] at hO
            refine WL.load Try.isAgg23 rfl ((hO.cellsAt hri) 0 _ rfl) rfl ?_
            refine WL.nil ?_
            exact WX.one ⟨rfl, by first | exact Chg.refl _ _ | assumption⟩
          apply DQ.step (E' := [(4, _)])
          case ho => rfl
          case hs => exact ⟨rfl, trivial⟩
          case hk => rfl
          case h1 =>
            intro wq_8 kq_8
            refine WL.move rfl rfl (?_)
            refine WL.nil ?_
            exact WX.one ⟨rfl, by first | exact Chg.refl _ _ | assumption⟩
          apply DQ.step (E' := [(34, _), (35, _)])
          case ho => rfl
          case hs => exact ⟨rfl, rfl, trivial⟩
          case hk => rfl
          case h1 =>
            intro wq_9 kq_9
            have zs_kq_9 := kq_9.size
            replace h := h.chg kq_9 (by first | (intro x h1 h2; exact h2) | (intro x h1 h2; have h3 : _ = _ := h2; exfalso; omega) | (intro b h1 h2 h3; have h4 : _ = _ := h3; (try dsimp only at h2); exfalso; omega) | (intro h1; have h2 : _ = _ := h1; exfalso; omega) | (intros; exfalso; (try dsimp only at *); omega) | (intro b h1 h2 h3; exfalso; have h4 := h3.2; (try dsimp only at *); omega) | (intro h1; exfalso; have h4 := h1.2; (try dsimp only at *); omega))
            replace hw := hw.chg kq_9 (by first | (intro x h1 h2; exact h2) | (intro x h1 h2; have h3 : _ = _ := h2; exfalso; omega) | (intro b h1 h2 h3; have h4 : _ = _ := h3; (try dsimp only at h2); exfalso; omega) | (intro h1; have h2 : _ = _ := h1; exfalso; omega) | (intros; exfalso; (try dsimp only at *); omega) | (intro b h1 h2 h3; exfalso; have h4 := h3.2; (try dsimp only at *); omega) | (intro h1; exfalso; have h4 := h1.2; (try dsimp only at *); omega))
            replace hrow := hrow.chg kq_9 (by first | (intro x h1 h2; exact h2) | (intro x h1 h2; have h3 : _ = _ := h2; exfalso; omega) | (intro b h1 h2 h3; have h4 : _ = _ := h3; (try dsimp only at h2); exfalso; omega) | (intro h1; have h2 : _ = _ := h1; exfalso; omega) | (intros; exfalso; (try dsimp only at *); omega) | (intro b h1 h2 h3; exfalso; have h4 := h3.2; (try dsimp only at *); omega) | (intro h1; exfalso; have h4 := h1.2; (try dsimp only at *); omega))
            replace h8 := h8.chg kq_9 (by first | (intro x h1 h2; exact h2) | (intro x h1 h2; have h3 : _ = _ := h2; exfalso; omega) | (intro b h1 h2 h3; have h4 : _ = _ := h3; (try dsimp only at h2); exfalso; omega) | (intro h1; have h2 : _ = _ := h1; exfalso; omega) | (intros; exfalso; (try dsimp only at *); omega) | (intro b h1 h2 h3; exfalso; have h4 := h3.2; (try dsimp only at *); omega) | (intro h1; exfalso; have h4 := h1.2; (try dsimp only at *); omega))
            replace h13 := h13.chg kq_9 (by first | (intro x h1 h2; exact h2) | (intro x h1 h2; have h3 : _ = _ := h2; exfalso; omega) | (intro b h1 h2 h3; have h4 : _ = _ := h3; (try dsimp only at h2); exfalso; omega) | (intro h1; have h2 : _ = _ := h1; exfalso; omega) | (intros; exfalso; (try dsimp only at *); omega) | (intro b h1 h2 h3; exfalso; have h4 := h3.2; (try dsimp only at *); omega) | (intro h1; exfalso; have h4 := h1.2; (try dsimp only at *); omega))
            refine WL.sliceC (l := 0) (h := k) (k := .i64) Try.underlying23 Try.sizeOf5 hrow rfl (.inr ⟨rfl, rfl⟩) (.inl rfl) (by constructor <;> omega) rfl ?_
            rw [e8]
            refine WL.nil ?_
            exact WX.one ⟨rfl, by first | exact Chg.refl _ _ | assumption⟩
          apply DQ.step (E' := [(0, _)])
          case ho => rfl
          case hs => exact ⟨rfl, trivial⟩
          case hk => rfl
          case h1 =>
            intro wq_10 kq_10
            refine WL.move rfl rfl (?_)
            refine WL.nil ?_
            exact WX.one ⟨rfl, by first | exact Chg.refl _ _ | assumption⟩
          apply DQ.step (E' := [(6, _)])
          case ho => rfl
          case hs => exact ⟨rfl, trivial⟩
          case hk => rfl
          case h1 =>
            intro wq_11 kq_11
            refine WL.move rfl rfl (?_)
            refine WL.nil ?_
            exact WX.one ⟨rfl, by first | exact Chg.refl _ _ | assumption⟩
          apply DQ.step (E' := [(38, _), (39, _)])
          case ho => rfl
          case hs => exact ⟨rfl, rfl, trivial⟩
          case hk => rfl
          case h1 =>
            intro wq_12 kq_12
            have zs_kq_12 := kq_12.size
            replace h := h.chg kq_12 (by first | (intro x h1 h2; exact h2) | (intro x h1 h2; have h3 : _ = _ := h2; exfalso; omega) | (intro b h1 h2 h3; have h4 : _ = _ := h3; (try dsimp only at h2); exfalso; omega) | (intro h1; have h2 : _ = _ := h1; exfalso; omega) | (intros; exfalso; (try dsimp only at *); omega) | (intro b h1 h2 h3; exfalso; have h4 := h3.2; (try dsimp only at *); omega) | (intro h1; exfalso; have h4 := h1.2; (try dsimp only at *); omega))
            replace hw := hw.chg kq_12 (by first | (intro x h1 h2; exact h2) | (intro x h1 h2; have h3 : _ = _ := h2; exfalso; omega) | (intro b h1 h2 h3; have h4 : _ = _ := h3; (try dsimp only at h2); exfalso; omega) | (intro h1; have h2 : _ = _ := h1; exfalso; omega) | (intros; exfalso; (try dsimp only at *); omega) | (intro b h1 h2 h3; exfalso; have h4 := h3.2; (try dsimp only at *); omega) | (intro h1; exfalso; have h4 := h1.2; (try dsimp only at *); omega))
            replace hrow := hrow.chg kq_12 (by first | (intro x h1 h2; exact h2) | (intro x h1 h2; have h3 : _ = _ := h2; exfalso; omega) | (intro b h1 h2 h3; have h4 : _ = _ := h3; (try dsimp only at h2); exfalso; omega) | (intro h1; have h2 : _ = _ := h1; exfalso; omega) | (intros; exfalso; (try dsimp only at *); omega) | (intro b h1 h2 h3; exfalso; have h4 := h3.2; (try dsimp only at *); omega) | (intro h1; exfalso; have h4 := h1.2; (try dsimp only at *); omega))
            replace h8 := h8.chg kq_12 (by first | (intro x h1 h2; exact h2) | (intro x h1 h2; have h3 : _ = _ := h2; exfalso; omega) | (intro b h1 h2 h3; have h4 : _ = _ := h3; (try dsimp only at h2); exfalso; omega) | (intro h1; have h2 : _ = _ := h1; exfalso; omega) | (intros; exfalso; (try dsimp only at *); omega) | (intro b h1 h2 h3; exfalso; have h4 := h3.2; (try dsimp only at *); omega) | (intro h1; exfalso; have h4 := h1.2; (try dsimp only at *); omega))
            replace h13 := h13.chg kq_12 (by first | (intro x h1 h2; exact h2) | (intro x h1 h2; have h3 : _ = _ := h2; exfalso; omega) | (intro b h1 h2 h3; have h4 : _ = _ := h3; (try dsimp only at h2); exfalso; omega) | (intro h1; have h2 : _ = _ := h1; exfalso; omega) | (intros; exfalso; (try dsimp only at *); omega) | (intro b h1 h2 h3; exfalso; have h4 := h3.2; (try dsimp only at *); omega) | (intro h1; exfalso; have h4 := h1.2; (try dsimp only at *); omega))
            have hO := h.outer
            rw [ho] at hO
            refine WL.indexC (e := erow) hO Try.underlying22 Try.sizeOf23 (by show some (Value.slice ao _ _) = _; rw [ho]) rfl ⟨hri, by omega⟩ rfl ?_
            refine WL.nil ?_
            exact WX.one ⟨rfl, by first | exact Chg.refl _ _ | assumption⟩
          apply DQ.step (E' := [(40, _)])
          case ho => rfl
          case hs => exact ⟨rfl, trivial⟩
          case hk => rfl
          case h1 =>
            intro wq_13 kq_13
            have zs_kq_13 := kq_13.size
            replace h := h.chg kq_13 (by first | (intro x h1 h2; exact h2) | (intro x h1 h2; have h3 : _ = _ := h2; exfalso; omega) | (intro b h1 h2 h3; have h4 : _ = _ := h3; (try dsimp only at h2); exfalso; omega) | (intro h1; have h2 : _ = _ := h1; exfalso; omega) | (intros; exfalso; (try dsimp only at *); omega) | (intro b h1 h2 h3; exfalso; have h4 := h3.2; (try dsimp only at *); omega) | (intro h1; exfalso; have h4 := h1.2; (try dsimp only at *); omega))
            replace hw := hw.chg kq_13 (by first | (intro x h1 h2; exact h2) | (intro x h1 h2; have h3 : _ = _ := h2; exfalso; omega) | (intro b h1 h2 h3; have h4 : _ = _ := h3; (try dsimp only at h2); exfalso; omega) | (intro h1; have h2 : _ = _ := h1; exfalso; omega) | (intros; exfalso; (try dsimp only at *); omega) | (intro b h1 h2 h3; exfalso; have h4 := h3.2; (try dsimp only at *); omega) | (intro h1; exfalso; have h4 := h1.2; (try dsimp only at *); omega))
            replace hrow := hrow.chg kq_13 (by first | (intro x h1 h2; exact h2) | (intro x h1 h2; have h3 : _ = _ := h2; exfalso; omega) | (intro b h1 h2 h3; have h4 : _ = _ := h3; (try dsimp only at h2); exfalso; omega) | (intro h1; have h2 : _ = _ := h1; exfalso; omega) | (intros; exfalso; (try dsimp only at *); omega) | (intro b h1 h2 h3; exfalso; have h4 := h3.2; (try dsimp only at *); omega) | (intro h1; exfalso; have h4 := h1.2; (try dsimp only at *); omega))
            replace h8 := h8.chg kq_13 (by first | (intro x h1 h2; exact h2) | (intro x h1 h2; have h3 : _ = _ := h2; exfalso; omega) | (intro b h1 h2 h3; have h4 : _ = _ := h3; (try dsimp only at h2); exfalso; omega) | (intro h1; have h2 : _ = _ := h1; exfalso; omega) | (intros; exfalso; (try dsimp only at *); omega) | (intro b h1 h2 h3; exfalso; have h4 := h3.2; (try dsimp only at *); omega) | (intro h1; exfalso; have h4 := h1.2; (try dsimp only at *); omega))
            replace h13 := h13.chg kq_13 (by first | (intro x h1 h2; exact h2) | (intro x h1 h2; have h3 : _ = _ := h2; exfalso; omega) | (intro b h1 h2 h3; have h4 : _ = _ := h3; (try dsimp only at h2); exfalso; omega) | (intro h1; have h2 : _ = _ := h1; exfalso; omega) | (intros; exfalso; (try dsimp only at *); omega) | (intro b h1 h2 h3; exfalso; have h4 := h3.2; (try dsimp only at *); omega) | (intro h1; exfalso; have h4 := h1.2; (try dsimp only at *); omega))
            have hO := h.outer
            rw [ho] at hO
            refine WL.load Try.isAgg23 rfl ((hO.cellsAt hri) 0 _ rfl) rfl ?_
            refine WL.nil ?_
            exact WX.one ⟨rfl, by first | exact Chg.refl _ _ | assumption⟩
          apply DQ.step (E' := [(4, _)])
          case ho => rfl
          case hs => exact ⟨rfl, trivial⟩
          case hk => rfl
          case h1 =>
            intro wq_14 kq_14
            refine WL.move rfl rfl (?_)
            refine WL.nil ?_
            exact WX.one ⟨rfl, by first | exact Chg.refl _ _ | assumption⟩
          apply DQ.step (E' := [(42, _)])
          case ho => rfl
          case hs => exact ⟨rfl, trivial⟩
          case hk => rfl
          case h1 =>
            intro wq_15 kq_15
            refine WL.add64 rfl rfl (by first | omega | (constructor <;> omega)) rfl (?_)
            refine WL.nil ?_
            exact WX.one ⟨rfl, by first | exact Chg.refl _ _ | assumption⟩
          apply DQ.step (E' := [(41, _), (43, _)])
          case ho => rfl
          case hs => exact ⟨rfl, rfl, trivial⟩
          case hk => rfl
          case h1 =>
            intro wq_16 kq_16
            have zs_kq_16 := kq_16.size
            replace h := h.chg kq_16 (by first | (intro x h1 h2; exact h2) | (intro x h1 h2; have h3 : _ = _ := h2; exfalso; omega) | (intro b h1 h2 h3; have h4 : _ = _ := h3; (try dsimp only at h2); exfalso; omega) | (intro h1; have h2 : _ = _ := h1; exfalso; omega) | (intros; exfalso; (try dsimp only at *); omega) | (intro b h1 h2 h3; exfalso; have h4 := h3.2; (try dsimp only at *); omega) | (intro h1; exfalso; have h4 := h1.2; (try dsimp only at *); omega))
            replace hw := hw.chg kq_16 (by first | (intro x h1 h2; exact h2) | (intro x h1 h2; have h3 : _ = _ := h2; exfalso; omega) | (intro b h1 h2 h3; have h4 : _ = _ := h3; (try dsimp only at h2); exfalso; omega) | (intro h1; have h2 : _ = _ := h1; exfalso; omega) | (intros; exfalso; (try dsimp only at *); omega) | (intro b h1 h2 h3; exfalso; have h4 := h3.2; (try dsimp only at *); omega) | (intro h1; exfalso; have h4 := h1.2; (try dsimp only at *); omega))
            replace hrow := hrow.chg kq_16 (by first | (intro x h1 h2; exact h2) | (intro x h1 h2; have h3 : _ = _ := h2; exfalso; omega) | (intro b h1 h2 h3; have h4 : _ = _ := h3; (try dsimp only at h2); exfalso; omega) | (intro h1; have h2 : _ = _ := h1; exfalso; omega) | (intros; exfalso; (try dsimp only at *); omega) | (intro b h1 h2 h3; exfalso; have h4 := h3.2; (try dsimp only at *); omega) | (intro h1; exfalso; have h4 := h1.2; (try dsimp only at *); omega))
            replace h8 := h8.chg kq_16 (by first | (intro x h1 h2; exact h2) | (intro x h1 h2; have h3 : _ = _ := h2; exfalso; omega) | (intro b h1 h2 h3; have h4 : _ = _ := h3; (try dsimp only at h2); exfalso; omega) | (intro h1; have h2 : _ = _ := h1; exfalso; omega) | (intros; exfalso; (try dsimp only at *); omega) | (intro b h1 h2 h3; exfalso; have h4 := h3.2; (try dsimp only at *); omega) | (intro h1; exfalso; have h4 := h1.2; (try dsimp only at *); omega))
            replace h13 := h13.chg kq_16 (by first | (intro x h1 h2; exact h2) | (intro x h1 h2; have h3 : _ = _ := h2; exfalso; omega) | (intro b h1 h2 h3; have h4 : _ = _ := h3; (try dsimp only at h2); exfalso; omega) | (intro h1; have h2 : _ = _ := h1; exfalso; omega) | (intros; exfalso; (try dsimp only at *); omega) | (intro b h1 h2 h3; exfalso; have h4 := h3.2; (try dsimp only at *); omega) | (intro h1; exfalso; have h4 := h1.2; (try dsimp only at *); omega))
            refine WL.sliceC (l := k + 1) (h := r.xs.length) (j := .i64) Try.underlying23 Try.sizeOf5 hrow rfl (.inl rfl) (.inr ⟨rfl, rfl⟩) (by constructor <;> omega) rfl ?_
            rw [e13]
            refine WL.nil ?_
            exact WX.one ⟨rfl, by first | exact Chg.refl _ _ | assumption⟩
          refine DQ.done (fun hd_2 => ?_)
          refine DL.step [] rfl trivial rfl (fun wq_17 kq_17 => ?_)
          have zs_kq_17 := kq_17.size
          replace hC := hC.pure kq_17
          replace h := h.pure kq_17
          replace hw := hw.pure kq_17
          replace hrow := hrow.pure kq_17
          replace h8 := h8.pure kq_17
          replace h13 := h13.pure kq_17
          replace hd_2 := hd_2.pure kq_17
          refine WL.build (e := eb) [] Try.underlying23 Try.sizeOf5 Try.zeroValue5 rfl rfl rfl (by first | (simp [Value.cells]; done) | (simp [Value.cells] <;> rfl) | (simp [Value.cells, eb, ei, es, ebool, e32, e64]; done)) (by decide) rfl ?_
          intro a_hq w_hq hq l_hq z_hq k_hq
          have zs_k_hq := k_hq.size
          replace hC := hC.pure k_hq
          replace h := h.pure k_hq
          replace hw := hw.pure k_hq
          replace hrow := hrow.pure k_hq
          replace h8 := h8.pure k_hq
          replace h13 := h13.pure k_hq
          replace hd_2 := hd_2.pure k_hq
          refine WL.nil ?_
          refine WX.one ⟨hd_2, ?_⟩
          refine DL.step [(30, _), (36, _)] rfl ⟨rfl, rfl, trivial⟩ rfl (fun wq_18 kq_18 => ?_)
          have zs_kq_18 := kq_18.size
          replace hC := hC.pure kq_18
          replace h := h.pure kq_18
          replace hw := hw.pure kq_18
          replace hrow := hrow.pure kq_18
          replace h8 := h8.pure kq_18
          replace h13 := h13.pure kq_18
          replace hd_2 := hd_2.pure kq_18
          replace hq := hq.pure kq_18
          refine WL.append (e := eb) (xs := []) (S := fun b => n1 ≤ b) info_5 rfl Try.underlying23 rfl rfl (hq.mono (fun b hb => by omega)) (h8.src Try.underlying23) (by show (0 + (r.xs.take k).length) * 1 ≤ _ ∧ 0 + (r.xs.take k).length ≤ _; constructor <;> omega) (fun b hb => by omega) rfl ?_
          intro a9 c9 w9 hQ g9 n9
          have k9 := g9.chg.mono (M' := fun x => n1 ≤ x) (fun x _ hx => hx.2)
          have k9' := k9.mono (M' := fun x => w.heap.size ≤ x) (fun x _ hx => by have h2 : n1 ≤ x := hx; show w.heap.size ≤ x; omega)
          have hC9 := hC.chg k9 (fun x h1 h2 => by have h3 : n1 ≤ x := h2; omega)
          have zs_k9' := k9'.size
          replace h := h.chg k9' (by first | (intro x h1 h2; exact h2) | (intro x h1 h2; have h3 : _ = _ := h2; exfalso; omega) | (intro b h1 h2 h3; have h4 : _ = _ := h3; (try dsimp only at h2); exfalso; omega) | (intro h1; have h2 : _ = _ := h1; exfalso; omega) | (intros; exfalso; (try dsimp only at *); omega) | (intro b h1 h2 h3; exfalso; have h4 := h3.2; (try dsimp only at *); omega) | (intro h1; exfalso; have h4 := h1.2; (try dsimp only at *); omega))
          replace hw := hw.chg k9' (by first | (intro x h1 h2; exact h2) | (intro x h1 h2; have h3 : _ = _ := h2; exfalso; omega) | (intro b h1 h2 h3; have h4 : _ = _ := h3; (try dsimp only at h2); exfalso; omega) | (intro h1; have h2 : _ = _ := h1; exfalso; omega) | (intros; exfalso; (try dsimp only at *); omega) | (intro b h1 h2 h3; exfalso; have h4 := h3.2; (try dsimp only at *); omega) | (intro h1; exfalso; have h4 := h1.2; (try dsimp only at *); omega))
          replace hrow := hrow.chg k9' (by first | (intro x h1 h2; exact h2) | (intro x h1 h2; have h3 : _ = _ := h2; exfalso; omega) | (intro b h1 h2 h3; have h4 : _ = _ := h3; (try dsimp only at h2); exfalso; omega) | (intro h1; have h2 : _ = _ := h1; exfalso; omega) | (intros; exfalso; (try dsimp only at *); omega) | (intro b h1 h2 h3; exfalso; have h4 := h3.2; (try dsimp only at *); omega) | (intro h1; exfalso; have h4 := h1.2; (try dsimp only at *); omega))
          replace h8 := h8.chg k9' (by first | (intro x h1 h2; exact h2) | (intro x h1 h2; have h3 : _ = _ := h2; exfalso; omega) | (intro b h1 h2 h3; have h4 : _ = _ := h3; (try dsimp only at h2); exfalso; omega) | (intro h1; have h2 : _ = _ := h1; exfalso; omega) | (intros; exfalso; (try dsimp only at *); omega) | (intro b h1 h2 h3; exfalso; have h4 := h3.2; (try dsimp only at *); omega) | (intro h1; exfalso; have h4 := h1.2; (try dsimp only at *); omega))
          replace h13 := h13.chg k9' (by first | (intro x h1 h2; exact h2) | (intro x h1 h2; have h3 : _ = _ := h2; exfalso; omega) | (intro b h1 h2 h3; have h4 : _ = _ := h3; (try dsimp only at h2); exfalso; omega) | (intro h1; have h2 : _ = _ := h1; exfalso; omega) | (intros; exfalso; (try dsimp only at *); omega) | (intro b h1 h2 h3; exfalso; have h4 := h3.2; (try dsimp only at *); omega) | (intro h1; exfalso; have h4 := h1.2; (try dsimp only at *); omega))
          replace hd_2 := hd_2.chg k9' (by first | (intro x h1 h2; exact h2) | (intro x h1 h2; have h3 : _ = _ := h2; exfalso; omega) | (intro b h1 h2 h3; have h4 : _ = _ := h3; (try dsimp only at h2); exfalso; omega) | (intro h1; have h2 : _ = _ := h1; exfalso; omega) | (intros; exfalso; (try dsimp only at *); omega) | (intro b h1 h2 h3; exfalso; have h4 := h3.2; (try dsimp only at *); omega) | (intro h1; exfalso; have h4 := h1.2; (try dsimp only at *); omega))
          refine WL.nil ?_
          refine WX.one ⟨hd_2, ?_⟩
          refine DL.step [(37, _), (44, _)] rfl ⟨rfl, rfl, trivial⟩ rfl (fun wq_19 kq_19 => ?_)
          have zs_kq_19 := kq_19.size
          replace h := h.pure kq_19
          replace hw := hw.pure kq_19
          replace hrow := hrow.pure kq_19
          replace h8 := h8.pure kq_19
          replace h13 := h13.pure kq_19
          replace hd_2 := hd_2.pure kq_19
          replace hQ := hQ.pure kq_19
          replace hC9 := hC9.pure kq_19
          refine WL.append (e := eb) (xs := r.xs.take k) (S := fun b => n1 ≤ b) info_5 rfl Try.underlying23 rfl rfl hQ (h13.src Try.underlying23) (by show ((r.xs.take k).length + (r.xs.drop (k + 1)).length) * 1 ≤ _ ∧ (r.xs.take k).length + (r.xs.drop (k + 1)).length ≤ _; constructor <;> omega) (fun b hb => by omega) rfl ?_
          intro a14 c14 w14 hR g14 n14
          have k14 := g14.chg.mono (M' := fun x => n1 ≤ x) (fun x _ hx => hx.2)
          have k14' := k14.mono (M' := fun x => w.heap.size ≤ x) (fun x _ hx => by have h2 : n1 ≤ x := hx; show w.heap.size ≤ x; omega)
          have hC14 := hC9.chg k14 (fun x h1 h2 => by have h3 : n1 ≤ x := h2; omega)
          have zs_k14' := k14'.size
          replace h := h.chg k14' (by first | (intro x h1 h2; exact h2) | (intro x h1 h2; have h3 : _ = _ := h2; exfalso; omega) | (intro b h1 h2 h3; have h4 : _ = _ := h3; (try dsimp only at h2); exfalso; omega) | (intro h1; have h2 : _ = _ := h1; exfalso; omega) | (intros; exfalso; (try dsimp only at *); omega) | (intro b h1 h2 h3; exfalso; have h4 := h3.2; (try dsimp only at *); omega) | (intro h1; exfalso; have h4 := h1.2; (try dsimp only at *); omega))
          replace hw := hw.chg k14' (by first | (intro x h1 h2; exact h2) | (intro x h1 h2; have h3 : _ = _ := h2; exfalso; omega) | (intro b h1 h2 h3; have h4 : _ = _ := h3; (try dsimp only at h2); exfalso; omega) | (intro h1; have h2 : _ = _ := h1; exfalso; omega) | (intros; exfalso; (try dsimp only at *); omega) | (intro b h1 h2 h3; exfalso; have h4 := h3.2; (try dsimp only at *); omega) | (intro h1; exfalso; have h4 := h1.2; (try dsimp only at *); omega))
          replace hrow := hrow.chg k14' (by first | (intro x h1 h2; exact h2) | (intro x h1 h2; have h3 : _ = _ := h2; exfalso; omega) | (intro b h1 h2 h3; have h4 : _ = _ := h3; (try dsimp only at h2); exfalso; omega) | (intro h1; have h2 : _ = _ := h1; exfalso; omega) | (intros; exfalso; (try dsimp only at *); omega) | (intro b h1 h2 h3; exfalso; have h4 := h3.2; (try dsimp only at *); omega) | (intro h1; exfalso; have h4 := h1.2; (try dsimp only at *); omega))
          replace h8 := h8.chg k14' (by first | (intro x h1 h2; exact h2) | (intro x h1 h2; have h3 : _ = _ := h2; exfalso; omega) | (intro b h1 h2 h3; have h4 : _ = _ := h3; (try dsimp only at h2); exfalso; omega) | (intro h1; have h2 : _ = _ := h1; exfalso; omega) | (intros; exfalso; (try dsimp only at *); omega) | (intro b h1 h2 h3; exfalso; have h4 := h3.2; (try dsimp only at *); omega) | (intro h1; exfalso; have h4 := h1.2; (try dsimp only at *); omega))
          replace h13 := h13.chg k14' (by first | (intro x h1 h2; exact h2) | (intro x h1 h2; have h3 : _ = _ := h2; exfalso; omega) | (intro b h1 h2 h3; have h4 : _ = _ := h3; (try dsimp only at h2); exfalso; omega) | (intro h1; have h2 : _ = _ := h1; exfalso; omega) | (intros; exfalso; (try dsimp only at *); omega) | (intro b h1 h2 h3; exfalso; have h4 := h3.2; (try dsimp only at *); omega) | (intro h1; exfalso; have h4 := h1.2; (try dsimp only at *); omega))
          replace hd_2 := hd_2.chg k14' (by first | (intro x h1 h2; exact h2) | (intro x h1 h2; have h3 : _ = _ := h2; exfalso; omega) | (intro b h1 h2 h3; have h4 : _ = _ := h3; (try dsimp only at h2); exfalso; omega) | (intro h1; have h2 : _ = _ := h1; exfalso; omega) | (intros; exfalso; (try dsimp only at *); omega) | (intro b h1 h2 h3; exfalso; have h4 := h3.2; (try dsimp only at *); omega) | (intro h1; exfalso; have h4 := h1.2; (try dsimp only at *); omega))
          refine WL.nil ?_
          refine WX.one ⟨hd_2, ?_⟩
          refine DL.step [(45, _)] rfl ⟨rfl, trivial⟩ rfl (fun wq_20 kq_20 => ?_)
          have zs_kq_20 := kq_20.size
          replace h := h.pure kq_20
          replace hw := hw.pure kq_20
          replace hrow := hrow.pure kq_20
          replace h8 := h8.pure kq_20
          replace h13 := h13.pure kq_20
          replace hd_2 := hd_2.pure kq_20
          replace hR := hR.pure kq_20
          replace hC14 := hC14.pure kq_20
          refine WL.build (e := erow) [⟨a14, c14, r.xs.take k ++ r.xs.drop (k + 1)⟩] Try.underlying22 Try.sizeOf23 Try.zeroValue23 rfl rfl rfl (by first | (simp [Value.cells]; done) | (simp [Value.cells] <;> rfl) | (simp [Value.cells, eb, ei, es, ebool, e32, e64]; done)) (by decide) rfl ?_
          intro a_qr w_qr qr l_qr z_qr k_qr
          have zs_k_qr := k_qr.size
          replace h := h.pure k_qr
          replace hw := hw.pure k_qr
          replace hrow := hrow.pure k_qr
          replace h8 := h8.pure k_qr
          replace h13 := h13.pure k_qr
          replace hd_2 := hd_2.pure k_qr
          replace hR := hR.pure k_qr
          replace hC14 := hC14.pure k_qr
          refine WL.nil ?_
          refine WX.one ⟨hd_2, ?_⟩
          refine DL.step [(29, _), (46, _)] rfl ⟨rfl, rfl, trivial⟩ rfl (fun wq_21 kq_21 => ?_)
          have zs_kq_21 := kq_21.size
          replace h := h.pure kq_21
          replace hw := hw.pure kq_21
          replace hrow := hrow.pure kq_21
          replace h8 := h8.pure kq_21
          replace h13 := h13.pure kq_21
          replace hd_2 := hd_2.pure kq_21
          replace hR := hR.pure kq_21
          replace hC14 := hC14.pure kq_21
          replace qr := qr.pure kq_21
          refine WL.append (e := erow) (S := fun b => w.heap.size ≤ b) info_23 rfl Try.underlying22 rfl rfl (hC14.outer.mono (fun b hb => hb.1)) (qr.rsl.src Try.underlying22) (by show (ms.length + 1) * 24 ≤ _ ∧ ms.length + 1 ≤ _; constructor <;> omega) (fun b hb => by have := hw.size; omega) rfl ?_
          intro a15 c15 w15 hO15 g15 n15
          have hC15 := hC14.snoc (r := ⟨a14, c14, r.xs.take k ++ r.xs.drop (k + 1)⟩) hR.lt.rsl hwn (by omega) hO15 g15
          have k15 := g15.chg.mono (M' := fun x => w.heap.size ≤ x) (fun x _ hx => hx.2)
          have hz15 : w.heap.size ≤ w15.heap.size := by have := g15.chg.size; omega
          have zs_k15 := k15.size
          replace h := h.chg k15 (by first | (intro x h1 h2; exact h2) | (intro x h1 h2; have h3 : _ = _ := h2; exfalso; omega) | (intro b h1 h2 h3; have h4 : _ = _ := h3; (try dsimp only at h2); exfalso; omega) | (intro h1; have h2 : _ = _ := h1; exfalso; omega) | (intros; exfalso; (try dsimp only at *); omega) | (intro b h1 h2 h3; exfalso; have h4 := h3.2; (try dsimp only at *); omega) | (intro h1; exfalso; have h4 := h1.2; (try dsimp only at *); omega))
          replace hw := hw.chg k15 (by first | (intro x h1 h2; exact h2) | (intro x h1 h2; have h3 : _ = _ := h2; exfalso; omega) | (intro b h1 h2 h3; have h4 : _ = _ := h3; (try dsimp only at h2); exfalso; omega) | (intro h1; have h2 : _ = _ := h1; exfalso; omega) | (intros; exfalso; (try dsimp only at *); omega) | (intro b h1 h2 h3; exfalso; have h4 := h3.2; (try dsimp only at *); omega) | (intro h1; exfalso; have h4 := h1.2; (try dsimp only at *); omega))
          replace hrow := hrow.chg k15 (by first | (intro x h1 h2; exact h2) | (intro x h1 h2; have h3 : _ = _ := h2; exfalso; omega) | (intro b h1 h2 h3; have h4 : _ = _ := h3; (try dsimp only at h2); exfalso; omega) | (intro h1; have h2 : _ = _ := h1; exfalso; omega) | (intros; exfalso; (try dsimp only at *); omega) | (intro b h1 h2 h3; exfalso; have h4 := h3.2; (try dsimp only at *); omega) | (intro h1; exfalso; have h4 := h1.2; (try dsimp only at *); omega))
          replace h8 := h8.chg k15 (by first | (intro x h1 h2; exact h2) | (intro x h1 h2; have h3 : _ = _ := h2; exfalso; omega) | (intro b h1 h2 h3; have h4 : _ = _ := h3; (try dsimp only at h2); exfalso; omega) | (intro h1; have h2 : _ = _ := h1; exfalso; omega) | (intros; exfalso; (try dsimp only at *); omega) | (intro b h1 h2 h3; exfalso; have h4 := h3.2; (try dsimp only at *); omega) | (intro h1; exfalso; have h4 := h1.2; (try dsimp only at *); omega))
          replace h13 := h13.chg k15 (by first | (intro x h1 h2; exact h2) | (intro x h1 h2; have h3 : _ = _ := h2; exfalso; omega) | (intro b h1 h2 h3; have h4 : _ = _ := h3; (try dsimp only at h2); exfalso; omega) | (intro h1; have h2 : _ = _ := h1; exfalso; omega) | (intros; exfalso; (try dsimp only at *); omega) | (intro b h1 h2 h3; exfalso; have h4 := h3.2; (try dsimp only at *); omega) | (intro h1; exfalso; have h4 := h1.2; (try dsimp only at *); omega))
          replace hd_2 := hd_2.chg k15 (by first | (intro x h1 h2; exact h2) | (intro x h1 h2; have h3 : _ = _ := h2; exfalso; omega) | (intro b h1 h2 h3; have h4 : _ = _ := h3; (try dsimp only at h2); exfalso; omega) | (intro h1; have h2 : _ = _ := h1; exfalso; omega) | (intros; exfalso; (try dsimp only at *); omega) | (intro b h1 h2 h3; exfalso; have h4 := h3.2; (try dsimp only at *); omega) | (intro h1; exfalso; have h4 := h1.2; (try dsimp only at *); omega))
          refine WL.nil ?_
          refine WX.one ⟨hd_2, ?_⟩
          refine DL.step [(47, _)] rfl ⟨rfl, trivial⟩ rfl (fun wq_22 kq_22 => ?_)
          have zs_kq_22 := kq_22.size
          replace h := h.pure kq_22
          replace hw := hw.pure kq_22
          replace hrow := hrow.pure kq_22
          replace h8 := h8.pure kq_22
          replace h13 := h13.pure kq_22
          replace hd_2 := hd_2.pure kq_22
          replace hC15 := hC15.pure kq_22
          refine WL.assign rfl rfl (?_)
          refine WL.nil ?_
          refine WX.one ⟨hd_2, ?_⟩
          refine DL.done (fun we_23 ke_23 => ?_)
          have zs_ke_23 := ke_23.size
          replace h := h.pure ke_23
          replace hw := hw.pure ke_23
          replace hrow := hrow.pure ke_23
          replace h8 := h8.pure ke_23
          replace h13 := h13.pure ke_23
          replace hd_2 := hd_2.pure ke_23
          replace hC15 := hC15.pure ke_23
          refine WX.block_normal (WX.then_normal (WC.region (WL.move rfl rfl (WL.add64 rfl rfl (by first | omega | (constructor <;> omega)) rfl (WL.assign rfl rfl (WL.nil (?_)))))))
          first
            | exact WX.loop_next (i + 1, a15, c15, _, ms ++ [⟨a14, c14, r.xs.take k ++ r.xs.drop (k + 1)⟩]) ⟨rfl, rfl, rfl, rfl, rfl, trivial⟩ ⟨by show i + 1 ≤ m; omega, ⟨by show (ms ++ [_]).length = _; simp [hmsl], fun j r' z hr' hz => (by
                rcases get_snoc hz with h1 | ⟨h1, h2⟩
                ·
                  exact hms j r' z hr' h1
                ·
                  subst h2
                  rw [h1, hmsl, hri] at hr'
                  injection hr' with hr'
                  rw [← hr'])⟩, hC15, ⟨hz15, by show w15.heap.size ≤ _; omega⟩, h, hw⟩ (by show m - (i + 1) < m - i; omega)
            | (have hx0 : x = 0 := u8_zero h22
               exact WX.loop_next (k + 1) ⟨rfl, by rw [sumF, show D k = 0 by rw [hD]; show mul (fn (mx rs) 0 k) _ = 0; rw [hfx, hx0, mul_zero_l], xor_zero']; rfl, rfl, trivial⟩ ⟨by omega, h, hw⟩ (by omega))
            | exact WX.loop_next (k + 1) ⟨rfl, by rw [sumF, show D k = mul x (det i (minor (fn (mx rs)) k)) by rw [hD, ← hfx]]; rfl, rfl, trivial⟩ ⟨by omega, h, hw⟩ (by omega)
        ·
          refine WL.nil (WX.then_normal (WC.cond_false rfl (WC.exit (WX.then_exit (WX.then_exit (WX.block_here (WX.then_normal (?_))))))))
          have him : i = m := by omega
          subst him
          obtain ⟨ob2, oo4, ho2⟩ := h.outer.place hr0
          obtain ⟨ib, io, hio⟩ := (h.at hr0).place hx
          refine WC.draw (Nob) [0, 1, 2, 3, 4, 5, 6, 7] [8, 9, 10, 11] mixed rfl rfl (fun wd_1 kd_1 zd_1 => ?_)
          have zs_kd_1 := kd_1.size
          replace hC := hC.pure kd_1
          replace h := h.pure kd_1
          replace hw := hw.pure kd_1
          apply DQ.step (E' := [(3, _)])
          case ho => rfl
          case hs => exact ⟨rfl, trivial⟩
          case hk => rfl
          case h1 =>
            intro wq_3 kq_3
            refine WL.move rfl rfl (?_)
            refine WL.nil ?_
            exact WX.one ⟨rfl, by first | exact Chg.refl _ _ | assumption⟩
          apply DQ.step (E' := [(0, _)])
          case ho => rfl
          case hs => exact ⟨rfl, trivial⟩
          case hk => rfl
          case h1 =>
            intro wq_4 kq_4
            refine WL.move rfl rfl (?_)
            refine WL.nil ?_
            exact WX.one ⟨rfl, by first | exact Chg.refl _ _ | assumption⟩
          apply DQ.step (E' := [(49, _)])
          case ho => rfl
          case hs => exact ⟨rfl, trivial⟩
          case hk => rfl
          case h1 =>
            intro wq_5 kq_5
            have zs_kq_5 := kq_5.size
            replace hC := hC.pure kq_5
            replace h := h.pure kq_5
            replace hw := hw.pure kq_5
            have hO := h.outer
            rw [ho2] at hO
            refine WL.indexC (e := erow) (j := 0) hO Try.underlying22 Try.sizeOf23 (by show some (Value.slice ao _ _) = _; rw [ho2]) rfl ⟨hr0, rfl⟩ rfl ?_
            refine WL.nil ?_
            exact WX.one ⟨rfl, by first | exact Chg.refl _ _ | assumption⟩
          apply DQ.step (E' := [(50, _)])
          case ho => rfl
          case hs => exact ⟨rfl, trivial⟩
          case hk => rfl
          case h1 =>
            intro wq_6 kq_6
            have zs_kq_6 := kq_6.size
            replace hC := hC.pure kq_6
            replace h := h.pure kq_6
            replace hw := hw.pure kq_6
            have hO := h.outer
            rw [ho2] at hO
            refine WL.load Try.isAgg23 rfl ((hO.cellsAt hr0) 0 _ rfl) rfl ?_
            refine WL.nil ?_
            exact WX.one ⟨rfl, by first | exact Chg.refl _ _ | assumption⟩
          apply DQ.step (E' := [(4, _)])
          case ho => rfl
          case hs => exact ⟨rfl, trivial⟩
          case hk => rfl
          case h1 =>
            intro wq_7 kq_7
            refine WL.move rfl rfl (?_)
            refine WL.nil ?_
            exact WX.one ⟨rfl, by first | exact Chg.refl _ _ | assumption⟩
          apply DQ.step (E' := [(51, _), (52, _)])
          case ho => rfl
          case hs => exact ⟨rfl, rfl, trivial⟩
          case hk => rfl
          case h1 =>
            intro wq_8 kq_8
            have zs_kq_8 := kq_8.size
            replace hC := hC.pure kq_8
            replace h := h.pure kq_8
            replace hw := hw.pure kq_8
            have hI := h.at hr0
            rw [hio] at hI
            refine WL.indexC (e := eb) hI Try.underlying23 Try.sizeOf5 (by show some (Value.slice r0.ao _ _) = _; rw [hio]) rfl ⟨hx, rfl⟩ rfl ?_
            refine WL.nil ?_
            exact WX.one ⟨rfl, by first | exact Chg.refl _ _ | assumption⟩
          apply DQ.step (E' := [(53, _)])
          case ho => rfl
          case hs => exact ⟨rfl, trivial⟩
          case hk => rfl
          case h1 =>
            intro wq_9 kq_9
            have zs_kq_9 := kq_9.size
            replace hC := hC.pure kq_9
            replace h := h.pure kq_9
            replace hw := hw.pure kq_9
            have hI := h.at hr0
            rw [hio] at hI
            refine WL.load Try.isAgg5 rfl ((hI.cellsAt hx) 0 _ rfl) rfl ?_
            refine WL.nil ?_
            exact WX.one ⟨rfl, by first | exact Chg.refl _ _ | assumption⟩
          apply DQ.step (E' := [(5, _)])
          case ho => rfl
          case hs => exact ⟨rfl, trivial⟩
          case hk => rfl
          case h1 =>
            intro wq_10 kq_10
            refine WL.move rfl rfl (?_)
            refine WL.nil ?_
            exact WX.one ⟨rfl, by first | exact Chg.refl _ _ | assumption⟩
          refine DQ.done (fun hd_2 => ?_)
          refine DL.step [(55, _)] rfl ⟨rfl, trivial⟩ rfl (fun wq_11 kq_11 => ?_)
          have zs_kq_11 := kq_11.size
          replace hC := hC.pure kq_11
          replace h := h.pure kq_11
          replace hw := hw.pure kq_11
          replace hd_2 := hd_2.pure kq_11
          have hdet : det i (fn (mx ms)) = det i (minor (fn (mx rs)) k) := det_cong (fun p q hp hq => by
            obtain ⟨r, hr⟩ : ∃ r, rs[p + 1]? = some r := ⟨_, List.getElem?_eq_getElem (by omega)⟩
            obtain ⟨z, hz⟩ : ∃ z, ms[p]? = some z := ⟨_, List.getElem?_eq_getElem (by omega)⟩
            have h1 := hrl r (List.mem_of_getElem? hr)
            show _ = fn (mx rs) (p + 1) (sk k q)
            rw [fn_mx hz, fn_mx hr, hms p r z hr hz, cut_getD (by omega)])
          have hmr : ∀ z ∈ ms, z.xs.length = i := fun z hz => by
            obtain ⟨p, hp⟩ := List.getElem?_of_mem hz
            have hpl := (List.getElem?_eq_some_iff.1 hp).1
            obtain ⟨r, hr⟩ : ∃ r, rs[p + 1]? = some r := ⟨_, List.getElem?_eq_getElem (by omega)⟩
            have h1 := hrl r (List.mem_of_getElem? hr)
            rw [hms p r z hr hp]
            simp
            omega
          refine WL.call eg_25 rfl rfl (ih i (by omega) hmsl (by omega) hmr hC.read) ?_
          rintro v w6 ⟨rfl, k6⟩
          rw [hdet]
          have zs_k6 := k6.size
          replace hC := hC.pure k6
          replace h := h.pure k6
          replace hw := hw.pure k6
          replace hd_2 := hd_2.pure k6
          refine WL.nil ?_
          refine WX.one ⟨hd_2, ?_⟩
          refine DL.step [(54, _), (56, _)] rfl ⟨rfl, rfl, trivial⟩ rfl (fun wq_12 kq_12 => ?_)
          have zs_kq_12 := kq_12.size
          replace hC := hC.pure kq_12
          replace h := h.pure kq_12
          replace hw := hw.pure kq_12
          replace hd_2 := hd_2.pure kq_12
          refine WL.call eg_27 rfl rfl (refMul_calls _ _ _) ?_
          rintro v w7 ⟨rfl, k7⟩
          have zs_k7 := k7.size
          replace hC := hC.pure k7
          replace h := h.pure k7
          replace hw := hw.pure k7
          replace hd_2 := hd_2.pure k7
          refine WL.nil ?_
          refine WX.one ⟨hd_2, ?_⟩
          refine DL.step [(48, _), (57, _)] rfl ⟨rfl, rfl, trivial⟩ rfl (fun wq_13 kq_13 => ?_)
          have zs_kq_13 := kq_13.size
          replace hC := hC.pure kq_13
          replace h := h.pure kq_13
          replace hw := hw.pure kq_13
          replace hd_2 := hd_2.pure kq_13
          refine WL.num rfl rfl (n_xor8 _ _ _ _) rfl (?_)
          refine WL.nil ?_
          refine WX.one ⟨hd_2, ?_⟩
          refine DL.step [(58, _)] rfl ⟨rfl, trivial⟩ rfl (fun wq_14 kq_14 => ?_)
          have zs_kq_14 := kq_14.size
          replace hC := hC.pure kq_14
          replace h := h.pure kq_14
          replace hw := hw.pure kq_14
          replace hd_2 := hd_2.pure kq_14
          refine WL.assign rfl rfl (?_)
          refine WL.nil ?_
          refine WX.one ⟨hd_2, ?_⟩
          refine DL.done (fun we_15 ke_15 => ?_)
          have zs_ke_15 := ke_15.size
          replace hC := hC.pure ke_15
          replace h := h.pure ke_15
          replace hw := hw.pure ke_15
          replace hd_2 := hd_2.pure ke_15
          refine WX.block_normal (WX.then_normal (WC.region (WL.move rfl rfl (WL.add64 rfl rfl (by first | omega | (constructor <;> omega)) rfl (WL.assign rfl rfl (WL.nil (?_)))))))
          first
            | exact WX.loop_next (i + 1, a15, c15, _, ms ++ [⟨a14, c14, r.xs.take k ++ r.xs.drop (k + 1)⟩]) ⟨rfl, rfl, rfl, rfl, rfl, trivial⟩ ⟨by show i + 1 ≤ m; omega, ⟨by show (ms ++ [_]).length = _; simp [hmsl], fun j r' z hr' hz => (by
                rcases get_snoc hz with h1 | ⟨h1, h2⟩
                ·
                  exact hms j r' z hr' h1
                ·
                  subst h2
                  rw [h1, hmsl, hri] at hr'
                  injection hr' with hr'
                  rw [← hr'])⟩, hC15, ⟨hz15, by show w15.heap.size ≤ _; omega⟩, h, hw⟩ (by show m - (i + 1) < m - i; omega)
            | (have hx0 : x = 0 := u8_zero h22
               exact WX.loop_next (k + 1) ⟨rfl, by rw [sumF, show D k = 0 by rw [hD]; show mul (fn (mx rs) 0 k) _ = 0; rw [hfx, hx0, mul_zero_l], xor_zero']; rfl, rfl, trivial⟩ ⟨by omega, h, hw⟩ (by omega))
            | exact WX.loop_next (k + 1) ⟨rfl, by rw [sumF, show D k = mul x (det i (minor (fn (mx rs)) k)) by rw [hD, ← hfx]]; rfl, rfl, trivial⟩ ⟨by omega, h, hw⟩ (by omega)
    ·
      refine WL.nil (WX.then_normal (WC.cond_false rfl (WC.exit (WX.then_exit (WX.then_exit (WX.block_here (WX.then_normal (?_))))))))
      refine WC.seq (WC.region (WL.move rfl rfl (WL.assign rfl rfl (WL.nil (WX.then_normal (WC.ret (?_)))))))
      refine WX.ret1 (.inl rfl) Try.results25 rfl ?_
      first
        | (have h0 : n = 0 := by omega
           subst h0
           exact ⟨_, rfl, rfl, hw⟩)
        | (have hkm : k = m + 1 := by omega
           subst hkm
           refine ⟨_, rfl, ?_, hw⟩
           rw [det, hD])
end Go.Proofs.Ytjdbjdgobhjbkaa
namespace Go.Proofs.Ytjdbjdgobhjbkaa
open Go.RowKit Go.HL

theorem SolR.bad {rows : List (List UInt8)} {rgt out : List UInt8} {e : Int} (h : SolR rows rgt out e) (hs : ¬ ShapeOk rows rgt) : out = [] ∧ e = 1 := by
  rcases h with ⟨_, h1, h2⟩ | ⟨h1, _⟩ | ⟨h1, _⟩
  · exact ⟨h1, h2⟩
  · exact absurd h1 hs
  · exact absurd h1 hs
/-- a product of given unknowns -/
theorem SolR.holds {rows : List (List UInt8)} {rgt out x : List UInt8} (h : SolR rows rgt out 0) (hx : x.length = rows.length) (hp : ∀ i, i < rows.length → sumF rows.length (fun j => mul (fn rows i j) (x.getD j 0)) = rgt.getD i 0) : out = x := by
  rcases h with ⟨_, _, h1⟩ | ⟨_, _, hl, h1⟩ | ⟨_, h1, _⟩
  · exact absurd h1 (by decide)
  · exact getD_ext (hl.trans hx.symm) (fun i hi => ((h1 (fun j => x.getD j 0)).1 hp i (by omega)).symm)
  · exact absurd h1 (by decide)
end Go.Proofs.Ytjdbjdgobhjbkaa
namespace Go.Proofs.Ytjdbjdgobhjbkaa
open Go.RowKit Go.HL

set_option maxHeartbeats 8000000 in
theorem rSolve_calls {S : Nat → Prop} {w : World} {c cr : Nat} {ao ar : Option Addr} {rs : List Rw} {rgt : List UInt8} (h : RS S w ao c rs) (hr : RSl S w eb ar cr rgt) (hl1 : rs.length ≤ 9223372036854775807) :
    Calls Try.prog 12 [.slice ao rs.length c, .slice ar rgt.length cr].toArray w (Ret fun v w' => (∃ ao2 c2 out e, v = .tuple #[.slice ao2 out.length c2, vi e] ∧ SolR (mx rs) rgt out e ∧ Row (w.heap.size ≤ ·) w' 5 eb ao2 c2 out) ∧ Chg Nob w w') := by
  have hw := Chg.refl Nob w
  have hml := mx_len rs
  replace h := h.old
  replace hr := hr.old
  obtain ⟨d, hd⟩ : ∃ d, d = det rs.length (fn (mx rs)) := ⟨_, rfl⟩
  refine Calls.of_WC Try.func12 rfl Try.ntmps12 (by simp) ?_
  refine WC.seq (WC.region (WL.assign rfl rfl (WL.assign rfl rfl (WL.nil (WX.then_normal (WC.seq (WC.seq (?_))))))))
  refine WC.region (WL.move rfl rfl (WL.move rfl rfl (?_)))
  refine WL.call eg_24 rfl rfl (Right_calls h hl1) ?_
  rintro v w1 ⟨⟨b, rfl, hb⟩, k1⟩
  have zs_k1 := k1.size
  replace h := h.pure k1
  replace hr := hr.pure k1
  replace hw := hw.pure k1
  refine WL.not rfl rfl (WL.nil (WX.then_normal (?_)))
  first | refine WC.cond_dec rfl (fun hc17 => ?_) (fun hc17 => ?_) | refine WC.cond_split rfl (fun hc17 => ?_) (fun hc17 => ?_)
  ·
    refine WC.seq (WC.region (WL.assign rfl rfl (WL.assign rfl rfl (WL.nil (WX.then_normal (WC.ret (WX.then_ret (?_))))))))
    refine WX.ret2 (.inl rfl) Try.results12 rfl rfl ?_
    exact ⟨_, rfl, ⟨none, 0, [], 1, rfl, .inl ⟨(fun hs => by rw [hb.2 hs] at hc17; cases hc17), rfl, rfl⟩, Row.nil _ _ _ _⟩, hw⟩
  ·
    refine WC.skip (WX.then_normal (WC.seq (WC.region (WL.move rfl rfl (?_)))))
    have hsh : ShapeOk (mx rs) rgt := hb.1 (by cases b with | true => rfl | false => cases hc17)
    have hn8 : 1 ≤ rs.length ∧ rs.length ≤ 8 := by have := hsh.1; rw [hml] at this; exact this
    have hrl : rgt.length = rs.length := by have := hsh.2.1; rw [hml] at this; exact this
    have hrows : ∀ r ∈ rs, r.xs.length = rs.length := fun r hr => by have := hsh.2.2 r.xs (List.mem_map.2 ⟨r, hr, rfl⟩); rw [hml] at this; exact this
    refine WL.call eg_25 rfl rfl (Det_calls rs.length rfl hn8.2 hrows h) ?_
    rintro v w2 ⟨rfl, k2⟩
    rw [← hd]
    have zs_k2 := k2.size
    replace h := h.pure k2
    replace hr := hr.pure k2
    replace hw := hw.pure k2
    refine WL.assign rfl rfl (WL.nil (WX.then_normal (WC.seq (WC.region (WL.move rfl rfl (?_))))))
    refine WL.call eg_26 rfl rfl (refInv_calls d _) ?_
    rintro v w3 ⟨rfl, k3⟩
    have zs_k3 := k3.size
    replace h := h.pure k3
    replace hr := hr.pure k3
    replace hw := hw.pure k3
    by_cases hd0 : d = 0
    ·
      rw [if_pos hd0]
      refine WL.move rfl rfl (WL.extract rfl rfl rfl (WL.extract rfl rfl rfl (WL.assign rfl rfl (WL.assign rfl rfl (WL.nil (WX.then_normal (WC.seq (?_))))))))
      refine WC.seq (WC.region (WL.move rfl rfl (?_)))
      refine WL.neqT rfl rfl rfl (by first | rfl | omega | decide) ?_
      refine WL.nil (WX.then_normal (WC.cond_true rfl (WC.seq (WC.region (WL.assign rfl rfl (WL.assign rfl rfl (WL.nil (?_))))))))
      refine WX.then_normal (WC.ret (WX.then_ret (?_)))
      refine WX.ret2 (.inl rfl) Try.results12 rfl rfl ?_
      refine ⟨_, rfl, ⟨none, 0, [], 7, rfl, .inr (.inr ⟨hsh, rfl, rfl, ?_⟩), Row.nil _ _ _ _⟩, hw⟩
      rw [hml]
      exact det_miss (hd.symm.trans hd0)
    ·
      rw [if_neg hd0]
      refine WL.move rfl rfl (WL.extract rfl rfl rfl (WL.extract rfl rfl rfl (WL.assign rfl rfl (WL.assign rfl rfl (WL.nil (WX.then_normal (WC.seq (?_))))))))
      refine WC.seq (WC.region (WL.move rfl rfl (?_)))
      refine WL.neqF rfl rfl rfl (by first | rfl | omega | decide) ?_
      refine WL.nil (WX.then_normal (WC.cond_false rfl (WC.skip (WX.then_normal (WC.seq (WC.region (WL.assign rfl rfl (?_))))))))
      refine WL.nil (WX.then_normal (WC.seq (WC.seq (WC.region (WL.assign rfl rfl (WL.nil (WX.then_normal (?_))))))))
      refine WC.block (?_)
      have zw0 := hw.size
      refine WC.loop (σ := Nat × (Option Addr × Nat × List UInt8)) (fun q => [(0, .slice ao rs.length c), (1, .slice ar rgt.length cr), (7, v8 (inv d)), (9, .slice q.2.1 q.2.2.2.length q.2.2.1), (10, vi (q.1 : Int))])
        (fun q w' => q.1 ≤ rs.length ∧ (q.2.2.2.length = q.1 ∧ ∀ p, p < q.1 → q.2.2.2.getD p 0 = mul (inv d) (det rs.length (setc (fn (mx rs)) p (fun i => rgt.getD i 0)))) ∧ Row (fun b => w.heap.size ≤ b) w' 5 eb q.2.1 q.2.2.1 q.2.2.2 ∧ RS (· < w.heap.size) w' ao c rs ∧ RSl (· < w.heap.size) w' eb ar cr rgt ∧ Chg Nob w w') (fun q => rs.length - q.1) (0, none, 0, []) ⟨rfl, rfl, rfl, rfl, rfl, trivial⟩ ⟨Nat.zero_le _, ⟨rfl, fun p hp => absurd hp (Nat.not_lt_zero p)⟩, Row.nil _ _ _ _, h, hr, hw⟩ ?_
      clear h hr hw
      rintro ⟨k, ax, cx, out⟩ w2 ⟨hk, ⟨hol, hov⟩, hO, h, hr, hw⟩
      simp only at hk hol hov hO
      dsimp only
      refine WC.seq (WC.seq (WC.region (WL.move rfl rfl (WL.move rfl rfl (WL.len Try.underlying22 rfl rfl (?_))))))
      refine WL.lss? rfl rfl rfl (fun h30 => ?_) (fun h30 => ?_)
      ·
        refine WL.nil (WX.then_normal (WC.cond_true rfl (WC.skip (WX.then_normal (WC.seq (WC.block (WC.seq (?_))))))))
        refine WC.region (WL.assign rfl rfl (WL.nil (WX.then_normal (WC.seq (WC.seq (WC.region (WL.assign rfl rfl (?_))))))))
        refine WL.nil (WX.then_normal (WC.block (?_)))
        obtain ⟨n0, hn0⟩ : ∃ n, n = w2.heap.size := ⟨_, rfl⟩
        have hwn0 : w.heap.size ≤ n0 := by have := hw.size; omega
        have hO1 := hO.lt
        rw [← hn0] at hO1
        refine WC.loop (σ := Nat × (Option Addr × Nat × Nat × List Rw)) (fun q => [(0, .slice ao rs.length c), (1, .slice ar rgt.length cr), (7, v8 (inv d)), (9, .slice ax out.length cx), (10, vi (k : Int)), (11, .slice q.2.1 q.2.2.2.2.length q.2.2.1), (12, vi (q.1 : Int))])
          (fun q w' => q.1 ≤ rs.length ∧ (q.2.2.2.2.length = q.1 ∧ ∀ (j : Nat) (r z : Rw), rs[j]? = some r → q.2.2.2.2[j]? = some z → z.xs = r.xs.set k (rgt.getD j 0)) ∧ CR n0 q.2.2.2.1 w' 23 q.2.1 q.2.2.1 q.2.2.2.2 ∧ (n0 ≤ q.2.2.2.1 ∧ q.2.2.2.1 ≤ w'.heap.size) ∧ Row (fun b => w.heap.size ≤ b ∧ b < n0) w' 5 eb ax cx out ∧ RS (· < w.heap.size) w' ao c rs ∧ RSl (· < w.heap.size) w' eb ar cr rgt ∧ Chg Nob w w') (fun q => rs.length - q.1) (0, none, 0, n0, []) ⟨rfl, rfl, rfl, rfl, rfl, rfl, rfl, trivial⟩ ⟨Nat.zero_le _, ⟨rfl, fun j r z _ hz => by simp at hz⟩, CR.nil _ _ _ _, ⟨Nat.le_refl _, by show n0 ≤ _; omega⟩, hO1, h, hr, hw⟩ ?_
        clear hO hO1 h hr hw hn0
        rintro ⟨i, am, cm, n1, ms⟩ w4 ⟨hi, ⟨hmsl, hms⟩, hC, ⟨hwn, hn1⟩, hO, h, hr, hw⟩
        simp only at hi hmsl hms hC hwn hn1
        dsimp only
        refine WC.seq (WC.seq (WC.region (WL.move rfl rfl (WL.move rfl rfl (WL.len Try.underlying22 rfl rfl (?_))))))
        refine WL.lss? rfl rfl rfl (fun h36 => ?_) (fun h36 => ?_)
        ·
          refine WL.nil (WX.then_normal (WC.cond_true rfl (WC.skip (WX.then_normal (WC.seq (WC.block (WC.seq (?_))))))))
          refine WC.region (?_)
          obtain ⟨r, hri⟩ : ∃ r, rs[i]? = some r := ⟨_, List.getElem?_eq_getElem (by omega)⟩
          have hril := hrows r (List.mem_of_getElem? hri)
          obtain ⟨y, hy⟩ : ∃ y, rgt[i]? = some y := ⟨_, List.getElem?_eq_getElem (by omega)⟩
          have hyd : rgt.getD i 0 = y := by rw [List.getD_eq_getElem?_getD, hy]; rfl
          refine WL.build (e := eb) [] Try.underlying23 Try.sizeOf5 Try.zeroValue5 rfl rfl rfl (by first | (simp [Value.cells]; done) | (simp [Value.cells] <;> rfl) | (simp [Value.cells, eb, ei, es, ebool, e32, e64]; done)) (by decide) rfl ?_
          intro a_hq w_hq hq l_hq z_hq k_hq
          have zs_k_hq := k_hq.size
          replace hC := hC.pure k_hq
          replace hO := hO.pure k_hq
          replace h := h.pure k_hq
          replace hr := hr.pure k_hq
          replace hw := hw.pure k_hq
          refine WL.move rfl rfl (WL.move rfl rfl (?_))
          refine WL.indexT (e := erow) Try.underlying22 Try.sizeOf23 h.outer rfl rfl ⟨hri, rfl⟩ rfl ?_
          intro bb oo hcc
          refine WL.load Try.isAgg23 rfl (hcc 0 _ rfl) rfl ?_
          refine WL.append (e := eb) (xs := []) (S := fun b => n1 ≤ b) info_5 rfl Try.underlying23 rfl rfl (hq.mono (fun b hb => by omega)) ((h.at hri).src Try.underlying23) (by show (0 + r.xs.length) * 1 ≤ _ ∧ 0 + r.xs.length ≤ _; constructor <;> omega) (fun b hb => by omega) rfl ?_
          intro a9 c9 w9 hQ g9 n9
          have k9 := g9.chg.mono (M' := fun x => n1 ≤ x) (fun x _ hx => hx.2)
          have zk9 := k9.size
          replace hC := hC.chg k9 (fun x h1 h2 => by have h3 : n1 ≤ x := h2; omega)
          replace hO := hO.chg k9 (fun b _ h1 h2 => by have h3 : n1 ≤ b := h2; omega)
          replace h := h.chg k9 (fun b _ h1 h2 => by have h3 : n1 ≤ b := h2; omega)
          replace hr := hr.chg k9 (fun b _ h1 h2 => by have h3 : n1 ≤ b := h2; omega)
          replace hw := hw.chg k9 (fun b h1 h2 => by have h3 : n1 ≤ b := h2; omega)
          have hQ' : Row (fun b => n1 ≤ b) w9 5 eb a9 c9 r.xs := hQ
          refine WL.assign rfl rfl (WL.nil (WX.then_normal (WC.seq (WC.region (WL.move rfl rfl (WL.move rfl rfl (WL.move rfl rfl (?_))))))))
          refine WL.move rfl rfl (?_)
          refine WL.indexT (e := eb) Try.underlying23 Try.sizeOf5 hr rfl rfl ⟨hy, rfl⟩ rfl ?_
          intro bb2 oo2 hcc2
          refine WL.load Try.isAgg5 rfl (hcc2 0 _ rfl) rfl ?_
          obtain ⟨g9b, hg9⟩ := hQ'.place0 (j := k) (by omega)
          have hgl : n1 ≤ g9b := hQ'.at_ _ hg9
          have hQ2 := hQ'
          rw [hg9] at hQ2
          refine WL.index (j := k) (sz := 1) Try.underlying23 Try.sizeOf5 (by show some (Value.slice a9 _ _) = some (Value.slice (some ⟨g9b, 0, none⟩) _ _); rw [hg9]) rfl rfl (by show k < ([] ++ r.xs).length; rw [List.nil_append]; omega) rfl ?_
          refine WL.storeRow (z := y) k Try.sizeOf5 hQ2 rfl rfl rfl (by show 0 + k * 1 = k; omega) (by omega) rfl ?_
          intro w10 z10 hQ3 k10
          replace hC := hC.chg k10 (fun x h1 h2 => by have h3 : x = g9b := h2; omega)
          replace hO := hO.chg k10 (fun b _ h1 h2 => by have h3 : b = g9b := h2; omega)
          replace h := h.chg k10 (fun b _ h1 h2 => by have h3 : b = g9b := h2; omega)
          replace hr := hr.chg k10 (fun b _ h1 h2 => by have h3 : b = g9b := h2; omega)
          replace hw := hw.chg k10 (fun b h1 h2 => by have h3 : b = g9b := h2; omega)
          refine WL.nil (WX.then_normal (WC.region (WL.move rfl rfl (WL.move rfl rfl (?_)))))
          have hsl : (r.xs.set k y).length = ([] ++ r.xs).length := by rw [List.length_set, List.nil_append]
          refine WL.build (e := erow) [(⟨a9, c9, r.xs.set k y⟩ : Rw)] Try.underlying22 Try.sizeOf23 Try.zeroValue23 rfl rfl (by simp [erow, Enc.all, Value.cells]) (by simp [Value.cells]; rfl) (by decide) rfl ?_
          intro aqr wqr hqr lqr zqr kqr
          have zs_kqr := kqr.size
          replace hC := hC.pure kqr
          replace hO := hO.pure kqr
          replace h := h.pure kqr
          replace hr := hr.pure kqr
          replace hw := hw.pure kqr
          replace hQ3 := hQ3.pure kqr
          refine WL.append (e := erow) (S := fun b => n0 ≤ b) info_23 rfl Try.underlying22 rfl rfl (hC.outer.mono (fun b hb => hb.1)) (hqr.rsl.src Try.underlying22) (by show (ms.length + 1) * 24 ≤ _ ∧ ms.length + 1 ≤ _; constructor <;> omega) (fun b hb => by omega) rfl ?_
          intro a15 c15 w15 hO15 g15 n15
          have zk15 := g15.chg.size
          have hQ4 := hQ3
          rw [← hg9] at hQ4
          have hC15 := hC.snoc (r := ⟨a9, c9, r.xs.set k y⟩) hQ4.lt.rsl hwn (by omega) hO15 g15
          replace hO := hO.chg g15.chg (fun b _ h1 h2 => by have h3 := h1.2; have h4 := h2.2; omega)
          replace h := h.chg g15.chg (fun b _ h1 h2 => by have h4 := h2.2; omega)
          replace hr := hr.chg g15.chg (fun b _ h1 h2 => by have h4 := h2.2; omega)
          replace hw := hw.chg g15.chg (fun b h1 h2 => by have h4 := h2.2; omega)
          refine WL.assign rfl rfl (WL.nil (WX.block_normal (WX.then_normal (WC.region (WL.move rfl rfl (WL.add64 rfl rfl (by first | omega | (constructor <;> omega)) rfl (WL.assign rfl rfl (?_))))))))
          refine WL.nil (?_)
          first
            | exact WX.loop_next (i + 1, a15, c15, w15.heap.size, ms ++ [⟨a9, c9, r.xs.set k y⟩]) ⟨rfl, rfl, rfl, rfl, rfl, rfl, rfl, trivial⟩ ⟨by show i + 1 ≤ _; omega, ⟨by show (ms ++ [_]).length = _; simp [hmsl], fun j r' z hr' hz => (by
                rcases get_snoc hz with h1 | ⟨h1, h2⟩
                ·
                  exact hms j r' z hr' h1
                ·
                  rw [h1, hmsl, hri] at hr'
                  injection hr' with hr'
                  rw [h2, ← hr', h1, hmsl, hyd])⟩, hC15, ⟨by show n0 ≤ w15.heap.size; omega, Nat.le_refl _⟩, hO, h, hr, hw⟩ (by show rs.length - (i + 1) < rs.length - i; omega)
            | exact WX.loop_next (k + 1, a16, c16, out ++ [mul (inv d) (det rs.length (setc (fn (mx rs)) k (fun i => rgt.getD i 0)))]) ⟨rfl, rfl, rfl, rfl, rfl, trivial⟩ ⟨by show k + 1 ≤ _; omega, ⟨by show (out ++ [_]).length = _; simp [hol], fun p hp => (by
                show (out ++ [_]).getD p 0 = _
                rw [List.getD_eq_getElem?_getD]
                rcases Nat.lt_or_ge p k with h1 | h1
                ·
                  rw [List.getElem?_append_left (by omega), ← List.getD_eq_getElem?_getD]
                  exact hov p h1
                ·
                  have h2 : p < k + 1 := hp
                  rw [List.getElem?_append_right (by omega), show p - out.length = 0 by omega, show p = k by omega]
                  rfl)⟩, hO16, h, hr, hw⟩ (by show rs.length - (k + 1) < rs.length - k; omega)
        ·
          refine WL.nil (WX.then_normal (WC.cond_false rfl (WC.exit (WX.then_exit (WX.then_exit (WX.block_here (WX.then_normal (?_))))))))
          refine WC.region (WL.move rfl rfl (WL.move rfl rfl (WL.move rfl rfl (?_))))
          have hin : i = rs.length := by omega
          subst hin
          have hmrows : ∀ z ∈ ms, z.xs.length = rs.length := fun z hz => by
            obtain ⟨j, hj⟩ := List.getElem?_of_mem hz
            have hjl := (List.getElem?_eq_some_iff.1 hj).1
            obtain ⟨r, hrj⟩ : ∃ r, rs[j]? = some r := ⟨_, List.getElem?_eq_getElem (by omega)⟩
            rw [hms j r z hrj hj, List.length_set]
            exact hrows r (List.mem_of_getElem? hrj)
          have hdet : det rs.length (fn (mx ms)) = det rs.length (setc (fn (mx rs)) k (fun i => rgt.getD i 0)) := det_cong (fun p q hp hq => by
            obtain ⟨r, hrp⟩ : ∃ r, rs[p]? = some r := ⟨_, List.getElem?_eq_getElem (by omega)⟩
            obtain ⟨z, hz⟩ : ∃ z, ms[p]? = some z := ⟨_, List.getElem?_eq_getElem (by omega)⟩
            have h1 := hrows r (List.mem_of_getElem? hrp)
            rw [fn_mx hz, hms p r z hrp hz, List.getD_eq_getElem?_getD, List.getElem?_set]
            show _ = if q = k then rgt.getD p 0 else fn (mx rs) p q
            by_cases e : k = q
            ·
              rw [if_pos e, if_pos (by omega), if_pos e.symm]; rfl
            ·
              rw [if_neg e, if_neg (fun e2 => e e2.symm), ← List.getD_eq_getElem?_getD, fn_mx hrp])
          refine WL.call eg_25 rfl rfl (Det_calls rs.length hmsl hn8.2 hmrows hC.read) ?_
          rintro v w6 ⟨rfl, k6⟩
          rw [hdet]
          have zs_k6 := k6.size
          replace hO := hO.pure k6
          replace h := h.pure k6
          replace hr := hr.pure k6
          replace hw := hw.pure k6
          refine WL.call eg_27 rfl rfl (refMul_calls _ _ _) ?_
          rintro v w7 ⟨rfl, k7⟩
          have zs_k7 := k7.size
          replace hO := hO.pure k7
          replace h := h.pure k7
          replace hr := hr.pure k7
          replace hw := hw.pure k7
          refine WL.build (e := eb) [mul (inv d) (det rs.length (setc (fn (mx rs)) k (fun i => rgt.getD i 0)))] Try.underlying23 Try.sizeOf5 Try.zeroValue5 rfl rfl rfl (by first | (simp [Value.cells]; done) | (simp [Value.cells] <;> rfl) | (simp [Value.cells, eb, ei, es, ebool, e32, e64]; done)) (by decide) rfl ?_
          intro a_qn w_qn qn l_qn z_qn k_qn
          have zs_k_qn := k_qn.size
          replace hO := hO.pure k_qn
          replace h := h.pure k_qn
          replace hr := hr.pure k_qn
          replace hw := hw.pure k_qn
          refine WL.append (e := eb) (S := fun b => w.heap.size ≤ b) info_5 rfl Try.underlying23 rfl rfl (hO.mono (fun b hb => hb.1)) (qn.rsl.src Try.underlying23) (by show (out.length + 1) * 1 ≤ _ ∧ out.length + 1 ≤ _; constructor <;> omega) (fun b hb => by have := hw.size; omega) rfl ?_
          intro a16 c16 w16 hO16 g16 n16
          replace h := h.chg g16.chg (fun b _ h1 h2 => by have h4 := h2.2; omega)
          replace hr := hr.chg g16.chg (fun b _ h1 h2 => by have h4 := h2.2; omega)
          replace hw := hw.chg g16.chg (fun b h1 h2 => by have h4 := h2.2; omega)
          refine WL.assign rfl rfl (WL.nil (WX.block_normal (WX.then_normal (WC.region (WL.move rfl rfl (WL.add64 rfl rfl (by first | omega | (constructor <;> omega)) rfl (WL.assign rfl rfl (?_))))))))
          refine WL.nil (?_)
          first
            | exact WX.loop_next (i + 1, a15, c15, w15.heap.size, ms ++ [⟨a9, c9, r.xs.set k y⟩]) ⟨rfl, rfl, rfl, rfl, rfl, rfl, rfl, trivial⟩ ⟨by show i + 1 ≤ _; omega, ⟨by show (ms ++ [_]).length = _; simp [hmsl], fun j r' z hr' hz => (by
                rcases get_snoc hz with h1 | ⟨h1, h2⟩
                ·
                  exact hms j r' z hr' h1
                ·
                  rw [h1, hmsl, hri] at hr'
                  injection hr' with hr'
                  rw [h2, ← hr', h1, hmsl, hyd])⟩, hC15, ⟨by show n0 ≤ w15.heap.size; omega, Nat.le_refl _⟩, hO, h, hr, hw⟩ (by show rs.length - (i + 1) < rs.length - i; omega)
            | exact WX.loop_next (k + 1, a16, c16, out ++ [mul (inv d) (det rs.length (setc (fn (mx rs)) k (fun i => rgt.getD i 0)))]) ⟨rfl, rfl, rfl, rfl, rfl, trivial⟩ ⟨by show k + 1 ≤ _; omega, ⟨by show (out ++ [_]).length = _; simp [hol], fun p hp => (by
                show (out ++ [_]).getD p 0 = _
                rw [List.getD_eq_getElem?_getD]
                rcases Nat.lt_or_ge p k with h1 | h1
                ·
                  rw [List.getElem?_append_left (by omega), ← List.getD_eq_getElem?_getD]
                  exact hov p h1
                ·
                  have h2 : p < k + 1 := hp
                  rw [List.getElem?_append_right (by omega), show p - out.length = 0 by omega, show p = k by omega]
                  rfl)⟩, hO16, h, hr, hw⟩ (by show rs.length - (k + 1) < rs.length - k; omega)
      ·
        refine WL.nil (WX.then_normal (WC.cond_false rfl (WC.exit (WX.then_exit (WX.then_exit (WX.block_here (WX.then_normal (?_))))))))
        refine WC.seq (WC.region (WL.move rfl rfl (WL.assign rfl rfl (WL.assign rfl rfl (WL.nil (WX.then_normal (WC.ret (?_))))))))
        refine WX.ret2 (.inl rfl) Try.results12 rfl rfl ?_
        have hkn : k = rs.length := by omega
        subst hkn
        refine ⟨_, rfl, ⟨ax, cx, out, 0, rfl, .inr (.inl ⟨hsh, rfl, by rw [hml]; exact hol, fun z => ?_⟩), hO⟩, hw⟩
        rw [hml]
        refine (det_sol (r := fun i => rgt.getD i 0) (by rw [← hd]; exact hd0) z).trans ?_
        constructor
        ·
          intro hz p hp
          rw [hz p hp, hov p hp, hd]
        ·
          intro hz p hp
          rw [hz p hp, hov p hp, hd]
end Go.Proofs.Ytjdbjdgobhjbkaa
namespace Go.Proofs.Ytjdbjdgobhjbkaa
open Go.RowKit Go.HL

theorem rebuild_bad {S S2 : Nat → Prop} {w : World} {ao ab : Option Addr} {c cb : Nat} {rs : List Rw} {bad : List Int} (hc : RS S w ao c rs) (hb : RSl S2 w ei ab cb bad) (hl : rs.length * 24 ≤ 140737488351232) (hbl : bad.length ≤ 140737488351232) (he : errB (xss rs) bad ≠ 0) :
    Calls Try.prog 19 [.slice ao rs.length c, .slice ab bad.length cb].toArray w (Ret fun v w' => v = .tuple #[.slice none 0 0, vi (errB (xss rs) bad)] ∧ Chg Nob w w') := by
  replace hc := hc.old
  replace hb := hb.old
  have hw := Chg.refl Nob w
  refine Calls.of_WC Try.func19 rfl Try.ntmps19 (by simp) ?_
  refine WC.seq (WC.region (WL.assign rfl rfl (WL.assign rfl rfl (WL.nil (WX.then_normal (WC.seq (WC.region (?_))))))))
  refine WL.move rfl rfl (WL.move rfl rfl (?_))
  refine WL.call eg_38 rfl rfl (right_calls hc hb hl hbl) ?_
  rintro v w1 ⟨rfl, k1⟩
  have zs_k1 := k1.size
  replace hc := hc.pure k1
  replace hb := hb.pure k1
  replace hw := hw.pure k1
  refine WL.move rfl rfl (WL.extract rfl rfl rfl (WL.extract rfl rfl rfl (WL.assign rfl rfl (WL.assign rfl rfl (WL.nil (WX.then_normal (WC.seq (?_))))))))
  refine WC.seq (WC.region (WL.move rfl rfl (?_)))
  refine WL.neqT rfl rfl rfl (by first | rfl | omega | decide) ?_
  refine WL.nil (WX.then_normal (WC.cond_true rfl (WC.seq (WC.region (WL.move rfl rfl (WL.assign rfl rfl (WL.assign rfl rfl (?_))))))))
  refine WL.nil (WX.then_normal (WC.ret (WX.then_ret (?_))))
  refine WX.ret2 (.inl rfl) Try.results19 rfl rfl ?_
  exact ⟨_, rfl, rfl, hw⟩
set_option maxHeartbeats 8000000 in
theorem rebuild_good {S S2 : Nat → Prop} {w : World} {ao ab : Option Addr} {c cb k n : Nat} {rs : List Rw} {bad : List Int} (hc : RS S w ao c rs) (hb : RSl S2 w ei ab cb bad) (hk : rs.length = k + 3) (hk1 : 1 ≤ k ∧ k ≤ 13) (he : errB (xss rs) bad = 0) (hb3 : bad.length ≤ 3) (hn : lenB (xss rs) bad = (n : Int)) (hev : EvenB (xss rs) bad n) :
    Calls Try.prog 19 [.slice ao rs.length c, .slice ab bad.length cb].toArray w (Ret fun v w' => (∃ go N ps, v = .tuple #[.slice (some ⟨go, 0, none⟩) (k + 3) (k + 3), vi 0] ∧ OB w' 23 5 go N ps ∧ w.heap.size ≤ go ∧ RB (xss rs) bad k n (xss ps)) ∧ Chg Nob w w') := by
  replace hc := hc.old
  replace hb := hb.old
  have hw := Chg.refl Nob w
  have hn1 := hev.1
  refine Calls.of_WC Try.func19 rfl Try.ntmps19 (by simp) ?_
  refine WC.seq (WC.region (WL.assign rfl rfl (WL.assign rfl rfl (WL.nil (WX.then_normal (WC.seq (WC.region (?_))))))))
  refine WL.move rfl rfl (WL.move rfl rfl (?_))
  refine WL.call eg_38 rfl rfl (right_calls hc hb (by omega) (by omega)) ?_
  rintro v w1 ⟨rfl, k1⟩
  rw [he, if_pos rfl, hn]
  have zs_k1 := k1.size
  replace hc := hc.pure k1
  replace hb := hb.pure k1
  replace hw := hw.pure k1
  refine WL.move rfl rfl (WL.extract rfl rfl rfl (WL.extract rfl rfl rfl (WL.assign rfl rfl (WL.assign rfl rfl (WL.nil (WX.then_normal (WC.seq (?_))))))))
  refine WC.seq (WC.region (WL.move rfl rfl (?_)))
  refine WL.neqF rfl rfl rfl (by first | rfl | omega | decide) ?_
  refine WL.nil (WX.then_normal (WC.cond_false rfl (WC.skip (WX.then_normal (WC.seq (WC.region (WL.move rfl rfl (?_))))))))
  refine WL.len Try.underlying22 rfl rfl (?_)
  refine WL.sub64 rfl rfl (by constructor <;> omega) rfl ?_
  rw [show ((rs.length : Int) - 3) = (k : Int) from by omega]
  refine WL.assign rfl rfl (WL.nil (WX.then_normal (WC.seq (WC.region (WL.move rfl rfl (WL.len Try.underlying22 rfl rfl (?_)))))))
  refine WL.make (e := erow) ⟨none, 0, []⟩ (k + 3) (k + 3) Try.underlying22 info_23 rfl rfl rfl ⟨by show (rs.length : Int) = _; omega, by show (rs.length : Int) = _; omega, Nat.le_refl _⟩ (by constructor <;> omega) rfl ?_
  intro go wq hq kq zq ego
  rw [List.length_replicate]
  have zs_kq := kq.size
  replace hc := hc.pure kq
  replace hb := hb.pure kq
  replace hw := hw.pure kq
  refine WL.assign rfl rfl (WL.nil (WX.then_normal (WC.seq (WC.region (WL.assign rfl rfl (WL.nil (WX.then_normal (?_))))))))
  refine WC.seq (WC.seq (WC.region (WL.move rfl rfl (WL.len Try.underlying22 rfl rfl (WL.move rfl rfl (WL.nil (WX.then_normal (?_))))))))
  refine WC.block (?_)
  have zw0 := hw.size
  have hgo : w.heap.size ≤ go := by omega
  have hO : OB wq 23 5 go wq.heap.size (List.replicate (k + 3) ⟨none, 0, []⟩) := ⟨⟨(fun a ea => by injection ea with ea; subst ea; rfl), (by have h9 := hq.own; rw [List.length_replicate] at h9 ⊢; exact h9)⟩, (fun i r hr => .inl ((RI.start (xss rs) bad k n).nil i r hr (.inl (Nat.zero_le _)))), (fun i j r s g hr _ hg _ => by rw [(RI.start (xss rs) bad k n).nil i r hr (.inl (Nat.zero_le _))] at hg; cases hg), (by omega)⟩
  have hA : Row (fun b => w.heap.size ≤ b ∧ b ≠ go ∧ ∀ r ∈ (List.replicate (k + 3) (⟨none, 0, []⟩ : Rw)), r.ao ≠ some ⟨b, 0, none⟩) wq 3 ei none 0 (li (lostL (min 0 k) bad)) := by rw [Nat.zero_min]; exact Row.nil _ _ _ _
  refine WC.loop (σ := Nat × (Option Addr × Nat) × List Rw) (fun s => [(0, .slice ao rs.length c), (1, .slice ab bad.length cb), (6, vi n), (8, vi k), (9, .slice (some ⟨go, 0, none⟩) (k + 3) (k + 3)), (10, .slice s.2.1.1 (li (lostL (min s.1 k) bad)).length s.2.1.2), (32, .slice ao rs.length c), (33, vi rs.length), (34, vi s.1)])
    (fun s w' => s.1 ≤ rs.length ∧ RI (xss rs) bad k n s.1 s.2.2 ∧ OB w' 23 5 go w'.heap.size s.2.2 ∧ Row (fun b => w.heap.size ≤ b ∧ b ≠ go ∧ ∀ r ∈ s.2.2, r.ao ≠ some ⟨b, 0, none⟩) w' 3 ei s.2.1.1 s.2.1.2 (li (lostL (min s.1 k) bad)) ∧ RS (· < w.heap.size) w' ao c rs ∧ RSl (· < w.heap.size) w' ei ab cb bad ∧ Chg Nob w w') (fun s => rs.length - s.1) (0, (none, 0), List.replicate (k + 3) ⟨none, 0, []⟩) ⟨rfl, rfl, rfl, rfl, rfl, by show some (Value.slice none 0 0) = some (Value.slice none (li (lostL (min 0 k) bad)).length 0); rw [Nat.zero_min]; rfl, rfl, rfl, rfl, trivial⟩ ⟨Nat.zero_le _, RI.start _ _ _ _, hO, hA, hc, hb, hw⟩ ?_
  clear hO hA hq hc hb hw
  rintro ⟨i, ⟨al, cl⟩, rs1⟩ w2 ⟨hi, hI, hO, hA, hc, hb, hw⟩
  simp only at hi hI hO hA
  dsimp only
  replace hA := hA.lt
  have zw2 := hw.size
  obtain ⟨N2, hN2⟩ : ∃ N2, N2 = w2.heap.size := ⟨_, rfl⟩
  rw [← hN2] at hO hA
  have hNw : N2 ≤ w2.heap.size := by omega
  have hil := hI.len
  refine WC.seq (WC.region (?_))
  refine WL.lss? rfl rfl rfl (fun h35 => ?_) (fun h35 => ?_)
  ·
    refine WL.nil (WX.then_normal (WC.seq (WC.cond_true rfl (WC.skip (WX.then_normal (WC.seq (WC.block (?_))))))))
    refine WC.seq (WC.region (WL.move rfl rfl (?_)))
    obtain ⟨r, hr⟩ : ∃ r, rs[i]? = some r := ⟨_, List.getElem?_eq_getElem (by omega)⟩
    have hrx := xss_at hr
    refine WL.indexT Try.underlying22 Try.sizeOf23 hc.outer rfl rfl ⟨hr, rfl⟩ rfl ?_
    intro b_1 o_1 hc_1
    refine WL.load Try.isAgg23 rfl (hc_1 0 _ rfl) rfl (WL.assign rfl rfl (WL.assign rfl rfl (WL.nil (WX.then_normal (WC.block (WC.seq (WC.region (?_))))))))
    refine WL.move rfl rfl (WL.move rfl rfl (?_))
    refine WL.call eg_39 rfl rfl (contains_calls hb (by omega) _) ?_
    rintro v w3 ⟨rfl, k3⟩
    have zs_k3 := k3.size
    replace hO := hO.pure k3
    replace hA := hA.pure k3
    replace hc := hc.pure k3
    replace hb := hb.pure k3
    replace hw := hw.pure k3
    by_cases hbi : (i : Int) ∈ bad
    ·
      rw [decide_eq_true hbi]
      refine WL.not rfl rfl (WL.assign rfl rfl (WL.nil (WX.then_normal (WC.cond_false rfl (WC.seq (WC.region (WL.move rfl rfl (?_))))))))
      refine WL.move rfl rfl (?_)
      refine WL.lss? rfl rfl rfl (fun h52 => ?_) (fun h52 => ?_)
      ·
        refine WL.assign rfl rfl (WL.nil (WX.then_normal (WC.cond_true rfl (WC.seq (WC.region (WL.move rfl rfl (WL.move rfl rfl (?_))))))))
        refine WL.move rfl rfl (?_)
        refine WL.make (e := eb) (0 : UInt8) n n Try.underlying23 info_5 rfl rfl rfl ⟨rfl, rfl, Nat.le_refl _⟩ (by constructor <;> omega) rfl ?_
        intro g wg hg9 kg zg eg
        rw [List.length_replicate]
        have hg : Row (fun b => b = g) wg 5 eb (some ⟨g, 0, none⟩) n (List.replicate n 0) := ⟨(fun a ea => by injection ea with ea; subst ea; rfl), hg9.own⟩
        clear hg9
        have zs_kg := kg.size
        replace hO := hO.pure kg
        replace hA := hA.pure kg
        replace hc := hc.pure kg
        replace hb := hb.pure kg
        replace hw := hw.pure kg
        refine WL.index (sz := 1) (j := i) Try.underlying22 Try.sizeOf23 rfl rfl rfl (by omega) rfl ?_
        refine WL.storeRow (z := ⟨some ⟨g, 0, none⟩, n, List.replicate n 0⟩) i Try.sizeOf23 hO.outer rfl (by show [Value.slice (some ⟨g, 0, none⟩) (List.replicate n 0).length n] = _; rw [List.length_replicate]) rfl (by show 0 + i * 1 = i; omega) (by omega) rfl ?_
        intro w5 z5 ho5 k5
        have zk5 := k5.size
        have hgl : g < _ := hg.own.lt _ rfl
        have hO5 := (hO.put (by omega) (by omega) hg k5 ho5).up (N' := w5.heap.size) (by omega)
        have hI5 := hI.put (g := g) (cr := n) (xs := List.replicate n 0) (fun h => by omega) (by omega) (by rw [List.length_replicate]) (fun h => absurd hbi h) (fun _ => rfl)
        have hA5 := (hA.chg k5 (fun b _ h1 h2 => h1.1.2.1 h2)).mono (S' := fun b => w.heap.size ≤ b ∧ b ≠ go ∧ ∀ s ∈ rs1.set i ⟨some ⟨g, 0, none⟩, n, List.replicate n 0⟩, s.ao ≠ some ⟨b, 0, none⟩) (fun b h => ⟨h.1.1, h.1.2.1, fun s hs e => by
          rcases List.mem_or_eq_of_mem_set hs with h1 | h1
          ·
            exact h.1.2.2 s h1 e
          ·
            rw [h1] at e
            injection e with e
            injection e with e
            have := h.2
            omega⟩)
        replace hc := hc.chg k5 (fun b _ h1 h2 => by have h3 : b = go := h2; omega)
        replace hb := hb.chg k5 (fun b _ h1 h2 => by have h3 : b = go := h2; omega)
        replace hw := hw.chg k5 (fun x h0 h2 => by have h3 : x = go := h2; omega)
        refine WL.nil (WX.then_normal (WC.region (WL.move rfl rfl (WL.move rfl rfl (?_)))))
        refine WL.build (e := ei) [(i : Int)] Try.underlying33 Try.sizeOf3 Try.zeroValue3 rfl rfl rfl (by first | (simp [Value.cells]; done) | (simp [Value.cells] <;> rfl) | (simp [Value.cells, eb, ei, es, ebool, e32, e64]; done)) (by decide) rfl ?_
        intro a_qn w_qn qn l_qn z_qn k_qn
        have zs_k_qn := k_qn.size
        replace hc := hc.pure k_qn
        replace hb := hb.pure k_qn
        replace hw := hw.pure k_qn
        replace hO5 := hO5.pure k_qn
        replace hA5 := hA5.pure k_qn
        have hlo5 := hO5.lo
        have hll : (li (lostL (min i k) bad)).length ≤ 16 := by
          rw [li_len, lostL]
          exact Nat.le_trans (List.length_filter_le _ _) (by rw [List.length_range]; omega)
        refine WL.append (e := ei) (xs := li (lostL (min i k) bad)) (S := fun b => w.heap.size ≤ b ∧ b ≠ go ∧ ∀ s ∈ rs1.set i ⟨some ⟨g, 0, none⟩, n, List.replicate n 0⟩, s.ao ≠ some ⟨b, 0, none⟩) info_3 rfl Try.underlying33 rfl rfl hA5 (qn.rsl.src Try.underlying33) (by constructor <;> (simp only [List.length_cons, List.length_nil]; omega)) (fun b hb => ⟨by omega, by omega, fun s hs e => by obtain ⟨j, hj⟩ := List.getElem?_of_mem hs; have := (hO5.at hj e).1; omega⟩) rfl ?_
        intro a9 c9 w9 hA9 g9 n9
        have k9 := g9.chg
        have zk9 := k9.size
        have hO9 := (hO5.chg2 k9 (fun h => h.2.2.1 rfl) (fun s hs gg e h => h.2.2.2 s hs e)).up (N' := w9.heap.size) (by omega)
        replace hc := hc.chg k9 (fun b _ h1 h2 => by have := h2.2.1; omega)
        replace hb := hb.chg k9 (fun b _ h1 h2 => by have := h2.2.1; omega)
        replace hw := hw.chg k9 (fun x h0 h2 => by have := h2.2.1; omega)
        have e9 : li (lostL (min i k) bad) ++ [(i : Int)] = li (lostL (min (i + 1) k) bad) := by
          rw [Nat.min_eq_left (by omega), Nat.min_eq_left (by omega), lost_next, if_pos hbi, li_app]
          rfl
        rw [e9] at hA9 ⊢
        refine WL.assign rfl rfl (WL.nil (WX.block_normal (WX.block_normal (WX.then_normal (WC.region (WL.add64 rfl rfl (by first | omega | (constructor <;> omega)) rfl (WL.move rfl rfl (?_))))))))
        refine WL.nil (?_)
        first
          | (have hle : lostL (min (i + 1) k) bad = lostL (min i k) bad := by
               rcases Nat.lt_or_ge i k with h | h
               ·
                 rw [Nat.min_eq_left (by omega), Nat.min_eq_left (by omega), lost_next, if_neg hbi, List.append_nil]
               ·
                 rw [Nat.min_eq_right (by omega), Nat.min_eq_right (by omega)]
             rw [← hle] at hA5 ⊢
             exact WX.loop_next (i + 1, (al, cl), rs1.set i ⟨some ⟨g, 0, none⟩, cg, r.xs⟩) ⟨rfl, rfl, rfl, rfl, rfl, rfl, rfl, rfl, rfl, trivial⟩ ⟨by show i + 1 ≤ _; omega, hI5, hO5, hA5, hc, hb, hw⟩ (by show rs.length - (i + 1) < rs.length - i; omega))
          | exact WX.loop_next (q + 1, rs4.set (k + q) ⟨some ⟨g, 0, none⟩, n, x⟩) ⟨rfl, rfl, rfl, rfl, rfl, trivial⟩ ⟨by show q + 1 ≤ 3; omega, hFI5, hO5, hP5, hw⟩ (by show 3 - (q + 1) < 3 - q; omega)
          | exact WX.loop_next (q + 1, rs4) ⟨rfl, rfl, rfl, rfl, rfl, trivial⟩ ⟨by show q + 1 ≤ 3; omega, hFI.skip hbq, hO4, hP, hw⟩ (by show 3 - (q + 1) < 3 - q; omega)
          | exact WX.loop_next (i + 1, (a9, c9), rs1.set i ⟨some ⟨g, 0, none⟩, n, List.replicate n 0⟩) ⟨rfl, rfl, rfl, rfl, rfl, rfl, rfl, rfl, rfl, trivial⟩ ⟨by show i + 1 ≤ _; omega, hI5, hO9, hA9, hc, hb, hw⟩ (by show rs.length - (i + 1) < rs.length - i; omega)
          | (have hle : lostL (min (i + 1) k) bad = lostL (min i k) bad := by
               rw [Nat.min_eq_right (by omega), Nat.min_eq_right (by omega)]
             have hA5 := hA.mono (S' := fun b => w.heap.size ≤ b ∧ b ≠ go ∧ ∀ s ∈ rs1, s.ao ≠ some ⟨b, 0, none⟩) (fun b h => h.1)
             rw [← hle] at hA5 ⊢
             exact WX.loop_next (i + 1, (al, cl), rs1) ⟨rfl, rfl, rfl, rfl, rfl, rfl, rfl, rfl, rfl, trivial⟩ ⟨by show i + 1 ≤ _; omega, hI.skip ⟨by omega, hbi⟩, hO.up (by omega), hA5, hc, hb, hw⟩ (by show rs.length - (i + 1) < rs.length - i; omega))
      ·
        refine WL.assign rfl rfl (WL.nil (WX.then_normal (WC.cond_false rfl (WC.skip (WX.block_normal (WX.block_normal (WX.then_normal (?_))))))))
        refine WC.region (WL.add64 rfl rfl (by first | omega | (constructor <;> omega)) rfl (WL.move rfl rfl (WL.nil (?_))))
        first
          | (have hle : lostL (min (i + 1) k) bad = lostL (min i k) bad := by
               rcases Nat.lt_or_ge i k with h | h
               ·
                 rw [Nat.min_eq_left (by omega), Nat.min_eq_left (by omega), lost_next, if_neg hbi, List.append_nil]
               ·
                 rw [Nat.min_eq_right (by omega), Nat.min_eq_right (by omega)]
             rw [← hle] at hA5 ⊢
             exact WX.loop_next (i + 1, (al, cl), rs1.set i ⟨some ⟨g, 0, none⟩, cg, r.xs⟩) ⟨rfl, rfl, rfl, rfl, rfl, rfl, rfl, rfl, rfl, trivial⟩ ⟨by show i + 1 ≤ _; omega, hI5, hO5, hA5, hc, hb, hw⟩ (by show rs.length - (i + 1) < rs.length - i; omega))
          | exact WX.loop_next (q + 1, rs4.set (k + q) ⟨some ⟨g, 0, none⟩, n, x⟩) ⟨rfl, rfl, rfl, rfl, rfl, trivial⟩ ⟨by show q + 1 ≤ 3; omega, hFI5, hO5, hP5, hw⟩ (by show 3 - (q + 1) < 3 - q; omega)
          | exact WX.loop_next (q + 1, rs4) ⟨rfl, rfl, rfl, rfl, rfl, trivial⟩ ⟨by show q + 1 ≤ 3; omega, hFI.skip hbq, hO4, hP, hw⟩ (by show 3 - (q + 1) < 3 - q; omega)
          | exact WX.loop_next (i + 1, (a9, c9), rs1.set i ⟨some ⟨g, 0, none⟩, n, List.replicate n 0⟩) ⟨rfl, rfl, rfl, rfl, rfl, rfl, rfl, rfl, rfl, trivial⟩ ⟨by show i + 1 ≤ _; omega, hI5, hO9, hA9, hc, hb, hw⟩ (by show rs.length - (i + 1) < rs.length - i; omega)
          | (have hle : lostL (min (i + 1) k) bad = lostL (min i k) bad := by
               rw [Nat.min_eq_right (by omega), Nat.min_eq_right (by omega)]
             have hA5 := hA.mono (S' := fun b => w.heap.size ≤ b ∧ b ≠ go ∧ ∀ s ∈ rs1, s.ao ≠ some ⟨b, 0, none⟩) (fun b h => h.1)
             rw [← hle] at hA5 ⊢
             exact WX.loop_next (i + 1, (al, cl), rs1) ⟨rfl, rfl, rfl, rfl, rfl, rfl, rfl, rfl, rfl, trivial⟩ ⟨by show i + 1 ≤ _; omega, hI.skip ⟨by omega, hbi⟩, hO.up (by omega), hA5, hc, hb, hw⟩ (by show rs.length - (i + 1) < rs.length - i; omega))
    ·
      have hrl : r.xs.length = n := hev.2.2 i r.xs hrx hbi
      rw [decide_eq_false hbi]
      refine WL.not rfl rfl (WL.assign rfl rfl (WL.nil (WX.then_normal (WC.cond_true rfl (WC.region (WL.move rfl rfl (WL.move rfl rfl (?_))))))))
      refine WL.move rfl rfl (?_)
      refine WL.call eg_40 rfl rfl (bclone_calls (hc.at hr) (by omega) (by omega)) ?_
      rintro v w4 ⟨⟨g, cg, rfl, hg, hgN⟩, k4⟩
      have zs_k4 := k4.size
      replace hO := hO.pure k4
      replace hA := hA.pure k4
      replace hc := hc.pure k4
      replace hb := hb.pure k4
      replace hw := hw.pure k4
      refine WL.index (sz := 1) (j := i) Try.underlying22 Try.sizeOf23 rfl rfl rfl (by omega) rfl ?_
      refine WL.storeRow (z := ⟨some ⟨g, 0, none⟩, cg, r.xs⟩) i Try.sizeOf23 hO.outer rfl rfl rfl (by show 0 + i * 1 = i; omega) (by omega) rfl ?_
      intro w5 z5 ho5 k5
      have zk5 := k5.size
      have hgl : g < _ := hg.own.lt _ rfl
      have hO5 := (hO.put (by omega) (by omega) hg k5 ho5).up (N' := w5.heap.size) (by omega)
      have hI5 := hI.put (g := g) (cr := cg) (xs := r.xs) (fun h => hbi h.2) (by omega) hrl (fun _ => hrx) (fun h => absurd h hbi)
      have hA5 := (hA.chg k5 (fun b _ h1 h2 => h1.1.2.1 h2)).mono (S' := fun b => w.heap.size ≤ b ∧ b ≠ go ∧ ∀ s ∈ rs1.set i ⟨some ⟨g, 0, none⟩, cg, r.xs⟩, s.ao ≠ some ⟨b, 0, none⟩) (fun b h => ⟨h.1.1, h.1.2.1, fun s hs e => by
        rcases List.mem_or_eq_of_mem_set hs with h1 | h1
        ·
          exact h.1.2.2 s h1 e
        ·
          rw [h1] at e
          injection e with e
          injection e with e
          have := h.2
          omega⟩)
      replace hc := hc.chg k5 (fun b _ h1 h2 => by have h3 : b = go := h2; omega)
      replace hb := hb.chg k5 (fun b _ h1 h2 => by have h3 : b = go := h2; omega)
      replace hw := hw.chg k5 (fun x h0 h2 => by have h3 : x = go := h2; omega)
      refine WL.nil (WX.block_normal (WX.block_normal (WX.then_normal (WC.region (WL.add64 rfl rfl (by first | omega | (constructor <;> omega)) rfl (WL.move rfl rfl (WL.nil (?_))))))))
      first
        | (have hle : lostL (min (i + 1) k) bad = lostL (min i k) bad := by
             rcases Nat.lt_or_ge i k with h | h
             ·
               rw [Nat.min_eq_left (by omega), Nat.min_eq_left (by omega), lost_next, if_neg hbi, List.append_nil]
             ·
               rw [Nat.min_eq_right (by omega), Nat.min_eq_right (by omega)]
           rw [← hle] at hA5 ⊢
           exact WX.loop_next (i + 1, (al, cl), rs1.set i ⟨some ⟨g, 0, none⟩, cg, r.xs⟩) ⟨rfl, rfl, rfl, rfl, rfl, rfl, rfl, rfl, rfl, trivial⟩ ⟨by show i + 1 ≤ _; omega, hI5, hO5, hA5, hc, hb, hw⟩ (by show rs.length - (i + 1) < rs.length - i; omega))
        | exact WX.loop_next (q + 1, rs4.set (k + q) ⟨some ⟨g, 0, none⟩, n, x⟩) ⟨rfl, rfl, rfl, rfl, rfl, trivial⟩ ⟨by show q + 1 ≤ 3; omega, hFI5, hO5, hP5, hw⟩ (by show 3 - (q + 1) < 3 - q; omega)
        | exact WX.loop_next (q + 1, rs4) ⟨rfl, rfl, rfl, rfl, rfl, trivial⟩ ⟨by show q + 1 ≤ 3; omega, hFI.skip hbq, hO4, hP, hw⟩ (by show 3 - (q + 1) < 3 - q; omega)
        | exact WX.loop_next (i + 1, (a9, c9), rs1.set i ⟨some ⟨g, 0, none⟩, n, List.replicate n 0⟩) ⟨rfl, rfl, rfl, rfl, rfl, rfl, rfl, rfl, rfl, trivial⟩ ⟨by show i + 1 ≤ _; omega, hI5, hO9, hA9, hc, hb, hw⟩ (by show rs.length - (i + 1) < rs.length - i; omega)
        | (have hle : lostL (min (i + 1) k) bad = lostL (min i k) bad := by
             rw [Nat.min_eq_right (by omega), Nat.min_eq_right (by omega)]
           have hA5 := hA.mono (S' := fun b => w.heap.size ≤ b ∧ b ≠ go ∧ ∀ s ∈ rs1, s.ao ≠ some ⟨b, 0, none⟩) (fun b h => h.1)
           rw [← hle] at hA5 ⊢
           exact WX.loop_next (i + 1, (al, cl), rs1) ⟨rfl, rfl, rfl, rfl, rfl, rfl, rfl, rfl, rfl, trivial⟩ ⟨by show i + 1 ≤ _; omega, hI.skip ⟨by omega, hbi⟩, hO.up (by omega), hA5, hc, hb, hw⟩ (by show rs.length - (i + 1) < rs.length - i; omega))
  ·
    refine WL.nil (WX.then_normal (WC.seq (WC.cond_false rfl (WC.exit (WX.then_exit (WX.then_exit (WX.block_here (?_))))))))
    refine WX.then_normal (WC.seq (WC.region (?_)))
    refine WL.bld rfl bldF rfl ?_
    have him : i = rs.length := by omega
    refine WL.box rfl rfl ?_
    intro gx wx hgex hltx hbx kx
    have zs_kx := kx.size
    replace hO := hO.pure kx
    replace hA := hA.pure kx
    replace hc := hc.pure kx
    replace hb := hb.pure kx
    replace hw := hw.pure kx
    refine WL.assign rfl rfl (WL.nil (WX.then_normal (WC.seq (WC.seq (WC.region (WL.move rfl rfl (WL.move rfl rfl (?_))))))))
    refine WL.move rfl rfl (WL.move rfl rfl (WL.move rfl rfl (?_)))
    have emk : min i k = k := Nat.min_eq_right (by omega)
    rw [emk] at hA ⊢
    have hOx := hO.up (N' := gx) (by omega)
    have hLx : RSl (Off rs1 go gx) _ ei al cl (li (lostL k bad)) := hA.rsl.mono (fun b h => ⟨by have := h.2; omega, h.1.2.1, h.1.2.2⟩)
    have hh := heal_calls (.inl hbx) hOx hLx hk1 hil (by omega) hb3 (fun j r h1 h2 h3 => hI.nil j r h1 (.inr ⟨h2, h3⟩)) (fun j r h1 h2 => hI.real j r h1 (by have := (List.getElem?_eq_some_iff.1 h1).1; omega) h2) (fun j r h1 h2 => hI.zero j r h1 (by have := (List.getElem?_eq_some_iff.1 h1).1; omega) (lost_mem.1 h2).1 (lost_mem.1 h2).2)
    rw [hil] at hh
    refine WL.call eg_41 rfl rfl (hh) ?_
    rintro v w7 ⟨rfl, ⟨rs3, hH, hO3⟩, hF7, k7⟩
    have hl3 : rs3.length = k + 3 := by rw [hH.len]; exact hil
    replace hw := hw.chg k7 (fun x h0 h1 => by have h3 : go ≤ x := h1; omega)
    refine WL.assign rfl rfl (WL.nil (WX.then_normal (WC.seq (WC.region (WL.move rfl rfl (?_))))))
    refine WL.neqF rfl rfl rfl (by first | rfl | omega | decide) ?_
    refine WL.nil (WX.then_normal (WC.cond_false rfl (WC.skip (WX.then_normal (WC.seq (WC.seq (WC.region (?_))))))))
    refine WL.move rfl rfl (WL.move rfl rfl (WL.move rfl rfl (?_)))
    have hOr := hO3.toRS (S := fun b => b < gx) (fun x _ h => h)
    refine WL.slice (e := erow) (xs := rs3) (l := 0) (h := k) (k := .i64) (j := .i64) Try.underlying22 Try.sizeOf23 hOr.outer (by show some (Value.slice _ (k + 3) (k + 3)) = some (Value.slice _ rs3.length rs3.length); rw [hl3]) (.inr ⟨rfl, rfl⟩) (.inl rfl) ⟨Nat.zero_le _, by omega⟩ rfl ?_
    intro az cz hz1 nz
    refine WL.move rfl rfl (?_)
    have hcc : RS (fun b => b < gx) _ az cz ((rs3.take k).drop 0) := ⟨hz1, fun r h => hOr.inner r (List.mem_of_mem_take (List.mem_of_mem_drop h))⟩
    have hlk : ((rs3.take k).drop 0).length = k := by simp; omega
    have hgx7 := hF7.lt
    have hlo3 := hO3.lo
    have hblk3 : ∀ (j : Nat) (r : Rw) (g' : Nat), rs3[j]? = some r → r.ao = some ⟨g', 0, none⟩ → g' < gx := fun j r g' h1 h2 => (hO3.at h1 h2).1.2
    have hal : ∀ d ∈ xss ((rs3.take k).drop 0), d.length = n := fun d hd => by
      obtain ⟨j, hj⟩ := List.getElem?_of_mem hd
      have hjk : j < k := by have := (List.getElem?_eq_some_iff.1 hj).1; rw [xss_len, hlk] at this; exact this
      rw [xss_take, List.getElem?_take_of_lt hjk, xss, List.getElem?_map] at hj
      obtain ⟨r3, hr3⟩ : ∃ r3, rs3[j]? = some r3 := ⟨_, List.getElem?_eq_getElem (by omega)⟩
      rw [hr3] at hj
      injection hj with hj
      obtain ⟨r1, hr1, _, _, h5, _⟩ := hH.back hr3
      obtain ⟨_, _, h6⟩ := hI.real j r1 hr1 (by omega) (fun h => by omega)
      rw [← hj, h5, h6]
    refine WL.call eg_42 rfl rfl (sums_calls hF7 hcc (by omega) (by omega) hal) ?_
    rintro v w8 ⟨⟨g2, gs, rfl, hP, hgs3, hg2⟩, k8⟩
    obtain ⟨PP, hPP⟩ : ∃ PP, PP = three (xss ((rs3.take k).drop 0)) n ((rs3.take k).drop 0).length := ⟨_, rfl⟩
    rw [← hPP] at hP
    have hol : (orows gs n PP).length = 3 := by rw [orows_len hP.len, hgs3]
    have zk8 := k8.size
    have hg2l := hP.lto
    have hpx0 : ∀ q, q < 3 → ∃ g x, gs[q]? = some g ∧ (orows gs n PP)[q]? = some ⟨some ⟨g, 0, none⟩, n, x⟩ ∧ PP[q]? = some x ∧ g2 < g ∧ g < w8.heap.size := fun q hq => by
      obtain ⟨g, hg⟩ : ∃ g, gs[q]? = some g := ⟨_, List.getElem?_eq_getElem (by omega)⟩
      obtain ⟨x, hx⟩ : ∃ x, PP[q]? = some x := ⟨_, List.getElem?_eq_getElem (by rw [← hP.len, hgs3]; exact hq)⟩
      refine ⟨g, x, hg, ?_, hx, hP.above q g hg, hP.lt hg⟩
      have := orows_at (tl := []) (n := n) hg hx
      rwa [List.append_nil] at this
    replace hO3 := hO3.chg k8 (fun x _ h1 h2 => by have h3 : gx ≤ x := h2; omega)
    replace hw := hw.chg k8 (fun x h0 h1 => by have h3 : gx ≤ x := h1; omega)
    refine WL.len Try.underlying22 rfl rfl (WL.move rfl rfl (WL.nil (WX.then_normal (WC.block (?_)))))
    have hO4 := hO3.up (N' := w8.heap.size) (by omega)
    refine WC.loop (σ := Nat × List Rw) (fun s => [(8, vi k), (9, .slice (some ⟨go, 0, none⟩) (k + 3) (k + 3)), (79, .slice (some ⟨g2, 0, none⟩) 3 3), (80, vi 3), (81, vi s.1)])
      (fun s w' => s.1 ≤ 3 ∧ FI rs3 (orows gs n PP) bad k s.1 s.2 ∧ OB w' 23 5 go w8.heap.size s.2 ∧ OR w' 23 5 g2 3 gs n PP [] ∧ Chg Nob w w') (fun s => 3 - s.1) (0, rs3) ⟨rfl, rfl, rfl, rfl, rfl, trivial⟩ ⟨Nat.zero_le _, FI.start _ _ hl3, hO4, hP, hw⟩ ?_
    clear hO4 hO3 hP hw
    rintro ⟨q, rs4⟩ w9 ⟨hq, hFI, hO4, hP, hw⟩
    simp only at hq hFI hO4
    dsimp only
    refine WC.seq (WC.region (?_))
    refine WL.lss? rfl rfl rfl (fun h82 => ?_) (fun h82 => ?_)
    ·
      refine WL.nil (WX.then_normal (WC.seq (WC.cond_true rfl (WC.skip (WX.then_normal (WC.seq (WC.block (?_))))))))
      refine WC.seq (WC.region (WL.move rfl rfl (?_)))
      obtain ⟨g, x, hgq, hpx, hPx, hg2g, hg8⟩ := hpx0 q (by omega)
      have hPr := hP.outer.rsl
      rw [List.append_nil] at hPr
      refine WL.indexT (e := erow) Try.underlying22 Try.sizeOf23 hPr (by show some (Value.slice _ 3 3) = some (Value.slice _ (orows gs n PP).length 3); rw [hol]) rfl ⟨hpx, rfl⟩ rfl ?_
      intro bb oo hcc8
      refine WL.load Try.isAgg23 rfl (hcc8 0 _ rfl) rfl ?_
      refine WL.assign rfl rfl (WL.assign rfl rfl (WL.nil (WX.then_normal (WC.seq (WC.region (WL.move rfl rfl (WL.move rfl rfl (?_))))))))
      refine WL.move rfl rfl (?_)
      refine WL.add64 rfl rfl (by constructor <;> omega) rfl ?_
      rw [show ((k : Int) + (q : Int)) = ((k + q : Nat) : Int) from by omega]
      obtain ⟨r4, hr4⟩ : ∃ r, rs4[k + q]? = some r := ⟨_, List.getElem?_eq_getElem (by rw [hFI.len]; omega)⟩
      have hr43 : rs3[k + q]? = some r4 := by rw [← hr4, hFI.par q (by omega), if_neg (by omega)]
      obtain ⟨r1, hr1, hao1, _, _, _⟩ := hH.back hr43
      refine WL.indexT (e := erow) Try.underlying22 Try.sizeOf23 hO4.outer.rsl (by show some (Value.slice _ (k + 3) (k + 3)) = some (Value.slice _ rs4.length rs4.length); rw [hFI.len]) rfl ⟨hr4, rfl⟩ rfl ?_
      intro bb oo hcc9
      refine WL.load Try.isAgg23 rfl (hcc9 0 _ rfl) rfl ?_
      refine WL.isNil Try.underlying23 rfl rfl rfl ?_
      by_cases hbq : ((k + q : Nat) : Int) ∈ bad
      ·
        rw [show r4.ao.isNone = true from by rw [hao1, hI.nil (k + q) r1 hr1 (.inr ⟨by omega, hbq⟩)]; rfl]
        refine WL.nil (WX.then_normal (WC.cond_true rfl (WC.region (WL.move rfl rfl (WL.move rfl rfl (WL.move rfl rfl (?_)))))))
        refine WL.add64 rfl rfl (by constructor <;> omega) rfl ?_
        rw [show ((k : Int) + (q : Int)) = ((k + q : Nat) : Int) from by omega]
        refine WL.move rfl rfl (?_)
        refine WL.index (sz := 1) (j := k + q) Try.underlying22 Try.sizeOf23 rfl rfl rfl (by omega) rfl ?_
        have hfil := hFI.len
        refine WL.storeRow (z := ⟨some ⟨g, 0, none⟩, n, x⟩) (k + q) Try.sizeOf23 hO4.outer rfl rfl rfl (by show 0 + (k + q) * 1 = k + q; omega) (by omega) rfl ?_
        intro w5 z5 ho5 k5
        have hO5 := hO4.put2 (by omega) ⟨by omega, hg8⟩ (fun r hr e => by
          obtain ⟨j, hj⟩ := List.getElem?_of_mem hr
          have hjl := (List.getElem?_eq_some_iff.1 hj).1
          rcases Nat.lt_or_ge j k with h1 | h1
          ·
            rw [hFI.low j h1] at hj
            have := hblk3 j r g hj e
            omega
          ·
            obtain ⟨q', rfl⟩ : ∃ q', j = k + q' := ⟨j - k, by omega⟩
            rw [hFI.par q' (by omega)] at hj
            split at hj
            ·
              rename_i h2
              obtain ⟨g', x', hg', hp', _, _, _⟩ := hpx0 q' (by omega)
              rw [hp'] at hj
              injection hj with hj
              rw [← hj] at e
              injection e with e
              injection e with e
              subst e
              have := hP.apart q' q _ hg' hgq
              omega
            ·
              have := hblk3 _ r g hj e
              omega) (hP.inner q g x hgq hPx) k5 ho5
        have hP5 := hP.chg k5 ⟨fun h => by have h3 : g2 = go := h; omega, fun i' g' h1 h => by have h3 : g' = go := h; have := hP.above i' g' h1; omega⟩
        replace hw := hw.chg k5 (fun x h0 h1 => by have h3 : x = go := h1; omega)
        have hFI5 := hFI.put hbq (by omega) hpx
        refine WL.nil (WX.block_normal (WX.then_normal (WC.region (WL.add64 rfl rfl (by first | omega | (constructor <;> omega)) rfl (WL.move rfl rfl (WL.nil (?_)))))))
        first
          | (have hle : lostL (min (i + 1) k) bad = lostL (min i k) bad := by
               rcases Nat.lt_or_ge i k with h | h
               ·
                 rw [Nat.min_eq_left (by omega), Nat.min_eq_left (by omega), lost_next, if_neg hbi, List.append_nil]
               ·
                 rw [Nat.min_eq_right (by omega), Nat.min_eq_right (by omega)]
             rw [← hle] at hA5 ⊢
             exact WX.loop_next (i + 1, (al, cl), rs1.set i ⟨some ⟨g, 0, none⟩, cg, r.xs⟩) ⟨rfl, rfl, rfl, rfl, rfl, rfl, rfl, rfl, rfl, trivial⟩ ⟨by show i + 1 ≤ _; omega, hI5, hO5, hA5, hc, hb, hw⟩ (by show rs.length - (i + 1) < rs.length - i; omega))
          | exact WX.loop_next (q + 1, rs4.set (k + q) ⟨some ⟨g, 0, none⟩, n, x⟩) ⟨rfl, rfl, rfl, rfl, rfl, trivial⟩ ⟨by show q + 1 ≤ 3; omega, hFI5, hO5, hP5, hw⟩ (by show 3 - (q + 1) < 3 - q; omega)
          | exact WX.loop_next (q + 1, rs4) ⟨rfl, rfl, rfl, rfl, rfl, trivial⟩ ⟨by show q + 1 ≤ 3; omega, hFI.skip hbq, hO4, hP, hw⟩ (by show 3 - (q + 1) < 3 - q; omega)
          | exact WX.loop_next (i + 1, (a9, c9), rs1.set i ⟨some ⟨g, 0, none⟩, n, List.replicate n 0⟩) ⟨rfl, rfl, rfl, rfl, rfl, rfl, rfl, rfl, rfl, trivial⟩ ⟨by show i + 1 ≤ _; omega, hI5, hO9, hA9, hc, hb, hw⟩ (by show rs.length - (i + 1) < rs.length - i; omega)
          | (have hle : lostL (min (i + 1) k) bad = lostL (min i k) bad := by
               rw [Nat.min_eq_right (by omega), Nat.min_eq_right (by omega)]
             have hA5 := hA.mono (S' := fun b => w.heap.size ≤ b ∧ b ≠ go ∧ ∀ s ∈ rs1, s.ao ≠ some ⟨b, 0, none⟩) (fun b h => h.1)
             rw [← hle] at hA5 ⊢
             exact WX.loop_next (i + 1, (al, cl), rs1) ⟨rfl, rfl, rfl, rfl, rfl, rfl, rfl, rfl, rfl, trivial⟩ ⟨by show i + 1 ≤ _; omega, hI.skip ⟨by omega, hbi⟩, hO.up (by omega), hA5, hc, hb, hw⟩ (by show rs.length - (i + 1) < rs.length - i; omega))
      ·
        obtain ⟨gq, hgq4, _⟩ := hI.real (k + q) r1 hr1 (by omega) (fun h => hbq h.2)
        rw [show r4.ao.isNone = false from by rw [hao1, hgq4]; rfl]
        refine WL.nil (WX.then_normal (WC.cond_false rfl (WC.skip (WX.block_normal (WX.then_normal (WC.region (WL.add64 rfl rfl (by first | omega | (constructor <;> omega)) rfl (?_))))))))
        refine WL.move rfl rfl (WL.nil (?_))
        first
          | (have hle : lostL (min (i + 1) k) bad = lostL (min i k) bad := by
               rcases Nat.lt_or_ge i k with h | h
               ·
                 rw [Nat.min_eq_left (by omega), Nat.min_eq_left (by omega), lost_next, if_neg hbi, List.append_nil]
               ·
                 rw [Nat.min_eq_right (by omega), Nat.min_eq_right (by omega)]
             rw [← hle] at hA5 ⊢
             exact WX.loop_next (i + 1, (al, cl), rs1.set i ⟨some ⟨g, 0, none⟩, cg, r.xs⟩) ⟨rfl, rfl, rfl, rfl, rfl, rfl, rfl, rfl, rfl, trivial⟩ ⟨by show i + 1 ≤ _; omega, hI5, hO5, hA5, hc, hb, hw⟩ (by show rs.length - (i + 1) < rs.length - i; omega))
          | exact WX.loop_next (q + 1, rs4.set (k + q) ⟨some ⟨g, 0, none⟩, n, x⟩) ⟨rfl, rfl, rfl, rfl, rfl, trivial⟩ ⟨by show q + 1 ≤ 3; omega, hFI5, hO5, hP5, hw⟩ (by show 3 - (q + 1) < 3 - q; omega)
          | exact WX.loop_next (q + 1, rs4) ⟨rfl, rfl, rfl, rfl, rfl, trivial⟩ ⟨by show q + 1 ≤ 3; omega, hFI.skip hbq, hO4, hP, hw⟩ (by show 3 - (q + 1) < 3 - q; omega)
          | exact WX.loop_next (i + 1, (a9, c9), rs1.set i ⟨some ⟨g, 0, none⟩, n, List.replicate n 0⟩) ⟨rfl, rfl, rfl, rfl, rfl, rfl, rfl, rfl, rfl, trivial⟩ ⟨by show i + 1 ≤ _; omega, hI5, hO9, hA9, hc, hb, hw⟩ (by show rs.length - (i + 1) < rs.length - i; omega)
          | (have hle : lostL (min (i + 1) k) bad = lostL (min i k) bad := by
               rw [Nat.min_eq_right (by omega), Nat.min_eq_right (by omega)]
             have hA5 := hA.mono (S' := fun b => w.heap.size ≤ b ∧ b ≠ go ∧ ∀ s ∈ rs1, s.ao ≠ some ⟨b, 0, none⟩) (fun b h => h.1)
             rw [← hle] at hA5 ⊢
             exact WX.loop_next (i + 1, (al, cl), rs1) ⟨rfl, rfl, rfl, rfl, rfl, rfl, rfl, rfl, rfl, trivial⟩ ⟨by show i + 1 ≤ _; omega, hI.skip ⟨by omega, hbi⟩, hO.up (by omega), hA5, hc, hb, hw⟩ (by show rs.length - (i + 1) < rs.length - i; omega))
    ·
      refine WL.nil (WX.then_normal (WC.seq (WC.cond_false rfl (WC.exit (WX.then_exit (WX.then_exit (WX.block_here (?_))))))))
      refine WX.then_normal (WC.seq (WC.region (WL.move rfl rfl (WL.assign rfl rfl (WL.assign rfl rfl (WL.nil (WX.then_normal (?_))))))))
      refine WC.ret (?_)
      refine WX.ret2 (.inl rfl) Try.results19 rfl rfl ?_
      have hq3 : q = 3 := by omega
      subst hq3
      refine ⟨_, rfl, ⟨go, _, rs4, rfl, hO4, hgo, ?_⟩, hw⟩
      have hI2 := hI
      rw [show i = k + 3 by omega] at hI2
      refine rb_fin hI2 hH hFI.len hFI.low (fun q' h1 h2 => by rw [hFI.par q' h1, if_neg (fun h => h2 h.2)]) (fun q' h1 h2 => ?_)
      obtain ⟨g', x', hg', hp', hx', _, _⟩ := hpx0 q' h1
      refine ⟨_, by rw [hFI.par q' h1, if_pos ⟨h1, h2⟩]; exact hp', ?_⟩
      rw [hPP, three_at h1] at hx'
      injection hx' with hx'
      have htk : (xss rs3).take k = (xss rs4).take k := by
        apply List.ext_getElem?
        intro j
        rcases Nat.lt_or_ge j k with h3 | h3
        ·
          rw [List.getElem?_take_of_lt h3, List.getElem?_take_of_lt h3, xss, xss, List.getElem?_map, List.getElem?_map, hFI.low j h3]
        ·
          rw [List.getElem?_eq_none (by rw [List.length_take]; omega), List.getElem?_eq_none (by rw [List.length_take]; omega)]
      rw [← hx', hlk, xss_take, htk]
end Go.Proofs.Ytjdbjdgobhjbkaa
