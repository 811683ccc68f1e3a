import Derived.Test.YtjdbjdgobhjbkaaGb
namespace Go.HL
open Go.RowKit
/-- rows of the call's own, gathered one behind the other, each in a block of its own -/
structure AR (L N n1 : Nat) (w : World) (T U : TypeId) (ao : Option Addr) (c : Nat) (gs : List Nat) (rs : List Rw) : Prop where
  outer : Row (fun x => N ≤ x ∧ x < n1) w T erow ao c rs
  inner : ∀ (i g : Nat) (r : Rw), gs[i]? = some g → rs[i]? = some r → r.ao = some ⟨g, 0, none⟩ ∧ Row (fun b => b = g) w U eb (some ⟨g, 0, none⟩) r.cap r.xs ∧ g < n1 ∧ ¬ Eqb ao g
  len : gs.length = rs.length
  apart : ∀ (i j g : Nat), gs[i]? = some g → gs[j]? = some g → i = j
  low : ∀ (i g : Nat), gs[i]? = some g → L ≤ g
section
variable {L N n1 : Nat} {w w' : World} {T U : TypeId} {ao : Option Addr} {c : Nat} {gs : List Nat} {rs : List Rw} {M : Nat → Prop}
theorem AR.nil (L N n1 : Nat) (w : World) (T U : TypeId) : AR L N n1 w T U none 0 [] [] :=
  ⟨Row.nil _ _ _ _, fun i g r h => by simp at h, rfl, fun i j g h => by simp at h, fun i g h => by simp at h⟩
theorem AR.chg (h : AR L N n1 w T U ao c gs rs) (k : Chg M w w') (hd : ∀ x, x < n1 → M x → False) : AR L N n1 w' T U ao c gs rs :=
  ⟨h.outer.chg k (fun b _ hs hm => hd b hs.2 hm), fun i g r hg hr => by
    obtain ⟨h1, h2, h3, h4⟩ := h.inner i g r hg hr
    exact ⟨h1, h2.chg k (fun b _ hs hm => hd b (by have h5 : b = g := hs; omega) hm), h3, h4⟩, h.len, h.apart, h.low⟩
theorem AR.pure (h : AR L N n1 w T U ao c gs rs) (k : Chg Nob w w') : AR L N n1 w' T U ao c gs rs := h.chg k (fun _ _ x => x)
theorem get_snoc {α : Type} {l : List α} {a b : α} {i : Nat} (h : (l ++ [a])[i]? = some b) : l[i]? = some b ∨ i = l.length ∧ b = a := by
  rcases Nat.lt_or_ge i l.length with h2 | h2
  · rw [List.getElem?_append_left h2] at h; exact .inl h
  · rw [List.getElem?_append_right h2] at h
    have h3 := (List.getElem?_eq_some_iff.1 h).1
    simp at h3
    have h4 : i - l.length = 0 := by omega
    rw [h4] at h
    simp at h
    exact .inr ⟨by omega, h.symm⟩
/-- one more, which was made after all others -/
theorem AR.snoc (h : AR L N n1 w T U ao c gs rs) {g cr : Nat} {xs : List UInt8} (hg : n1 ≤ g) (hL : L ≤ g) (hr : Row (fun b => b = g) w U eb (some ⟨g, 0, none⟩) cr xs) (hs : n1 ≤ w.heap.size) {ao2 : Option Addr} {c2 : Nat} (ho : Row (fun x => N ≤ x) w' T erow ao2 c2 (rs ++ [⟨some ⟨g, 0, none⟩, cr, xs⟩])) (gw : Grow (fun x => N ≤ x) w ao w' ao2) :
    AR L N w'.heap.size w' T U ao2 c2 (gs ++ [g]) (rs ++ [⟨some ⟨g, 0, none⟩, cr, xs⟩]) := by
  have zs := gw.chg.size
  have hgl : g < w.heap.size := hr.own.lt _ rfl
  have hat : ∀ x, Eqb ao x → x < n1 := fun x e => (h.outer.at_.eqb e).2
  have hnew : ∀ x, x < w.heap.size → Eqb ao2 x → Eqb ao x := by
    intro x hx e
    rcases gw.fr with e1 | e1
    · rw [← e1]; exact e
    · have := e1.eqb e
      omega
  refine ⟨ho.lt, fun i g' r hg' hr' => ?_, by simp [h.len], fun i j g' h1 h2 => ?_, fun i g' h1 => ?_⟩
  · rcases get_snoc hg' with h1 | ⟨h1, h1'⟩
    · have hil := (List.getElem?_eq_some_iff.1 h1).1
      rw [List.getElem?_append_left (by rw [← h.len]; exact hil)] at hr'
      obtain ⟨h2, h3, h4, h5⟩ := h.inner i g' r h1 hr'
      exact ⟨h2, h3.chg gw.chg (fun b _ hb hm => h5 ((show b = g' from hb) ▸ hm.1)), by omega, fun e => h5 (hnew g' (by omega) e)⟩
    · subst h1; subst h1'
      rw [List.getElem?_append_right (by rw [h.len]; exact Nat.le_refl _), h.len, Nat.sub_self] at hr'
      simp at hr'
      subst hr'
      exact ⟨rfl, hr.chg gw.chg (fun b _ hb hm => by have h6 : b = g' := hb; have := hat b hm.1; omega), by omega, fun e => by have := hat g' (hnew g' hgl e); omega⟩
  · rcases get_snoc h1 with h3 | ⟨h3, h3'⟩ <;> rcases get_snoc h2 with h4 | ⟨h4, h4'⟩
    · exact h.apart i j g' h3 h4
    · have hil := (List.getElem?_eq_some_iff.1 h3).1
      obtain ⟨r, hr0⟩ : ∃ r, rs[i]? = some r := ⟨_, List.getElem?_eq_getElem (by rw [← h.len]; exact hil)⟩
      have := (h.inner i g' r h3 hr0).2.2.1
      omega
    · have hil := (List.getElem?_eq_some_iff.1 h4).1
      obtain ⟨r, hr0⟩ : ∃ r, rs[j]? = some r := ⟨_, List.getElem?_eq_getElem (by rw [← h.len]; exact hil)⟩
      have := (h.inner j g' r h4 hr0).2.2.1
      omega
    · omega
  · rcases get_snoc h1 with h3 | ⟨h3, h3'⟩
    · exact h.low i g' h3
    · omega
/-- one row has turned -/
theorem AR.upd (h : AR L N n1 w T U ao c gs rs) {r g : Nat} {q : Rw} {x' : List UInt8} (hg : gs[r]? = some g) (hx : rs[r]? = some q) (hl : x'.length = q.xs.length) (k : Chg (fun b => b = g) w w') (hr : Row (fun b => b = g) w' U eb (some ⟨g, 0, none⟩) q.cap x') :
    AR L N n1 w' T U ao c gs (rs.set r ⟨q.ao, q.cap, x'⟩) := by
  obtain ⟨h1, h2, h3, h4⟩ := h.inner r g q hg hx
  have hrl : r < rs.length := (List.getElem?_eq_some_iff.1 hx).1
  have hgo : ∀ x, x = g → N ≤ x ∧ x < n1 → Eqb ao x → False := fun x e _ hq => h4 (e ▸ hq)
  refine ⟨?_, fun i g' r' hg' hr' => ?_, by rw [List.length_set]; exact h.len, h.apart, h.low⟩
  · have hat : Row (fun x => (N ≤ x ∧ x < n1) ∧ ¬ x = g) w T erow ao c rs := ⟨fun a ea => ⟨h.outer.at_ a ea, fun e => h4 ⟨a, ea, e.symm⟩⟩, h.outer.own⟩
    have ho := hat.chg k (fun b _ hs hm => hs.2 hm)
    have e1 : erow.all (rs.set r ⟨q.ao, q.cap, x'⟩) = erow.all rs := by
      have : ∀ (ys : List Rw) (r : Nat), ys[r]? = some q → erow.all (ys.set r ⟨q.ao, q.cap, x'⟩) = erow.all ys := by
        intro ys
        induction ys with
        | nil => intro r hr; simp at hr
        | cons y ys ih =>
          intro r hr
          cases r with
          | zero =>
            simp at hr
            subst hr
            simp [Enc.all, erow, hl]
          | succ r =>
            have := ih r (by simpa using hr)
            simp only [Enc.all] at this
            simp [Enc.all, this]
      exact this rs r hx
    exact ⟨fun a ea => (ho.at_ a ea).1, by rw [e1, List.length_set]; exact ho.own⟩
  · by_cases hir : i = r
    · subst hir
      rw [hg] at hg'
      injection hg' with hg'
      subst hg'
      rw [List.getElem?_set_self hrl] at hr'
      injection hr' with hr'
      subst hr'
      exact ⟨h1, hr, h3, h4⟩
    · rw [List.getElem?_set_ne (fun e => hir e.symm)] at hr'
      obtain ⟨i1, i2, i3, i4⟩ := h.inner i g' r' hg' hr'
      refine ⟨i1, i2.chg k (fun b _ hb hm => ?_), i3, i4⟩
      have e1 : b = g' := hb
      have e2 : b = g := hm
      exact hir (h.apart i r g (by rw [← e2, e1]; exact hg') hg)
/-- as rows that are read -/
theorem AR.read (h : AR L N n1 w T U ao c gs rs) : RS (fun _ => True) w ao c rs := by
  refine ⟨h.outer.rsl.mono (fun _ _ => trivial), fun r hr => ?_⟩
  obtain ⟨i, hi⟩ := List.getElem?_of_mem hr
  have hil := (List.getElem?_eq_some_iff.1 hi).1
  obtain ⟨g, hg⟩ : ∃ g, gs[i]? = some g := ⟨_, List.getElem?_eq_getElem (by rw [h.len]; exact hil)⟩
  obtain ⟨h1, h2, _⟩ := h.inner i g r hg hi
  rw [h1]
  exact h2.rsl.mono (fun _ _ => trivial)
end
end Go.HL
namespace Go.HL
open Go.RowKit
theorem get_app {α : Type} {l m : List α} {b : α} {i : Nat} (h : (l ++ m)[i]? = some b) : i < l.length ∧ l[i]? = some b ∨ l.length ≤ i ∧ m[i - l.length]? = some b := by
  rcases Nat.lt_or_ge i l.length with h2 | h2
  · rw [List.getElem?_append_left h2] at h; exact .inl ⟨h2, h⟩
  · rw [List.getElem?_append_right h2] at h; exact .inr ⟨h2, h⟩
/-- three more, which were made ahead of all others -/
theorem AR.app {L N n1 : Nat} {w w' : World} {T U : TypeId} {ao ao2 : Option Addr} {c c2 go k n : Nat} {gs gs' : List Nat} {rs : List Rw} {ys : List (List UInt8)} (h : AR L N n1 w T U ao c gs rs) (hp : OR w T U go k gs' n ys []) (hLN : N ≤ L)
    (hlt : ∀ (i g : Nat), gs'[i]? = some g → g < N) (hNn : N ≤ n1) (hs : n1 ≤ w.heap.size) (ho : Row (fun x => N ≤ x) w' T erow ao2 c2 (rs ++ orows gs' n ys)) (gw : Grow (fun x => N ≤ x) w ao w' ao2) :
    AR 0 N w'.heap.size w' T U ao2 c2 (gs ++ gs') (rs ++ orows gs' n ys) := by
  have zs := gw.chg.size
  have hat : ∀ x, Eqb ao x → N ≤ x ∧ x < n1 := fun x e => h.outer.at_.eqb e
  have hnew : ∀ x, x < w.heap.size → Eqb ao2 x → Eqb ao x := by
    intro x hx e
    rcases gw.fr with e1 | e1
    · rw [← e1]; exact e
    · have := e1.eqb e
      omega
  have hol := orows_len (n := n) hp.len
  refine ⟨ho.lt, fun i g' r hg' hr' => ?_, by rw [List.length_append, List.length_append, h.len, hol], fun i j g' h1 h2 => ?_, fun i g' h1 => Nat.zero_le _⟩
  · rcases get_app hg' with ⟨h0, h1⟩ | ⟨h0, h1⟩
    · rw [List.getElem?_append_left (by rw [← h.len]; exact h0)] at hr'
      obtain ⟨h2, h3, h4, h5⟩ := h.inner i g' r h1 hr'
      exact ⟨h2, h3.chg gw.chg (fun b _ hb hm => h5 ((show b = g' from hb) ▸ hm.1)), by omega, fun e => h5 (hnew g' (by omega) e)⟩
    · rw [List.getElem?_append_right (by rw [← h.len]; exact h0), ← h.len] at hr'
      have hil := (List.getElem?_eq_some_iff.1 h1).1
      obtain ⟨y, hy⟩ : ∃ y, ys[i - gs.length]? = some y := ⟨_, List.getElem?_eq_getElem (by rw [← hp.len]; exact hil)⟩
      have hrow := hp.inner _ g' y h1 hy
      rw [orows, List.getElem?_zipWith, h1, hy] at hr'
      injection hr' with hr'
      subst hr'
      have hg'N := hlt _ g' h1
      exact ⟨rfl, hrow.chg gw.chg (fun b _ hb hm => by have h6 : b = g' := hb; have := hat b hm.1; omega), by omega, fun e => by have := hat g' (hnew g' (by omega) e); omega⟩
  · rcases get_app h1 with ⟨h3, h3'⟩ | ⟨h3, h3'⟩ <;> rcases get_app h2 with ⟨h4, h4'⟩ | ⟨h4, h4'⟩
    · exact h.apart i j g' h3' h4'
    · have := h.low i g' h3'
      have := hlt _ g' h4'
      omega
    · have := h.low j g' h4'
      have := hlt _ g' h3'
      omega
    · have := hp.apart _ _ g' h3' h4'
      omega
end Go.HL
